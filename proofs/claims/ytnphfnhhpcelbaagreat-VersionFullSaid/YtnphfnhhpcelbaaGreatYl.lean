/- A part. -/
import Derived.Test.YtnphfnhhpcelbaaGreatYk
set_option linter.unusedSectionVars false
set_option linter.unusedVariables false
namespace Go.DD
open Go Go.Proofs
theorem Bx8(k:Nat)(hp:Tr DObj)(nx:Nat)(K:DV->Tr DObj->Nat->Prop)(d:DV)(l:List (List PCell))(P:Nat->Prop)(hP:∀ j,P j->j<nx)(h1:RL rCells hp P d l)(Ha:l≠[])(hl:l.length<2000000000)(hK:∀ Ao,(∀ j,j<nx->Ao.get j=hp.get j)->OL rCells Ao P (.ms (nx+1) 0 l.length 1) l->K (.ms (nx+1) 0 l.length 1) Ao (nx+2)):KW (kN (k+1)) (.fn 139) [d] hp nx K:=by
 have hr:Lg 139 [d]=none:=by
  unfold Lg
  rw [Ad (by decide),Af (by decide)]
  split
  .rename_i e
   exact absurd (by cases h1 <;> simp_all) Ha
  .rfl
 refine En hr WU (Ab rfl) λes e1 e2 he=>?_
 have a0:Ae es (.t .o)=d:=he 0 _ rfl
 subst e1 e2
 unfold DP
 simp only [Ax,↓Ba,a0]
 refine iJ false (by simp only [Cg,bR,bP,h1.live];exact h1.notnil Ha) lW ?_
 simp only [Ax,↓Ba]
 refine Vt (fl:=[]) (by rfl) (by rfl) λEi Dm Cv=>?_
 simp only [bR] at Dm Cv
 simp only [Ax,↓Ba,a0]
 have r1:RL rCells Ei P d l:=h1.keep λj hj=>Cv j (by have:=hP j hj;omega)
 refine jT (R:=rCells) (p:=P) (p2:=P) (d:=.ms es.nx 0 0 rCells.e) (d2:=d) (l:=[]) (m:=l) (by simp only [bR,bP];rfl) (.ms es.nx [] [] Dm rfl) (by simp only [Cg,bR,bP];exact r1.live) (r1.srcD (es:=⟨_,Ei,_⟩)) rfl rfl (by simp;omega) (by decide) λDb Et h2=>?_
 simp only [bR,Bv] at Et h2
 have h3:=h2 P (λj hj=>by have QB:P j:=hj.elim id id;have Qv:=hP j QB;exact ⟨QB,by omega,by simp [DV.refs];omega⟩)
 simp only [Ax,↓Ba,bP,h3.rl.live]
 refine hK _ (λj hj=>?_) h3
 rw [Et j (by omega) (by simp [DV.refs];omega),Cv j (by omega)]
theorem X9{hp:Tr DObj}{p:Nat->Prop}{d:DV}{l:List (List PCell)}(h:RL rCells hp p d l){i:Nat}(hi:i<l.length):Rr hp 1 d (.v (.int .i64 (i:Int)))=some (Ca 1 d i):=h.ia hi
theorem OL.atS{α:Type}{R:Rep α}{T:Nat}{hd:R.dep+1<=6}{hp:Tr DObj}{p:Nat->Prop}{id n:Nat}{l:List (List α)}(h:OL (Sc R T hd) hp p (.ms id 0 n 1) l){i:Nat}(hi:i<l.length):∃ a,RL R hp p a l[i]/\Gl hp none (Ca 1 (.ms id 0 n 1) i)=some a:=by
 obtain ⟨_,_,fl,hg,hr⟩:=h.get
 obtain ⟨rest,e1,a,e2,h2⟩:=hr.at hi
 refine ⟨a,h2,?_⟩
 show Gl hp none (.pt id (0+i*1))=_
 have lG:fl.drop (i*1)=((fl.drop (i*1)).take 1)++rest:=e1
 have e2':(fl.drop (i*1)).take 1=[a]:=e2
 rw [Ro hg,Cp,lG,e2']
 rfl
def rQ:Rep (List PVal):=uK rVal 37
theorem RL.iaN{hp:Tr DObj}{p:Nat->Prop}{d:DV}{l:List (List PVal)}(h:RL rQ hp p d l){i:Nat}(hi:i<l.length):Rr hp 1 d (.v (.int .i64 (i:Int)))=some (Ca 1 d i):=h.ia hi
theorem RL.atN{hp:Tr DObj}{p:Nat->Prop}{d:DV}{l:List (List PVal)}(h:RL rQ hp p d l){i:Nat}(hi:i<l.length):∃ a,RL rVal hp p a l[i]/\Nn a l[i]/\Gl hp none (Ca 1 d i)=some a:=by
 obtain ⟨ds,hr,h1,h0,h2⟩:=h.at hi
 obtain ⟨a,rfl,h3,h4⟩:=hr
 exact ⟨a,h3,h4,h0 _ rfl⟩
def AtR(hp:Tr DObj)(P:Nat->Prop)(A:DV):Option (List Int)->Prop
 | none=>A=Cl
 | some p=>RL rInt hp P A p/\p≠[]/\p.length<900000
def Kj{α β:Type}(f g:α->β)(i:Nat)(l:List α):List β:=l.mapIdx λj x=>if j<i then f x else g x
theorem Bx9{α β:Type}(f g:α->β)(i:Nat)(l:List α):(Kj f g i l).length=l.length:=by simp [Kj]
theorem xC{α β:Type}(f g:α->β)(l:List α):Kj f g 0 l=l.map g:=by
 refine Jj (by simp [Kj]) λj h1 h2=>?_
 simp [Kj]
theorem FI{α β:Type}(f g:α->β)(l:List α):Kj f g l.length l=l.map f:=by
 refine Jj (by simp [Kj]) λj h1 h2=>?_
 have:j<l.length:=by simpa [Kj] using h1
 simp [Kj,this]
theorem C10{α β:Type}(f g:α->β)(l:List α){i:Nat}(h:i<l.length)(h2:i<(Kj f g i l).length):(Kj f g i l)[i]=g l[i]:=by simp [Kj]
theorem nN{α β:Type}(f g:α->β)(l:List α){i:Nat}(h:i<l.length):(Kj f g i l).set i (f l[i])=Kj f g (i+1) l:=by
 refine Jj (by simp [Kj]) λj h1 h2=>?_
 have hj:j<l.length:=by simpa [Kj] using h2
 rw [Pu]
 by_cases e:i=j
 .subst e;simp [Kj]
 .rw [Ad e]
  simp only [Kj,List.getElem_mapIdx]
  by_cases c:j<i
  .rw [Af c,Af (by omega)]
  .rw [Ad c,Ad (by omega)]
theorem xB{α β:Type}(f g:α->β)(l:List α){i:Nat}(h:i<l.length)(he:f l[i]=g l[i]):Kj f g i l=Kj f g (i+1) l:=by
 rw [<- nN f g l h]
 refine (Jj (by simp) λj h1 h2=>?_)
 rw [Pu]
 by_cases e:i=j
 .subst e;simp [Kj,he]
 .rw [Ad e]
theorem Ch3{call:Bg}{es:ES}{dst:Option Pa}{Q:ES->Prop}{T e n:Nat}{z:List Value}{x y:Operand} : SW (sU dst (Bd (.mks T e n z x y))) call es Q↔@Nr (sU dst (Bd (.mks T e n z x y))) call es ⟨Q⟩:=Da
section
variable (k L bx T:Nat) (d:DV) (Ve:List (List PCell)) (P:Nat->Prop) (J S:List (List Int×List (List PVal))->(Nat->Prop)->Tr DObj->Nat->Prop) (M0:Nat->Prop) (hp:Tr DObj) (nx:Nat) (K:DV->Tr DObj->Nat->Prop)
theorem B81(fO:hp.get bx=some (.row T [d]))(hd:RL rCells hp P d Ve)(hP:∀ j,P j->j<nx/\¬ M0 j)(Ha:Ve≠[])(hl:Ve.length<=1000)
  (hc:∀ h∈Ve,∀ c∈h,c.pos≠[]/\c.pos.length<900000/\c.vals≠[]) (bu:Za Ve<900000)
  (hJ0:J [] M0 hp nx) (hJM:∀ W M hp nx,J W M hp nx->∀ j,M j->j<nx) (hJL:∀ W M hp nx,J W M hp nx->M L/\∃ o,hp.get L=some o)
  (ko:∀ W M hp nx Ao Bk,J W M hp nx->nx<=Bk->(∀ j,M j\/P j->Ao.get j=hp.get j)->J W M Ao Bk)
  (Pc:∀ W M hp nx a s p vQ (K:DV->Tr DObj->Nat->Prop),J W M hp nx->(W ++ [(p,vQ)]) <+: Hy Ve->RL rInt hp P a p->OL rQ hp P s vQ->(∀ j∈s.refs,j<nx/\¬ M j)->(∀ j,P j->j<nx/\¬ M j)->
   (∀ Ao Bk M',nx<=Bk->(∀ j,j<nx->¬ M j->Ao.get j=hp.get j)->(∀ j,M' j->M j\/nx<=j)->J (W ++ [(p,vQ)]) M' Ao Bk->K (bv true) Ao Bk)->
   (∀ Ao Bk M',nx<=Bk->(∀ j,j<nx->¬ M j->Ao.get j=hp.get j)->(∀ j,M' j->M j\/nx<=j)->S (W ++ [(p,vQ)]) M' Ao Bk->K (bv false) Ao Bk)->KW (kN (k+4)) (.yl L) [a,s] hp nx K)
  (hK:∀ Ao Bk M',nx<=Bk->(∀ j,j<nx->¬ M0 j->Ao.get j=hp.get j)->(∀ j,M' j->M0 j\/nx<=j)->J (Hy Ve) M' Ao Bk->K (.tup []) Ao Bk)
  (hKS:∀ W Ao Bk M',nx<=Bk->(∀ j,j<nx->¬ M0 j->Ao.get j=hp.get j)->(∀ j,M' j->M0 j\/nx<=j)->S W M' Ao Bk->K (.tup []) Ao Bk) :
  KW (kN (k+5)) (.fn 138) [.yl L,.pt bx 0] hp nx K:=by
 refine Ss (Hm (by decide)) WW (Ab rfl) λes e1 e2 he=>?_
 have a0:Ae es (.t .o)=.yl L:=he 0 _ rfl
 have a1:Ae es (.t (.l .o))=.pt bx 0:=he 1 _ rfl
 unfold DQ
 subst e1 e2
 simp only [Ax,↓Ba,a1,qM fO]
 refine Fl (Bx8 (k+3) _ _ _ d Ve P (λj hj=>(hP j hj).1) hd Ha (by omega) λEi Cv J8=>?_)
 have hM0:=hJM _ _ _ _ hJ0
 have U9:J [] M0 Ei (es.nx+2):=ko _ _ _ _ _ _ hJ0 (by omega) λj hj=>Cv j (hj.elim (hM0 j) λh=>(hP j h).1)
 simp only [Ax,↓Ba]
 refine EW.l (I:=λn An=>∃ hs W M,Za hs<=n/\n<900000/\hs.length=Ve.length/\(∀ h∈hs,∀ c∈h,c.pos≠[]/\c.pos.length<900000/\c.vals≠[])/\es.nx+2<=An.nx/\(∀ j,j<es.nx->¬ M0 j->An.hp.get j=es.hp.get j)/\(∀ j,M j->M0 j\/es.nx+2<=j)/\J W M An.hp An.nx/\OL rCells An.hp P (.ms (es.nx+1) 0 Ve.length 1) hs/\Ae An (.t .o)=.yl L/\Ae An (.t (.l (.l .o)))=.ms (es.nx+1) 0 Ve.length 1/\W++Kg n hs=Hy Ve) ?_ (Za Ve) 1000000 _ ?_ (by omega)
 .rintro n An ⟨hs,W,M,cb,hn9,hlen,pD,hle,Ct,O1,hJ,ho,b0,b3,hW⟩
  unfold Cg1
  have Wy:∀ j,P j->j<es.nx/\¬ M j:=λj hj=>⟨(hP j hj).1,λh=>(O1 j h).elim (hP j hj).2 λh=>by have:=(hP j hj).1;omega⟩
  have kJ:=ho.rl
  simp only [Ax,↓Ba,b3,kJ.len]
  refine EW.up hs.length (λi Cb=>∃ A st,Cb.hp=An.hp/\An.nx<=Cb.nx/\Ae Cb (.t .o)=.yl L/\Ae Cb (.t (.l (.l .o)))=.ms (es.nx+1) 0 Ve.length 1/\Ae Cb (.t (.r (.l (.r .o))))=.ms (es.nx+1) 0 Ve.length 1/\Ae Cb (.t (.l (.r (.r .o))))=iv hs.length/\Ae Cb (.t (.r (.r (.r .o))))=iv (i:Nat)/\Ae Cb (.t (.r (.l .o)))=A/\AtR An.hp P A st/\Ja st (hs.drop i)=Ja none hs) ?_ ?_ (by omega)
  .rintro i Cb hi ⟨A,st,g1,g2,x0,x3,qV,jW,dH,x4,hA,Ws⟩
   unfold Cf9
   rw [<- g1] at kJ hA ho
   by_cases h:i<hs.length
   .obtain ⟨hh,rh,lh⟩:=ho.atS h
    rw [Bb h] at Ws
    have Yf:=pD _ (Bh h)
    generalize hs[i]=H at rh Ws Yf
    cases H with
    | nil=>
     have Yb:Ja st (hs.drop (i+1))=Ja none hs:=by rw [<- Ws];cases st <;> rfl
     simp only [Ax,↓Ba,x0,x3,qV,jW,dH,x4,h,X9 kJ h,lh,rh.len,My,show decide ((0:Int)<0)=false from rfl,Jx (show i<_ by omega)]
     exact ⟨A,st,g1,g2,rfl,by rw [<- g1];exact hA,Yb⟩
    | cons c t=>
     have Yf:=Yf c (by simp)
     have h0:0<(c::t).length:=by simp
     obtain ⟨pA,vA,Tc,Ul,_,_,GA,_⟩:=Ev rh h0
     simp only [Ho] at Tc
     cases st with
     | none=>
      have hA:A=Cl:=hA
      subst hA
      have Yb:Ja (some c.pos) (hs.drop (i+1))=Ja none hs:=Ws
      simp only [Ax,↓Ba,qV,jW,dH,x4,h,X9 kJ h,lh,rh.len,show (0:Int)<((c::t).length:Int) from Int.natCast_pos.2 h0]
      refine iJ true (by simp only [Cg,bR,bP,Cl,Ns];rfl) lW ?_
      simp only [Ax,↓Ba,x0,x3,qV,jW,dH,h,NP rh h0,C6 (k:=0) rh h0,GA,Jx (show i<_ by omega)]
      exact ⟨pA,some c.pos,g1,g2,rfl,⟨by rw [<- g1];exact Tc,Yf.1,Yf.2.1⟩,Yb⟩
     | some p=>
      obtain ⟨hA,Ei,Db⟩:=hA
      simp only [Ax,↓Ba,qV,jW,dH,x4,h,X9 kJ h,lh,rh.len,show (0:Int)<((c::t).length:Int) from Int.natCast_pos.2 h0]
      refine iJ false (by simp only [Cg,bR,bP,hA.live];exact hA.notnil Ei) lW ?_
      simp only [Ax,↓Ba,x4,NP rh h0,C6 (k:=0) rh h0,GA]
      refine Fl (D0 k es.nx _ _ _ pA A c.pos p (by omega) (Tc.mono λj hj=>(Wy j hj).1) (hA.mono λj hj=>(Wy j hj).1) Yf.2.1 ?_)
      by_cases c1:Cq c.pos p = -1
      .have Yb:Ja (some c.pos) (hs.drop (i+1))=Ja none hs:=by rw [<- Ws];show _=if Cq c.pos p = -1 then _ else _;rw [Af c1]
       simp only [Ax,↓Ba,x0,x3,qV,jW,dH,h,show Cq c.pos p<0 by omega,NP rh h0,C6 (k:=0) rh h0,GA,Jx (show i<_ by omega)]
       exact ⟨pA,some c.pos,g1,g2,rfl,⟨by rw [<- g1];exact Tc,Yf.1,Yf.2.1⟩,Yb⟩
      .have Yb:Ja (some p) (hs.drop (i+1))=Ja none hs:=by rw [<- Ws];show _=if Cq c.pos p = -1 then _ else _;rw [Ad c1]
       simp only [Ax,↓Ba,x0,x3,qV,jW,dH,x4,h,show ¬ Cq c.pos p<0 by have:=lX c.pos p;omega,Jx (show i<_ by omega)]
       exact ⟨A,some p,g1,g2,rfl,⟨by rw [<- g1];exact hA,Ei,Db⟩,Yb⟩
   .rw [Bc (by omega)] at Ws
    have If:Ja none hs=st:=by rw [<- Ws];cases st <;> rfl
    simp only [Ax,↓Ba,jW,dH,x4,h]
    cases st with
    | none=>
     have hA:A=Cl:=hA
     subst hA
     refine iJ true (by simp only [Cg,bR,bP,Cl,Ns];rfl) lW ?_
     simp only [Ax,↓Ba]
     have hWe:W=Hy Ve:=by rw [<- hW,TU If,Dh]
     subst hWe
     refine hK _ _ M (by omega) (by rw [g1];exact Ct) (λj hj=>(O1 j hj).imp id λh=>by omega) (ko _ _ _ _ _ _ hJ g2 λj hj=>by rw [g1])
    | some p=>
     obtain ⟨hA,Ei,Db⟩:=hA
     refine iJ false (by simp only [Cg,bR,bP,hA.live];exact hA.notnil Ei) lW ?_
     simp only [Ax,↓Ba,x3,kJ.len]
     simp only [↓Ch3]
     refine B80 (R:=rVal) (T:=37) (hd:=by decide) (n:=hs.length) (by simp only [Cg,bR,bP,Ns]) (by simp only [Cg,bR,bP,Ns]) (by omega) rfl (by omega) λGz yR Fp=>?_
     simp only [bR] at yR Fp
     simp only [Ax,x3]
     have II:OL rCells Gz P (.ms (es.nx+1) 0 Ve.length 1) hs:=by
      exact ho.keep λj hj=>Fp j (by
       rcases hj with hj | hj
       .have:=(Wy j hj).1;omega
       .simp [DV.refs] at hj;omega)
     have hA4:RL rInt Gz P A p:=hA.keep λj hj=>Fp j (by have:=(Wy j hj).1;omega)
     simp only [Ax,II.rl.len]
     refine EW.up hs.length (λi Ks=>OL rCells Ks.hp P (.ms (es.nx+1) 0 Ve.length 1) (Kj (Tb p) id i hs)/\OL rQ Ks.hp P (.ms Cb.nx 0 hs.length 1) (Kj (bZ p) (λ_=>[]) i hs)/\(∀ j,j≠es.nx+1->j≠Cb.nx->Ks.hp.get j=Gz.get j)/\Cb.nx+1<=Ks.nx/\Ae Ks (.t .o)=.yl L/\Ae Ks (.t (.l (.l .o)))=.ms (es.nx+1) 0 Ve.length 1/\Ae Ks (.t (.r (.l .o)))=A/\Ae Ks (.t (.l (.l (.l .o))))=.ms Cb.nx 0 hs.length 1/\Ae Ks (.t (.r (.l (.r (.r (.l .o))))))=.ms (es.nx+1) 0 Ve.length 1/\Ae Ks (.t (.l (.r (.r (.r (.l .o))))))=iv hs.length/\Ae Ks (.t (.r (.r (.r (.r (.l .o))))))=iv (i:Nat)) ?_ ?_ (by omega)
     .rintro i Ks hi ⟨oH,oS,bS,Jb,y0,y3,y4,y7,OP,AF,AE⟩
      unfold Cg0
      have QR:RL rInt Ks.hp P A p:=hA4.keep λj hj=>bS j (by have:=(Wy j hj).1;omega) (by have:=(Wy j hj).1;omega)
      by_cases h:i<hs.length
      .have hH:i<(Kj (Tb p) id i hs).length:=by rw [Bx9];exact h
       obtain ⟨hh,rh,lh⟩:=oH.atS hH
       have rh:RL rCell Ks.hp P hh hs[i]:=by rw [C10 _ _ _ h] at rh;exact rh
       have Yf:=pD _ (Bh h)
       have e1:=xB (Tb p) id hs h
       have e2:=xB (bZ p) (λ_=>[]) hs h
       have s1:=nN (Tb p) id hs h
       have s2:=nN (bZ p) (λ_=>[]) hs h
       generalize hs[i]=H at rh Yf e1 e2 s1 s2
       cases H with
       | nil=>
        simp only [Ax,↓Ba,y0,y3,y4,y7,OP,AF,AE,h,X9 oH.rl hH,lh,rh.len,My,show decide ((0:Int)<0)=false from rfl,Jx (show i<_ by omega)]
        exact ⟨by rw [<- e1 rfl];exact oH,by rw [<- e2 rfl];exact oS,bS,Jb⟩
       | cons c t=>
        have Yf:=Yf c (by simp)
        have h0:0<(c::t).length:=by simp
        obtain ⟨pA,vA,Tc,Ul,_,_,GA,ZY⟩:=Ev rh h0
        simp only [Ho] at Tc Ul
        simp only [Ax,↓Ba,y4,OP,AF,AE,h,X9 oH.rl hH,lh,rh.len,show (0:Int)<((c::t).length:Int) from Int.natCast_pos.2 h0,NP rh h0,C6 (k:=0) rh h0,GA]
        refine Fl (D0 k es.nx _ _ _ pA A c.pos p (by omega) (Tc.mono λj hj=>(Wy j hj).1) (QR.mono λj hj=>(Wy j hj).1) Yf.2.1 ?_)
        by_cases c1:c.pos=p
        .have CI:=rh.mono (q:=Bl es.nx) λj hj=>(Wy j hj).1
         obtain ⟨_,_,flH,hgH,_⟩:=oH.get
         obtain ⟨_,_,flS,hgS,_⟩:=oS.get
         have hS:i<(Kj (bZ p) (λ_=>[]) i hs).length:=by rw [Bx9];exact h
         have v1:Go.DD.sliE 2 hh (some (.v (.int .i64 1))) none=some (lY 2 1 (c::t).length hh):=rh.sliE (e:=2) (a:=1) (z:=(c::t).length) (lo:=some (.v (.int .i64 1))) (hi:=none) rfl rfl (λn hn=>by rw [hn];rfl) h0 (Ai _)
         have rs:RL rCell Ks.hp P (lY 2 1 (c::t).length hh) t:=by
          have this:RL rCell Ks.hp P (lY 2 1 (c::t).length hh) (((c::t).drop 1).take ((c::t).length-1)):=rh.part (a:=1) (z:=(c::t).length) h0 (Ai _)
          have e:((c::t).drop 1).take ((c::t).length-1)=t:=by simp
          rw [e] at this
          exact this
         have rs':=rs.mono (q:=Bl es.nx) λj hj=>(Wy j hj).1
         have nE:=Ul.mono (q:=Bl es.nx) λj hj=>(Wy j hj).1
         have roS:∀ an,Ii (Ca 1 (.ms Cb.nx 0 hs.length 1) i) (λid=>Cs Ks.nx 14 an Ks.hp id):=λan j hj=>by
          have:j=Cb.nx:=by simpa [DV.refs] using uS _ _ _ j hj
          rw [this];exact Mp hgS (by omega)
         simp only [Ax,↓Ba,bP,y3,y7,cmpL_0.2 c1,NP rh h0,C6 (k:=1) rh h0,ZY,CI.rox (show es.nx<=Ks.nx by omega),R7 CI (show es.nx<=Ks.nx by omega),vd CI (show es.nx<=Ks.nx by omega),Mp (n0:=Ks.nx) (m:=14) hgH (show es.nx+1<Ks.nx by omega),Mp (n0:=Ks.nx) (m:=14) hgS (show Cb.nx<Ks.nx by omega),Cz3,Cf,Option.map_none,rh.live,v1,oS.rl.iaN hS,Bn (roS _),nE.rox (show es.nx<=Ks.nx by omega)]
         refine Nt rfl (Cp8 (R:=rVal) (T:=37) (hd:=by decide) (p:=P) (id:=Cb.nx) (i:=i) (n:=hs.length) (m:=c.vals) (by simp only [bR];show DV.pt Cb.nx (0+i*1)=_;simp) oS (by simp only [Hl,bR,Ul.live]) Ul (.inl Yf.2.2) hS (λh=>by have:=(Wy _ h).1;omega) λHp oS5 Io=>?_)
         simp only [bR] at Io
         have tR:∀ j,j<es.nx->Hp.get j=Ks.hp.get j:=λj hj=>Io j (by omega)
         have ZV:OL rCells Hp P (.ms (es.nx+1) 0 Ve.length 1) _:=oH.keep λj hj=>Io j (by
          rcases hj with hj | hj
          .have:=(Wy j hj).1;omega
          .simp [DV.refs] at hj;omega)
         obtain ⟨_,_,aT2,tU,_⟩:=ZV.get
         have XS:=rs.keep (Ao:=Hp) λj hj=>tR j (Wy j hj).1
         have XR:=XS.mono (q:=Bl es.nx) λj hj=>(Wy j hj).1
         have roH:∀ an,Ii (Ca 1 (.ms (es.nx+1) 0 Ve.length 1) i) (λid=>Cs Ks.nx 14 an Hp id):=λan j hj=>by
          have:j=es.nx+1:=by simpa [DV.refs] using uS _ _ _ j hj
          rw [this];exact Mp tU (by omega)
         simp only [Ax,↓Ba,Mp (n0:=Ks.nx) (m:=14) tU (show es.nx+1<Ks.nx by omega),X9 ZV.rl hH,Bn (roH _),XR.rox (show es.nx<=Ks.nx by omega)]
         refine Nt rfl (Cp7 (R:=rCell) (T:=24) (hd:=by decide) (p:=P) (id:=es.nx+1) (i:=i) (n:=Ve.length) (m:=t) (by simp only [bR];show DV.pt (es.nx+1) (0+i*1)=_;simp) ZV (by simp only [Hl,bR,XS.live]) XS hH (λh=>by have:=(Wy _ h).1;omega) λJf oH6 Py=>?_)
         simp only [bR] at Py
         have fu:∀ j,j<es.nx->Jf.get j=Ks.hp.get j:=λj hj=>(Py j (by omega)).trans (tR j hj)
         have oS6:OL rQ Jf P (.ms Cb.nx 0 hs.length 1) _:=OL.keep (R:=rQ) oS5 λj hj=>Py j (by
          rcases hj with hj | hj
          .have:=(Wy j hj).1;omega
          .simp [DV.refs] at hj;omega)
         simp only [Ax,↓Ba,y0,y3,y4,y7,OP,AF,AE,h,Jx (show i<_ by omega)]
         obtain ⟨_,_,aT1,ie,_⟩:=oH6.get
         have Gy:PsOK [⟨13,[12,9,11,0,1,2,3,4,5,6,7,8,10],Hp,Jf⟩,⟨11,[10,7,0,1,4,5,6],Ks.hp,Hp⟩] Ks.hp es.nx:=((PsOK.nil _ _).cons (λ_ _=>rfl) tR).cons tR fu
         have s1':(Kj (Tb p) id i hs).set i t=Kj (Tb p) id (i+1) hs:=by rw [<- s1,Sb,Af c1]
         have s2':(Kj (bZ p) (λ_=>[]) i hs).set i c.vals=Kj (bZ p) (λ_=>[]) (i+1) hs:=by rw [<- s2,iL,Af c1]
         refine ⟨Z4 CI (λj (hj:j<es.nx)=>by omega) Gy (λ_ h=>h) (Z4 CI (λj (hj:j<es.nx)=>by omega) Gy (λ_ h=>h) (sA (λj hj=>?_) (ND _ _ _))),by rw [<- s1'];exact oH6,by rw [<- s2'];exact oS6,λj gf Qv=>by rw [Py j gf,Io j Qv,bS j gf Qv],by omega⟩
         have hj:j=es.nx+1:=by simpa [DV.refs] using hj
         subst hj
         refine ⟨by omega,λp hp=>.inr (.inr ?_)⟩
         rw [Ad (by simp)]
         simp only [Aq,Ci,or_false] at hp
         rcases hp with rfl | rfl
         .show (((Hp.get (es.nx+1)).isSome)==((Jf.get (es.nx+1)).isSome))=true
          rw [tU,ie];rfl
         .show (((Ks.hp.get (es.nx+1)).isSome)==((Hp.get (es.nx+1)).isSome))=true
          rw [hgH,tU];rfl
        .simp only [Ax,↓Ba,y0,y3,y4,y7,OP,AF,AE,h,show decide (Cq c.pos p=0)=false by simp [cmpL_0,c1],Jx (show i<_ by omega)]
         exact ⟨by rw [<- e1 (by rw [Sb,Ad c1];rfl)];exact oH,by rw [<- e2 (by rw [iL,Ad c1])];exact oS,bS,Jb⟩
      .have QR:=QR
       have cO:i=hs.length:=by omega
       subst cO
       rw [FI] at oH oS
       have hPl:∀ j,P j->j<es.nx:=λj hj=>(Wy j hj).1
       have hMl:=hJM _ _ _ _ hJ
       have kh:∀ j,M j->j≠es.nx+1/\j≠Cb.nx:=λj hj=>⟨λe=>(O1 j hj).elim (λh=>by have:=hM0 j h;omega) λh=>by omega,λe=>by have:=hMl j hj;omega⟩
       have jA:∀ j,j<An.nx->j≠es.nx+1->Ks.hp.get j=An.hp.get j:=λj hj Qv=>by rw [bS j Qv (by omega),Fp j (by omega),g1]
       have U8:J W M Ks.hp Ks.nx:=ko _ _ _ _ _ _ hJ (by omega) λj hj=>hj.elim (λhj=>jA j (hMl j hj) (kh j hj).1) λhj=>jA j (by have:=(Wy j hj).1;omega) (by have:=(Wy j hj).1;omega)
       obtain ⟨kn,oL,O3⟩:=hJL _ _ _ _ U8
       obtain ⟨n',T8,bz,hwk⟩:=tw cb If
       rw [hwk] at hW
       simp only [Ax,↓Ba,y0,y4,y7,AF,AE,h]
       refine mV (L:=L) (by simp only [bR]) O3 ?_
       simp only [Ag,Ak,bR]
       refine Pc W M _ _ A (.ms Cb.nx 0 hs.length 1) p (hs.map (bZ p)) _ U8 ⟨_,by rw [Bu];exact hW⟩ QR oS (λj hj=>?_) (λj hj=>⟨by have:=hPl j hj;omega,(Wy j hj).2⟩) (λAo Bk M' IK Vm O0 hJ'=>?_) λAo Bk M' IK Vm O0 KS=>?_
       .have:j=Cb.nx:=by simpa [DV.refs] using hj
        exact ⟨by omega,λh=>(kh j h).2 this⟩
       .simp only [Ax,↓Ba,y0,y3]
        refine ⟨n',by omega,hs.map (Tb p),W ++ [(p,hs.map (bZ p))],M',bz,by omega,by rw [Br];exact hlen,?_,by omega,?_,?_,hJ',?_,by rw [Bu];exact hW⟩
        .intro h hh c hc
         obtain ⟨h',zB,rfl⟩:=Bm.1 hh
         exact pD h' zB c (TV hc)
        .intro j hj hm
         have ez:¬ M j:=λh=>(O1 j h).elim hm λh=>by omega
         rw [Vm j (by omega) ez,jA j (by omega) (by omega),Ct j hj hm]
        .intro j hj
         rcases O0 j hj with h | h
         .exact O1 j h
         .exact .inr (by omega)
        .exact oH.keep λj hj=>by
          rcases hj with hj | hj
          .exact Vm j (by have:=hPl j hj;omega) (Wy j hj).2
          .have:j=es.nx+1:=by simpa [DV.refs] using hj
           exact Vm j (by omega) λh=>(kh j h).1 this
       .simp only [Ax,↓Ba]
        refine hKS _ _ _ M' (by omega) (λj hj hm=>?_) (λj hj=>?_) KS
        .have ez:¬ M j:=λh=>(O1 j h).elim hm λh=>by omega
         rw [Vm j (by omega) ez,jA j (by omega) (by omega),Ct j hj hm]
        .rcases O0 j hj with h | h
         .exact (O1 j h).imp id λh=>by omega
         .exact .inr (by omega)
     .simp only [Ax,x0,x3,x4]
      refine ⟨?_,?_,λ_ _ _=>trivial⟩
      .rw [xC,List.map_id];exact II
      .rw [xC,List.map_const'];exact yR P
  .refine ⟨Cl,none,?_⟩
   simp only [Ax,b0,b3]
   exact ⟨rfl,rfl⟩
 .refine ⟨Ve,[],M0,?_⟩
  simp only [Ax,a0]
  exact ⟨bu,hc,λj hj _=>Cv j hj,λj hj=>.inl hj,U9,J8,rfl⟩
end
end Go.DD

/- Contracts: the changes Be1 two cell lists. Conditions: those that each theorem states. -/
namespace Go.DD
open Go Go.Proofs
theorem B82{n:Nat} : ∀ {hs:List (List PCell)},∀ w∈Kg n hs,w.2.length=hs.length/\(∃ h∈hs,∃ c∈h,c.pos=w.1)/\∀ v∈w.2,v=[]\/∃ h∈hs,∃ c∈h,v=c.vals:=by
 induction n with
 | zero=>intro hs w h;cases h
 | succ n ih=>
  intro hs w h
  cases e:Ja none hs with
  | none=>rw [TU e] at h;cases h
  | some p=>
   have h':w∈(p,hs.map (bZ p))::Kg n (hs.map (Tb p)):=by
    have:Kg (n+1) hs=(p,hs.map (bZ p))::Kg n (hs.map (Tb p)):=by
     show (match Ja none hs with
      | none=>[]
      | some p=>(p,hs.map (bZ p))::Kg n (hs.map (Tb p)))=_
     rw [e]
    rwa [this] at h
   rcases Aq.1 h' with rfl | h'
   .obtain ⟨c,t,h1,h2⟩:=(wj e).elim (λh=>by cases h) id
    refine ⟨by simp,⟨_,h1,c,by simp,h2⟩,λv hv=>?_⟩
    obtain ⟨h,hh,rfl⟩:=Bm.1 hv
    cases h with
    | nil=>exact .inl rfl
    | cons c t=>
     rw [iL]
     split
     .exact .inr ⟨_,hh,c,by simp,rfl⟩
     .exact .inl rfl
   .obtain ⟨h1,⟨h,hh,c,hc,h2⟩,h3⟩:=ih w h'
    obtain ⟨h0,gq,rfl⟩:=Bm.1 hh
    refine ⟨by rw [h1,Br],⟨h0,gq,c,TV hc,h2⟩,λv hv=>?_⟩
    rcases h3 v hv with h | ⟨h,hh,c,hc,rfl⟩
    .exact .inl h
    .obtain ⟨h0,gq,rfl⟩:=Bm.1 hh
     exact .inr ⟨h0,gq,c,TV hc,rfl⟩
theorem Bb0{n:Nat} : ∀ {hs:List (List PCell)},(Kg n hs).length<=n:=by
 induction n with
 | zero=>intro hs;exact Ai _
 | succ n ih=>
  intro hs
  show (match Ja none hs with
   | none=>[]
   | some p=>(p,hs.map (bZ p))::Kg n (hs.map (Tb p))).length<=_
  split
  .simp
  .simp only [Ec];have:=ih (hs:=hs.map (Tb ‹_›));omega
def Ud(w:List Int×List (List PVal)):List PCell:=match w.2 with
 | [u,v]=>if u=v then [] else [⟨w.1,v⟩]
 | _=>[]
def Sj(W:List (List Int×List (List PVal))):List PCell:=W.flatMap Ud
theorem By0(W:List (List Int×List (List PVal))):(Sj W).length<=W.length:=by
 induction W with
 | nil=>exact Ai _
 | cons w W ih=>
  have h:(Ud w).length<=1:=by
   unfold Ud
   split
   .split <;> simp
   .simp
  unfold Sj at ih ⊢
  rw [Ou,Ap,Ec]
  omega
theorem MW(z:List Value)(ps:List (Nat×Nat×Operand))(nid:Nat)(es:ES):Gd (Bd (.bld z ps)) nid es=(Ia (z.map .v) (ps.map λp=>(p.1,p.2.1,es.ds.ev p.2.2))).map DV.agg:=by
 refine fW (X:=λes=>(Ia (z.map .v) (ps.map λp=>(p.1,p.2.1,es.ds.ev p.2.2))).map DV.agg) (λes nid=>?_) nid
 rw [Fi]
 simp only [Ay]
 cases Ia (z.map .v) (ps.map λp=>(p.1,p.2.1,es.ds.ev p.2.2)) <;> rfl
theorem Kv{a b:DV}{f:Nat->Bool}(h1:Ii a f)(h2:Ii b f):Ii (.agg [a,b]) f:=λid hid=>by
 have:id∈a.refs\/id∈b.refs:=by simpa [DV.refs,DV.refsL] using hid
 rcases this with h | h
 .exact h1 id h
 .exact h2 id h
def BJ(sl:Tr DV)(L bo:Nat)(W:List (List Int×List (List PVal)))(M:Nat->Prop)(hp:Tr DObj)(nx:Nat):Prop:=
 ∃ z T,hp.get L=some (.loop ⟨33,.t sl,[12,13],Z1,Z0,.ready,none⟩)/\hp.get bo=some (.row T [z])/\OL rChange hp (λj=>M j/\j≠L/\j≠bo/\j∉z.refs) z (Sj W)/\(∀ j∈z.refs,M j/\j≠L/\j≠bo)/\M L/\M bo/\L≠bo/\(∀ j,M j->j<nx)/\Ae ⟨sl,.e,0⟩ (.t (.l (.r .o)))=.pt bo 0
theorem BJ.keep{sl:Tr DV}{L bo:Nat}{W:List (List Int×List (List PVal))}{M:Nat->Prop}{hp Ao:Tr DObj}{nx Bk:Nat}(h:BJ sl L bo W M hp nx)(hn:nx<=Bk)(hk:∀ j,M j->Ao.get j=hp.get j):BJ sl L bo W M Ao Bk:=by
 obtain ⟨z,T,h1,h2,h3,h4,h5,h6,h7,h8,h9⟩:=h
 exact ⟨z,T,(hk L h5).trans h1,(hk bo h6).trans h2,h3.keep λj hj=>hk j (hj.elim (λh=>h.1) λh=>(h4 j h).1),h4,h5,h6,h7,λj hj=>Bp (h8 j hj) hn,h9⟩
theorem RL.iaN0{hp:Tr DObj}{p:Nat->Prop}{d:DV}{l:List (List PVal)}(h:RL rQ hp p d l)(hi:0<l.length):Rr hp 1 d (.v (.int .i64 0))=some (Ca 1 d 0):=h.ia hi
theorem RL.iaN1{hp:Tr DObj}{p:Nat->Prop}{d:DV}{l:List (List PVal)}(h:RL rQ hp p d l)(hi:1<l.length):Rr hp 1 d (.v (.int .i64 1))=some (Ca 1 d 1):=h.ia hi
theorem RL.roaN{hp:Tr DObj}{n0:Nat}{d:DV}{l:List (List PVal)}{n m i:Nat}{an:List Nat}(h:RL rQ hp (Bl n0) d l)(hn:n0<=n):Ii (Ca 1 d i) (λid=>Cs n m an hp id)↔True:=Bn (h.roax hn)
theorem By1(k:Nat)(hp:Tr DObj)(nx:Nat)(K:DV->Tr DObj->Nat->Prop)(sl:Tr DV)(L bo:Nat)(W:List (List Int×List (List PVal)))(M:Nat->Prop)(a s:DV)(p:List Int)(u v:List PVal)(hJ:BJ sl L bo W M hp nx)(ha:RL rInt hp (λj=>j<nx/\¬ M j) a p)(hs:RL rQ hp (λj=>j<nx/\¬ M j) s [u,v])(Ng:p≠[])(Ei:p.length<900000)(hu:u.length<900000)(hv:v.length<900000)(hW:W.length<900000)
  (hK:∀ Ao Bk M',nx<=Bk->(∀ j,j<nx->¬ M j->Ao.get j=hp.get j)->(∀ j,M' j->M j\/nx<=j)->BJ sl L bo (W ++ [(p,[u,v])]) M' Ao Bk->K (bv true) Ao Bk) :
  KW (kN (k+2)) (.yl L) [a,s] hp nx K:=by
 obtain ⟨z,T,j1,j2,j3,j4,j5,j6,j7,j8,s5⟩:=hJ
 refine nW j1 rfl rfl rfl rfl rfl ?_
 rw [show Dt 1000000 33 true Z1=sa from Cz4]
 unfold sa
 have tG:∀ hp nx,Ae ⟨Ov [12,13] [a,s] sl,hp,nx⟩ (.t (.r (.l (.r .o))))=a:=λhp nx=>by
  show Ae (((ES.mk sl hp nx).putE (some (.r (.l (.r .o)))) a).putE (some (.l (.r (.r .o)))) s) (.t (.r (.l (.r .o))))=a
  simp only [bR]
 have HA:∀ hp nx,Ae ⟨Ov [12,13] [a,s] sl,hp,nx⟩ (.t (.l (.r (.r .o))))=s:=λhp nx=>by
  show Ae (((ES.mk sl hp nx).putE (some (.r (.l (.r .o)))) a).putE (some (.l (.r (.r .o)))) s) (.t (.l (.r (.r .o))))=s
  simp only [bR]
 have qZ:∀ hp nx,Ae ⟨Ov [12,13] [a,s] sl,hp,nx⟩ (.t (.l (.r .o)))=.pt bo 0:=λhp nx=>by
  show Ae (((ES.mk sl hp nx).putE (some (.r (.l (.r .o)))) a).putE (some (.l (.r (.r .o)))) s) (.t (.l (.r .o)))=.pt bo 0
  simp only [bR]
  exact s5
 generalize Ov [12,13] [a,s] sl=zz at tG HA qZ
 simp only [Ax,↓Ba,tG,HA]
 refine ⟨_,j1,rfl,?_⟩
 rw [show Dt 1000000 33 true Z0=ru from Cz5]
 unfold ru
 obtain ⟨lp,bL⟩:∃ lp:DLoop,lp=⟨33,.t sl,[12,13],Z1,Z0,.busy,none⟩:=⟨_,rfl⟩
 have cQ:∀ j,j≠L->(hp.set L (some (.loop lp))).get j=hp.get j:=λj hj=>by rw [Tr.get_set,Ad (Ek hj)]
 have pJ:(hp.set L (some (.loop lp))).get L=some (.loop lp):=by rw [Tr.get_set,Af rfl]
 have fin:∀ (Db:Tr DObj) (Hz:Nat) (M':Nat->Prop) (z':DV),nx<=Hz->Db.get L=some (.loop lp)->Db.get bo=some (.row T [z'])->OL rChange Db (λj=>M' j/\j≠L/\j≠bo/\j∉z'.refs) z' (Sj (W ++ [(p,[u,v])]))->(∀ j∈z'.refs,M' j/\j≠L/\j≠bo)->M' L->M' bo->(∀ j,M' j->j<Hz)->(∀ j,j<nx->¬ M j->Db.get j=hp.get j)->(∀ j,M' j->M j\/nx<=j)->
   K (.v (.bool true)) (Db.set L (some (.loop { lp with st:=.ready,pend:=none }))) Hz:=by
  intro Db Hz M' z' q1 q2 q3 q4 q5 q6 q7 q8 q9 q10
  have g1:∀ j,j≠L->(Db.set L (some (.loop { lp with st:=.ready,pend:=none }))).get j=Db.get j:=λj hj=>by rw [Tr.get_set,Ad (Ek hj)]
  exact hK _ _ M' q1 (λj hj hm=>by rw [g1 j (λe=>hm (e ▸ j5))];exact q9 j hj hm) q10 ⟨z',T,by rw [Tr.get_set,Af rfl,bL],by rw [g1 bo (Ek j7)];exact q3,q4.keep λj hj=>g1 j (hj.elim (λh=>h.2.1) λh=>(q5 j h).2.1),q5,q6,q7,j7,q8,s5⟩
 rw [<- bL]
 generalize hp.set L (some (.loop lp))=hq at cQ pJ ⊢
 clear bL
 have kR:∀ j,(j<nx/\¬ M j)->hq.get j=hp.get j:=λj hj=>cQ j λe=>hj.2 (e ▸ j5)
 have gX:=ha.keep (Ao:=hq) kR
 have Mz:=hs.keep (Ao:=hq) kR
 have gJ:=Mz.mono (q:=Bl nx) λj hj=>hj.1
 obtain ⟨dU,rU,nU,lU⟩:=Mz.atN (show 0 < [u,v].length by simp)
 obtain ⟨dV,rV,nV,lV⟩:=Mz.atN (show 1 < [u,v].length by simp)
 have yq:RL rVal hq (Bl nx) dU u:=rU.mono λj hj=>hj.1
 have YA:RL rVal hq (Bl nx) dV v:=rV.mono λj hj=>hj.1
 have N5:hq.get bo=some (.row T [z]):=(cQ bo (Ek j7)).trans j2
 simp only [Ax,↓Ba,Mz.iaN0 (by simp),Mz.iaN1 (by simp),lU,lV,gJ.rox (Ai _),gJ.roaN (Ai _),yq.rox (Ai _),YA.rox (Ai _)]
 refine Nt rfl (Xi ?_)
 simp only [bR,Ag,Ak]
 refine Ch0 (k+1-1) nx _ _ _ dU dV u v (by omega) yq YA hu λKw Vj=>?_
 have Ig:(W ++ [(p,[u,v])]).flatMap Ud=Sj W++Ud (p,[u,v]):=by rw [List.flatMap_append];simp [Sj]
 by_cases c1:u=v
 .have aC:Sj (W ++ [(p,[u,v])])=Sj W:=by
   show (W ++ [(p,[u,v])]).flatMap Ud=_
   rw [Ig];unfold Ud;simp only;rw [Af c1,Dh]
  simp only [Ax,↓Ba,Ar c1,Vj]
  refine ⟨lp,pJ,fin hq Kw M z (by omega) pJ N5 ?_ j4 j5 j6 (λj hj=>by have:=j8 j hj;omega) (λj _ hm=>cQ j λe=>hm (e ▸ j5)) λj hj=>.inl hj⟩
  rw [aC]
  exact j3.keep λj hj=>cQ j (hj.elim (λh=>h.2.1) λh=>(j4 j h).2.1)
 .have aC:Sj (W ++ [(p,[u,v])])=Sj W ++ [⟨p,v⟩]:=by
   show (W ++ [(p,[u,v])]).flatMap Ud=_
   rw [Ig];unfold Ud;simp only;rw [Ad c1]
  have KQ:=gX.mono (q:=Bl nx) λj hj=>hj.1
  have hLn:=j8 L j5
  have kY:=j8 bo j6
  simp only [Ax,↓Ba,Aj c1,Vj,qZ,qM N5,Mp (n0:=Kw) (m:=11) N5 (show bo<Kw by have:=j8 bo j6;omega),KQ.rox (show nx<=Kw by omega)]
  refine Nt rfl (Xi ?_)
  simp only [bR,Ag,Ak]
  refine vb k nx _ _ _ a p (by omega) KQ (.inl Ng) (by omega) λNz G7 a' Sy J7 dj _=>?_
  have eD:=Sy.le
  have PT:=gJ.ka (nx:=Kw+11) (by omega) Sy
  have CM:=YA.ka (nx:=Kw+11) (by omega) Sy
  have YD:=J7.rlF dj
  have tZ:Nz.get bo=some (.row T [z]):=(Sy.same bo (by omega)).trans N5
  obtain ⟨dV7,CM,nV7,lV7⟩:=PT.atN (show 1 < [u,v].length by simp)
  have CM:RL rVal Nz (Bl nx) dV7 v:=CM
  simp only [Ax,↓Ba,eD,PT.iaN1 (by simp),lV7,PT.rox (show nx<=Kw by omega),PT.roaN (show nx<=Kw by omega),CM.rox (show nx<=Kw by omega)]
  refine Nt rfl (Xi ?_)
  simp only [bR,Ag,Ak]
  refine Ba7 k nx _ _ _ dV7 v (by omega) CM nV7 (by omega) λOl Wq v' Rv PV di _=>?_
  have Zf:=Rv.le
  have nH:=PV.rlF di
  have nI:=YD.keep (Ao:=Ol) λj hj=>Rv.same j hj.2
  have CG:∀ an,Ii a' (λid=>Cs Kw 11 an Ol id):=λan=>nI.ro' (n:=Kw) (m:=11) λj hj=>.inr hj.1
  have CF:∀ an,Ii v' (λid=>Cs Kw 11 an Ol id):=λan=>nH.ro' (n:=Kw) (m:=11) λj hj=>.inr (by have:=hj.1;omega)
  have bB:∀ an,Ii (.agg [a',v']) (λid=>Cs Kw 11 an Ol id):=λan=>Kv (CG an) (CF an)
  have zF:=MY (z:=.slice none 0 0) (w:=.slice none 0 0) nI.ok nH.ok
  simp only [Ax,↓Ba,bP,Zf,MW,nI.live,nH.live,zF,Cf,Bn (CG _),Bn (CF _),Bn (bB _)]
  refine SK (fl:=[a',v']) rfl (by simp only [Ag,Ak,Cg,bR,bP,Yp nI nH];rfl) λMk Qa Ju=>?_
  simp only [bR] at Qa Ju
  have ft:∀ j,j<Kw->Mk.get j=Ol.get j:=λj hj=>Ju j (by omega)
  have JC:∀ j,j<Kw->Mk.get j=hq.get j:=λj hj=>by rw [ft j hj,Rv.same j (by omega),Sy.same j (by omega)]
  have rA9:=nI.keep (Ao:=Mk) λj hj=>Ju j (by have:=hj.1;omega)
  have rB9:=nH.keep (Ao:=Mk) λj hj=>Ju j (by have:=hj.1;omega)
  have j3q:OL rChange hq _ z (Sj W):=j3.keep λj hj=>cQ j (hj.elim (λh=>h.2.1) λh=>(j4 j h).2.1)
  have hzM:∀ j,(M j/\j≠L/\j≠bo/\j∉z.refs)\/j∈z.refs->j<nx:=λj hj=>hj.elim (λh=>j8 j h.1) λh=>j8 j (j4 j h).1
  have ak:OL rChange Mk _ z (Sj W):=j3q.keep λj hj=>JC j (by have:=hzM j hj;omega)
  have OW:∀ an,Ii z (λid=>Cs Kw 11 an Mk id):=λan=>ak.rl.ro' (n:=Kw) (m:=11) λj hj=>.inl (by have:=hzM j hj;omega)
  have aC5:=By0 W
  simp only [Ax,↓Ba,Bn (OW _)]
  refine ⟨sB Qa rfl,?_⟩
  refine Nt rfl (jT (R:=rChange) (p:=λj=>M j/\j≠L/\j≠bo/\j∉z.refs) (p2:=Bw (Kw+11) Wq) (d:=z) (d2:=.ms (Kw+8) 0 1 2) (l:=Sj W) (m:=[⟨p,v⟩]) (by simp only [bR,bP]) ak (by simp only [Cg,bR,bP];exact Rl Qa) (NB (R:=rChange) (x:=⟨p,v⟩) Qa (rChange_rd.2 ⟨a',v',rfl,rA9.mono λj hj=>⟨hj.1,by have:=hj.2;omega⟩,rB9.mono λj hj=>⟨by have:=hj.1;omega,hj.2⟩⟩)) rfl rfl (by rw [Bf];omega) (by decide) λIx Hq O5=>?_)
  simp only [bR] at Hq O5
  have tE:∀ j∈z.refs,j<nx:=λj hj=>j8 j (j4 j hj).1
  have EZ:=O5 (λj=>(M j\/(nx<=j/\j<Wq))/\j≠L/\j≠bo/\j∉z.refs) (λj hj=>by
   rcases hj with hj | hj
   .exact ⟨⟨.inl hj.1,hj.2⟩,by have:=j8 j hj.1;omega,hj.2.2.2⟩
   .have h1:=hj.1
    have h2:=hj.2
    exact ⟨⟨.inr ⟨by omega,h2⟩,by omega,by omega,λh=>by have:=tE j h;omega⟩,by omega,λh=>by have:=tE j h;omega⟩)
  have jt:Mk.get bo=some (.row T [z]):=(JC bo (by omega)).trans N5
  have zK:Ix.get bo=some (.row T [z]):=(Hq bo (by omega) λh=>(j4 bo h).2.2 rfl).trans jt
  obtain ⟨_,_,mi,gR,_⟩:=EZ.get
  have XX:∀ an,Cs Kw 11 an Ix Wq=true:=λan=>(sC Ix Wq).2 ⟨by rw [gR];rfl,.inr (.inl (by omega))⟩
  simp only [Ax,↓Ba,qZ,Mp (n0:=Kw) (m:=11) zK (show bo<Kw by omega),XX _,Nat.le_succ]
  refine Nt rfl (mN (id:=bo) (off:=0) (by simp only [bR,qZ]) zK (by simp only [Hl,bR];exact Rl gR) (dK _ _ _ _) (by simp) λLp Zh Me=>?_)
  simp only [bR] at Zh Me
  simp only [Ax,↓Ba]
  have w7:∀ j,j<nx->¬ M j->Nz.get j=hq.get j:=λj hj _=>Sy.same j (by omega)
  have w8:∀ j,j<nx->¬ M j->Ol.get j=hq.get j:=λj hj hm=>by rw [Rv.same j (by omega),w7 j hj hm]
  have w9:∀ j,j<nx->¬ M j->Mk.get j=hq.get j:=λj hj hm=>JC j (by omega)
  have vG:∀ j,j<nx->¬ M j->Ix.get j=hq.get j:=λj hj hm=>by rw [Hq j (by omega) (λh=>hm (j4 j h).1),w9 j hj hm]
  have xx:∀ j,j<nx->¬ M j->Lp.get j=hq.get j:=λj hj hm=>by rw [Me j (λe=>hm (e ▸ j6)),vG j hj hm]
  have Gy:∀ q∈[(⟨10,[9,0,1,2,3,4,5,6,7,8],Ix,Lp⟩:Past),⟨9,[0,8,6,7,2,1,5,4,3],Mk,Ix⟩,⟨6,[5,2,4,3,1],Nz,Ol⟩,⟨2,[1],hq,Nz⟩],(∀ j,(j<nx/\¬ M j)->q.a.get j=hq.get j)/\∀ j,(j<nx/\¬ M j)->q.b.get j=hq.get j:=by
   intro q oG
   simp only [Aq,Ci,or_false] at oG
   rcases oG with rfl | rfl | rfl | rfl
   .exact ⟨λj hj=>vG j hj.1 hj.2,λj hj=>xx j hj.1 hj.2⟩
   .exact ⟨λj hj=>w9 j hj.1 hj.2,λj hj=>vG j hj.1 hj.2⟩
   .exact ⟨λj hj=>w7 j hj.1 hj.2,λj hj=>w8 j hj.1 hj.2⟩
   .exact ⟨λj hj=>rfl,λj hj=>w7 j hj.1 hj.2⟩
  have He:∀ c∈[z],Oz 6 c c=true:=λc hc=>by rw [Am.1 hc];exact ak.rl.same (by decide)
  have ju:Ol.get bo=some (.row T [z]):=(Rv.same bo (by omega)).trans tZ
  refine ⟨Z4 Mz (λj hj=>by have:=hj.1;omega) Gy (uS _ _ _) (Z4 Mz (λj hj=>by have:=hj.1;omega) Gy (λ_ h=>h) (Z4 Mz (λj hj=>by have:=hj.1;omega) Gy (λ_ h=>h) (sA (λj hj=>?_) (ND _ _ _)))),lp,?_,?_⟩
  .have hj:j=bo:=by simpa [DV.refs] using hj
   subst hj
   refine ⟨by omega,λq oG=>?_⟩
   simp only [Aq,Ci,or_false] at oG
   rcases oG with rfl | rfl | rfl | rfl
   .exact .inl rfl
   .exact .inl rfl
   .exact .inr (.inr (by rw [Af rfl];exact NV tZ (ju.trans tZ.symm) He))
   .exact .inr (.inr (by rw [Af rfl];exact NV N5 (tZ.trans N5.symm) He))
  .rw [Me L j7,Hq L (by omega) (λh=>(j4 L h).2.1 rfl),JC L (by omega)]
   exact pJ
  .refine fin Lp (Wq+1) (λj=>M j\/(nx<=j/\j<Wq+1)) (.ms Wq 0 (Sj W ++ [(⟨p,v⟩:PCell)]).length 2) (by omega) ?_ ?_ ?_ ?_ (.inl j5) (.inl j6) ?_ ?_ ?_
   .rw [Me L j7,Hq L (by omega) (λh=>(j4 L h).2.1 rfl),JC L (by omega)]
    exact pJ
   .exact Zh
   .rw [aC]
    have o11:=EZ.keep (Ao:=Lp) λj hj=>Me j (by
     rcases hj with hj | hj
     .exact hj.2.2.1
     .have:j=Wq:=by simpa [DV.refs] using hj
      omega)
    refine OL.mono o11 λj hj=>?_
    refine ⟨hj.1.imp id (λh=>And.intro h.1 (Nat.lt_succ_of_lt h.2)),hj.2.1,hj.2.2.1,λh=>?_⟩
    have h:j=Wq:=by simpa [DV.refs] using h
    rcases hj.1 with h2 | h2
    .have:=j8 j h2;omega
    .have:=h2.2;omega
   .intro j hj
    have:j=Wq:=by simpa [DV.refs] using hj
    exact ⟨.inr ⟨by omega,by omega⟩,by omega,by omega⟩
   .intro j hj
    rcases hj with h | h
    .have:=j8 j h;omega
    .exact h.2
   .intro j hj hm
    rw [xx j hj hm]
    exact cQ j λe=>hm (e ▸ j5)
   .exact λj hj=>hj.imp id λh=>h.1
end Go.DD

/- Contracts: the program's Delta. Conditions: those that each theorem states. -/
namespace Go.DD
open Go Go.Proofs
theorem Rows.two{R:Rep (List PCell)}{hp:Tr DObj}{p:Nat->Prop}{a b:DV}{x y:List PCell}(h1:R.rd hp p [a] x)(h2:R.rd hp p [b] y):Rows R hp p [a,b] [x,y]:=⟨[a],[b],rfl,h1,[b],[],rfl,h2,rfl⟩
theorem Ch4{z:Value}{a b:DV}(h1:a.okC=true/\a.cells=[a])(h2:b.okC=true/\b.cells=[b]):Ia (List.replicate 2 ([z].map DV.v)).flatten [(0,1,a),(1,1,b)]=some [a,b]:=by
 simp [Ia,h1.1,h1.2,h2.1,h2.2]
theorem C9{x:PArr}(h:Mo x=0):∀ c∈x.cells,c.vals≠[]:=λc hc he=>by
 have h1:=(iK h).2.1 c hc
 have h2:=(iK h).2.2
 have h3:c.vals.length=x.attrs.length:=by
  unfold Hb at h1
  split at h1
  .cases h1
  .rename_i h3;omega
 have h4:x.attrs.length=0:=by rw [<- h3,he];rfl
 unfold jS at h2
 split at h2
 .rename_i h5;exact h5 h2
 .rw [Af (Or.inl (show x.attrs.length<1 by omega))] at h2;cases h2
section
variable (k n0:Nat) (hp:Tr DObj) (nx:Nat) (K:DV->Tr DObj->Nat->Prop)
theorem Cp9(d:DV)(hd:d.okC=true/\d.cells=[d])(hl:Cd hp d=d)(hK:∀ Ao,Ao.get nx=some (.row 201 [d])->(∀ j,j≠nx->Ao.get j=hp.get j)->K (.fn (.func 138) [.tup [],.pt nx 0]) Ao (nx+1)):KW (kN (k+1)) (.fn 68) [d] hp nx K:=by
 refine En (Hm (by decide)) t68 (Ab rfl) λes e1 e2 he=>?_
 have a0:Ae es (.t .o)=d:=he 0 _ rfl
 unfold zm
 subst e1 e2
 simp only [↓Ba]
 refine Z5 (v:=d) (by simp only [Hl,a0,hl]) hd λEi Dm Cv=>?_
 simp only [bR] at Dm Cv
 simp only [Ax,↓Ba,bP]
 have e1:Cd Ei (.pt es.nx 0)=.pt es.nx 0:=Wc λid hid=>by
  have:id=es.nx:=by simpa [DV.refs] using hid
  rw [this,Dm];rfl
 rw [e1]
 have e2:Cd Ei (.fn (.func 138) [.tup [],.pt es.nx 0])=.fn (.func 138) [.tup [],.pt es.nx 0]:=Wc λid hid=>by
  have:id=es.nx:=by simpa [DV.refs,DV.refsL] using hid
  rw [this,Dm];rfl
 rw [e2]
 exact hK _ Dm Cv
theorem C11{An:ES}{Q:Exit->ES->Prop}(bo:Nat)(l m:List PCell)(hn:n0<=bo)(hb:An.nx=bo+3)(Ig:RL rCells An.hp (λj=>j<n0\/j=bo+1) (.ms (bo+1) 0 2 1) [l,m])(hl:l.length+m.length<=1024)
  (hc:∀ c,c∈l\/c∈m->c.pos≠[]/\c.pos.length<900000/\c.vals≠[]/\c.vals.length<900000)
  (gv:An.hp.get bo=some (.row 109 [Cl])) (Ni:An.hp.get (bo+1+1)=some (.row 201 [.ms (bo+1) 0 2 1])) (b5:Ae An (.t (.l (.r .o)))=.pt bo 0) (b11:Ae An (.t (.l (.l (.r .o))))=.fn (.func 138) [.tup [],.pt (bo+1+1) 0])
  (hQ:∀ Ao Bk z T,An.nx<=Bk->(∀ j,j<bo->Ao.get j=An.hp.get j)->Ao.get bo=some (.row T [z])->RL rChange Ao (Bw bo Bk) z (Sj (Hy [l,m]))->Q .normal ⟨An.sl,Ao,Bk⟩) :
  EW (cR 33 false (.t (.l (.l (.r .o)))) [12,13] Z1 Z0) (kN (k+5)) An Q:=by
 have rD:Za [l,m]=l.length+m.length:=by simp [Za]
 have bf:=λw (hw:w∈Hy [l,m])=>B82 (n:=Za [l,m]) (hs:=[l,m]) w hw
 have oA:(Hy [l,m]).length<=1024:=Ep Bb0 (by omega)
 have Om:∀ h∈[l,m],∀ c∈h,c∈l\/c∈m:=λh hh c Yf=>by
  simp only [Aq,Ci,or_false] at hh
  rcases hh with rfl | rfl
  .exact .inl Yf
  .exact .inr Yf
 have Ik:∀ (x:Option DObj) j,j≠bo+3->(An.hp.set (bo+3) x).get j=An.hp.get j:=λx j hj=>by rw [Tr.get_set,Ad (Ek hj)]
 refine Cf1 (f:=138) (cs:=[.pt (bo+1+1) 0]) ?_ ?_
 .rw [Hl,b11]
  exact Wc λid hid=>by
   have:id=bo+1+1:=by simpa [DV.refs,DV.refsL] using hid
   rw [this,Ni];rfl
 .rw [hb]
  refine B81 k (bo+3) (bo+1+1) 201 (.ms (bo+1) 0 2 1) [l,m] (λj=>j<n0\/j=bo+1) (BJ An.sl (bo+3) bo) (λ_ _ _ _=>False) (λj=>j=bo+3\/j=bo) _ _ _ ((Ik _ _ (by omega)).trans Ni) (Ig.keep λj hj=>Ik _ j (by rcases hj with h | h <;> omega)) (λj hj=>by rcases hj with h | h <;> exact ⟨by omega,by omega⟩) (by simp) (by simp) (λh hh c Kz=>by obtain ⟨h1,h2,h3,h4⟩:=hc c (Om h hh c Kz);exact ⟨h1,h2,h3⟩) (by omega) ?_ ?_ ?_ ?_ ?_ ?_ ?_
  .exact ⟨Cl,109,by rw [Tr.get_set,Af rfl],by rw [Ik _ _ (by omega)];exact gv,.nil,λj hj=>by (cases hj),.inl rfl,.inr rfl,by omega,λj hj=>by rcases hj with h | h <;> omega,b5⟩
  .exact λW M hp nx ⟨z,T,h1,h2,h3,h4,h5,h6,h7,h8,h9⟩=>h8
  .exact λW M hp nx ⟨z,T,h1,h2,h3,h4,h5,h6,h7,h8,h9⟩=>⟨h5,_,h1⟩
  .exact λW M hp nx Ao Bk h hn hk=>h.keep hn λj hj=>hk j (.inl hj)
  .intro W M hp nx a s p vQ K hJ Vf ha hs rF Wy hKt _
   have Lr:(p,vQ)∈Hy [l,m]:=Vf.subset (by simp)
   obtain ⟨g1,⟨h,hh,c,Kz,g2⟩,g3⟩:=bf _ Lr
   obtain ⟨u,v,rfl⟩:∃ u v,vQ=[u,v]:=by
    match vQ,g1 with
    | [u,v],_=>exact ⟨u,v,rfl⟩
   have g2:c.pos=p:=g2
   have iU:=hc c (Om h hh c Kz)
   have bH:∀ x∈[u,v],x.length<900000:=λx hx=>by
    rcases g3 x hx with rfl | ⟨h,hh,c,Kz,rfl⟩
    .simp
    .exact (hc c (Om h hh c Kz)).2.2.2
   refine By1 (k+2) hp nx K _ _ _ W M a s p u v hJ (ha.mono Wy) (hs.rl.mono λj hj=>hj.elim (Wy j) (rF j)) (by rw [<- g2];exact iU.1) (by rw [<- g2];exact iU.2.1) (bH u (by simp)) (bH v (by simp)) ?_ hKt
   have:=Vf.length_le
   rw [Ap] at this
   omega
  .intro Ao Bk M' IK Vm U7 ⟨z,T,g1,g2,g3,g4,g5,g6,g7,g8,g9⟩
   have bI:∀ j,j≠bo+3->(Ao.set (bo+3) none).get j=Ao.get j:=λj hj=>by rw [Tr.get_set,Ad (Ek hj)]
   refine ⟨_,g1,by simp,.inl ⟨rfl,?_⟩⟩
   have gb:(Ao.set (bo+3) none).get bo=some (.row T [z]):=(bI _ (by omega)).trans g2
   have o':=g3.keep (Ao:=Ao.set (bo+3) none) λj hj=>bI j (hj.elim (λh=>h.2.1) λh=>(g4 j h).2.1)
   have Gg:∀ j,M' j->bo<=j:=λj hj=>by rcases U7 j hj with (h | h) | h <;> omega
   have r':RL rChange (Ao.set (bo+3) none) (Bw bo Bk) z (Sj (Hy [l,m])):=o'.rl.mono λj hj=>⟨Gg j (hj.elim (λh=>h.1) λh=>(g4 j h).1),g8 j (hj.elim (λh=>h.1) λh=>(g4 j h).1)⟩
   refine hQ _ _ z T (by omega) (λj hj=>?_) gb r'
   rw [bI j (by omega),Vm j (by omega) (by omega),Ik _ j (by omega)]
  .exact λ_ _ _ _ _ _ _ h=>h.elim
theorem vq(d1 d2:DV)(l m:List PCell)(hn:n0<=nx)(h1:RL rCell hp (Bl n0) d1 l)(h2:RL rCell hp (Bl n0) d2 m)(hl:l.length+m.length<=1024)
  (hc:∀ c,c∈l\/c∈m->c.pos≠[]/\c.pos.length<900000/\c.vals≠[]/\c.vals.length<900000)
  (hK:∀ Ao Bk d',Al hp nx Ao Bk->RL rChange Ao (Bw nx Bk) d' (Sj (Hy [l,m]))->K d' Ao Bk):KW (kN (k+6)) (.fn 81) [d1,d2] hp nx K:=by
 refine En (Hm (by decide)) t81 (Ab rfl) λes e1 e2 he=>?_
 have a0:Ae es (.t .o)=d1:=he 0 _ rfl
 have a1:Ae es (.t (.l .o))=d2:=he 1 _ rfl
 unfold ze
 subst e1 e2
 simp only [Ax,↓Ba]
 refine Vr λEi Dm Cv=>?_
 simp only [bR] at Dm Cv
 have q1:=h1.keep λj (hj:j<n0)=>Cv j (by omega)
 have q2:=h2.keep λj (hj:j<n0)=>Cv j (by omega)
 simp only [Ax,↓Ba,a0,a1]
 refine Vt (fl:=[d1,d2]) rfl (by simp only [Ag,Ak,Cg,bR,bP,q1.live,q2.live];exact Ch4 q1.ok q2.ok) λDb Ft Et=>?_
 simp only [bR] at Ft Et
 have q1':=q1.keep λj (hj:j<n0)=>Et j (by omega)
 have q2':=q2.keep λj (hj:j<n0)=>Et j (by omega)
 have Ig:RL rCells Db (λj=>j<n0\/j=es.nx+1) (.ms (es.nx+1) 0 2 1) [l,m]:=(OL.ms (R:=rCells) (p:=Bl n0) (es.nx+1) _ [l,m] Ft (Rows.two ⟨_,rfl,q1'⟩ ⟨_,rfl,q2'⟩)).rl.mono λj hj=>hj.imp id λh=>by simpa [DV.refs] using h
 simp only [Ax,↓Ba]
 refine Fl (Cp9 (k+4) _ _ _ _ ⟨rfl,rfl⟩ Ig.live λGr Ni Iz=>?_)
 have jv:Gr.get es.nx=some (.row 109 [Cl]):=by rw [Iz _ (by omega),Et _ (by omega)];exact Dm
 have HS:=Ig.keep (Ao:=Gr) λj hj=>Iz j (by rcases hj with h | h <;> omega)
 simp only [Ax,↓Ba]
 refine C11 k n0 es.nx l m hn rfl HS hl hc jv Ni (by simp only [bR]) (by simp only [bR]) λGz Mj z T kL Vl L6 kG=>?_
 simp only [Ax,↓Ba,bP,qM L6,kG.live]
 refine hK _ _ z ⟨by simp only [] at kL;omega,λj hj=>?_⟩ kG
 rw [Vl j hj]
 simp only []
 rw [Iz j (by omega),Et j (by omega),Cv j (by omega)]
end
end Go.DD

/- The program's difference and the reference's are the same, in plain Lean. -/
namespace Go.DD
open Go Go.Proofs
def Srt(l:List PCell):Prop:=l.Pairwise (λx y=>Cq x.pos y.pos = -1)
theorem Bb2{hs:List (List PCell)} : ∀ {a:Option (List Int)},Ja a hs=none->a=none/\∀ h∈hs,h=[]:=by
 induction hs with
 | nil=>intro a h;exact ⟨h,λh hh=>by cases hh⟩
 | cons h hs ih=>
  intro a e
  cases h with
  | nil=>
   have e':Ja a hs=none:=by cases a <;> exact e
   obtain ⟨h1,h2⟩:=ih e'
   exact ⟨h1,λh hh=>(Aq.1 hh).elim (λh=>h) (h2 h)⟩
  | cons c t=>
   cases a with
   | none=>exact absurd (ih e).1 (by simp)
   | some q=>
    unfold Ja at e
    split at e
    .exact absurd (ih e).1 (by simp)
    .exact absurd (ih e).1 (by simp)
theorem fV(p:List Int):Cq p p=0:=cmpL_0.2 rfl
theorem B83{hs:List (List PCell)} : ∀ {a:Option (List Int)} {p:List Int},Ja a hs=some p->(∀ q,a=some q->q=p\/Cq p q = -1)/\∀ c t,(c::t)∈hs->c.pos=p\/Cq p c.pos = -1:=by
 induction hs with
 | nil=>intro a p h;exact ⟨λq hq=>.inl (by rw [show a=some p from h] at hq;exact (Ge hq).symm),λc t h=>by cases h⟩
 | cons h hs ih=>
  intro a p e
  cases h with
  | nil=>
   have e':Ja a hs=some p:=by cases a <;> exact e
   obtain ⟨h1,h2⟩:=ih e'
   exact ⟨h1,λc t hh=>(Aq.1 hh).elim (λh=>by cases h) (h2 c t)⟩
  | cons c t=>
   cases a with
   | none=>
    obtain ⟨h1,h2⟩:=ih (show Ja (some c.pos) hs=some p from e)
    refine ⟨λq hq=>by (cases hq),λc' t' hh=>?_⟩
    rcases Aq.1 hh with h | h
    .cases h;exact h1 _ rfl
    .exact h2 c' t' h
   | some q=>
    unfold Ja at e
    split at e
    .rename_i Ez
     obtain ⟨h1,h2⟩:=ih e
     have h3:=h1 _ rfl
     refine ⟨λq' hq=>?_,λc' t' hh=>?_⟩
     .cases hq
      rcases h3 with h3 | h3
      .rw [<- h3];exact .inr Ez
      .exact .inr (qU h3 Ez)
     .rcases Aq.1 hh with h | h
      .cases h;exact h3
      .exact h2 c' t' h
    .rename_i Ez
     obtain ⟨h1,h2⟩:=ih e
     have h3:=h1 _ rfl
     refine ⟨λq' hq=>by cases hq;exact h3,λc' t' hh=>?_⟩
     rcases Aq.1 hh with h | h
     .cases h
      rcases lX c.pos q with h4 | h4 | h4
      .exact absurd h4 Ez
      .rw [cmpL_0.1 h4];exact h3
      .have h5:Cq q c.pos = -1:=by rw [uR];omega
       rcases h3 with h3 | h3
       .rw [<- h3];exact .inr h5
       .exact .inr (qU h3 h5)
     .exact h2 c' t' h
theorem Srt.tail{c:PCell}{t:List PCell}(h:Srt (c::t)):Srt t:=(Fm.1 h).2
theorem Srt.rs{p:List Int}{h:List PCell}(hs:Srt h):Srt (Tb p h):=by
 cases h with
 | nil=>exact hs
 | cons c t=>
  rw [Sb]
  split
  .exact hs.tail
  .exact hs
theorem Bp7{l:List PCell}{p:List Int}(h:∀ c∈l,c.pos≠p):Th l p=[]:=Bp5 λj hj=>h _ (Bh hj)
theorem Bb3(c:PCell)(t:List PCell)(p:List Int):Th (c::t) p=if c.pos=p then c.vals else Th t p:=by
 unfold Th
 rw [List.find?_cons]
 by_cases h:c.pos=p
 .rw [Af h,Ar h]
 .rw [Ad h,Aj h]
theorem nP{p q:List Int}(h:Cq p q = -1):p≠q:=λe=>by rw [e,fV] at h;cases h
theorem Ch5{p:List Int}{h:List PCell}(hs:Srt h)(hm:∀ c t,h=c::t->c.pos=p\/Cq p c.pos = -1):∀ c∈Tb p h,Cq p c.pos = -1:=by
 cases h with
 | nil=>intro c hc;cases hc
 | cons a t=>
  intro c hc
  obtain ⟨h1,h2⟩:=Fm.1 hs
  rw [Sb] at hc
  rcases hm a t rfl with h3 | h3
  .rw [Af h3] at hc
   rw [<- h3];exact h1 c hc
  .rw [Ad λe=>nP h3 e.symm] at hc
   rcases Aq.1 hc with rfl | hc
   .exact h3
   .exact qU h3 (h1 c hc)
theorem By2{p:List Int}{h:List PCell}(hs:Srt h)(hm:∀ c t,h=c::t->c.pos=p\/Cq p c.pos = -1):bZ p h=Th h p:=by
 have hg:=Ch5 hs hm
 cases h with
 | nil=>rfl
 | cons a t=>
  rw [iL,Bb3]
  by_cases e:a.pos=p
  .rw [Af e,Af e]
  .rw [Ad e,Ad e]
   rw [Sb,Ad e] at hg
   exact (Bp7 λc hc=>(nP (hg c (Be _ hc))).symm).symm
theorem By3{p q:List Int}(h:List PCell)(hq:q≠p):Th (Tb p h) q=Th h q:=by
 cases h with
 | nil=>rfl
 | cons a t=>
  rw [Sb]
  by_cases e:a.pos=p
  .rw [Af e,Bb3,Ad λe2=>hq (by rw [<- e2,e])]
  .rw [Ad e]
theorem Bp8{n:Nat} : ∀ {hs:List (List PCell)},(∀ h∈hs,Srt h)->Za hs<=n->(Kg n hs).Pairwise (λa b=>Cq a.1 b.1 = -1)/\(∀ p,(∃ w∈Kg n hs,w.1=p)↔∃ h∈hs,∃ c∈h,c.pos=p)/\∀ w∈Kg n hs,w.2=hs.map λh=>Th h w.1:=by
 induction n with
 | zero=>
  intro hs hS ht
  cases e:Ja none hs with
  | none=>
   rw [TU e]
   refine ⟨.nil,λp=>⟨λ⟨w,h,_⟩=>(by cases h),λ⟨h,hh,c,hc,_⟩=>?_⟩,λw h=>by cases h⟩
   rw [(Bb2 e).2 h hh] at hc;cases hc
  | some p=>obtain ⟨m,h,_⟩:=tw ht e;omega
 | succ n ih=>
  intro hs hS ht
  cases e:Ja none hs with
  | none=>
   rw [TU e]
   refine ⟨.nil,λp=>⟨λ⟨w,h,_⟩=>(by cases h),λ⟨h,hh,c,hc,_⟩=>?_⟩,λw h=>by cases h⟩
   rw [(Bb2 e).2 h hh] at hc;cases hc
  | some p=>
   obtain ⟨m,hm,Xd,hw⟩:=tw ht e
   obtain rfl:m=n:=by omega
   have Ws:=(B83 e).2
   have hmh:∀ h∈hs,∀ c t,h=c::t->c.pos=p\/Cq p c.pos = -1:=λh hh c t he=>Ws c t (he ▸ hh)
   have KS:∀ h∈hs.map (Tb p),Srt h:=λh hh=>by
    obtain ⟨h',zB,rfl⟩:=Bm.1 hh
    exact (hS h' zB).rs
   obtain ⟨i1,i2,i3⟩:=ih KS Xd
   have QE:∀ w∈Kg m (hs.map (Tb p)),Cq p w.1 = -1:=λw rC=>by
    obtain ⟨h,hh,c,hc,h2⟩:=(i2 w.1).1 ⟨w,rC,rfl⟩
    obtain ⟨h',zB,rfl⟩:=Bm.1 hh
    rw [<- h2]
    exact Ch5 (hS h' zB) (hmh h' zB) c hc
   rw [hw]
   refine ⟨.cons QE i1,λq=>⟨λ⟨w,rC,hq⟩=>?_,λ⟨h,hh,c,hc,hq⟩=>?_⟩,λw rC=>?_⟩
   .rcases Aq.1 rC with rfl | rC
    .obtain ⟨c,t,h1,h2⟩:=(wj e).elim (λh=>by cases h) id
     exact ⟨_,h1,c,by simp,h2.trans hq⟩
    .obtain ⟨h,hh,c,hc,h2⟩:=(i2 q).1 ⟨w,rC,hq⟩
     obtain ⟨h',zB,rfl⟩:=Bm.1 hh
     exact ⟨h',zB,c,TV hc,h2⟩
   .by_cases hp:q=p
    .exact ⟨_,Dv,hp.symm⟩
    .have Kz:c∈Tb p h:=by
      cases h with
      | nil=>cases hc
      | cons a t=>
       rw [Sb]
       split
       .rename_i ha
        rcases Aq.1 hc with rfl | hc
        .exact absurd (hq.symm.trans ha) hp
        .exact hc
       .exact hc
     obtain ⟨w,h1,h2⟩:=(i2 q).2 ⟨_,Bm.2 ⟨h,hh,rfl⟩,c,Kz,hq⟩
     exact ⟨w,Be _ h1,h2⟩
   .rcases Aq.1 rC with rfl | rC
    .exact Ea λh hh=>By2 (hS h hh) (hmh h hh)
    .rw [i3 w rC,List.map_map]
     exact Ea λh hh=>By3 h λe=>nP (QE w rC) e.symm
theorem By4{a b c:List Int}(h1:Cq a b≠1)(h2:Cq b c≠1):Cq a c≠1:=by
 rcases lX a b with h | h | h
 .rcases lX b c with g | g | g
  .rw [qU h g];decide
  .rw [<- cmpL_0.1 g,h];decide
  .exact absurd g h2
 .rw [cmpL_0.1 h];exact h2
 .exact absurd h h1
end Go.DD
