/- Chapter 08: VersionApart returns true: as a contract. Conditions: none. -/
import Derived.Test.YtnphfnhhpcelbaaGreatYv
import Derived.Test.YtnphfnhhpcelbaaGreatYe
import Derived.WalkKit
import Derived.ProofKit
import Derived.OpenShut
import Derived.ChangeSame
import Derived.Below
import Derived.Test.YtnphfnhhpcelbaaGreatYs
import Derived.Test.YtnphfnhhpcelbaaGreatRows
import Derived.ChangeSlices
import Derived.Carry
set_option linter.unusedSectionVars false
set_option linter.unusedVariables false
namespace Go.DD
open Go Go.Proofs Go.Sort
def Uv:ByteArray:=bs [109,97,105,110]
def bB:ByteArray:=bs [98]
theorem Fr3.below{hp Ap:Tr DObj}{nx Ba T H n:Nat}{nd:DV}(h:Fr3 hp nx T H nd Ap Ba)(hn:n<=nx)(h1:n<=T)(h2:n<=H)(h3:∀ j∈nd.refs,n<=j):Al hp n Ap Ba:=⟨by have:=h.le;omega,λj hj=>h.k j (by omega) (by omega) (by omega) λhh=>by have:=h3 j hh;omega⟩
def tr1(x:PArr):PTree:=⟨x.dims,x.attrs,[⟨x.cells,[]⟩],[(Uv,1),(bB,1)]⟩
def tr2(x:PArr)(a:List PCell):PTree:=⟨x.dims,x.attrs,[⟨x.cells,[]⟩,⟨a,[1]⟩],[(Uv,2),(bB,1)]⟩
def ZW(x:PArr)(a b:List PCell):PTree:=⟨x.dims,x.attrs,[⟨x.cells,[]⟩,⟨a,[1]⟩,⟨b,[1]⟩],[(Uv,2),(bB,3)]⟩
def ZV(x:PArr)(a b c:List PCell):PTree:=⟨x.dims,x.attrs,[⟨x.cells,[]⟩,⟨a,[1]⟩,⟨b,[1]⟩,⟨c,[2,3]⟩],[(Uv,4),(bB,3)]⟩
def tr5(x:PArr)(a b c:List PCell):PTree:=⟨x.dims,x.attrs,[⟨x.cells,[]⟩,⟨a,[1]⟩,⟨b,[1]⟩,⟨c,[2,3]⟩,⟨c,[3,4]⟩],[(Uv,4),(bB,5)]⟩
theorem kM(x:PArr)(a b:List PCell):Pg (ZW x a b) 2 3=1:=rfl
theorem Zp(x:PArr)(a b c:List PCell):Pg (ZV x a b c) 3 4=3:=rfl
theorem B29(x:PArr)(l m:List PCell):Known Tryz.prog 6 [mP x,Xl l,Xl m] (.v (.bool true)):=by
 refine Known.run1 mixed jI (Bj9 (n:=1000000) mixed jI Cn0 29) t6 (Ab rfl) (λx hx=>?_) rfl (λ_=>Cm1 rfl) λes he=>?_
 .simp only [Ak,Om,or_false] at hx
  rcases hx with rfl | rfl | rfl <;> rfl
 have a0:Ac es (.t .o)=mP x:=he 0 _ rfl
 have a1:Ac es (.t (.l .o))=Xl l:=he 1 _ rfl
 have a2:Ac es (.t (.r .o))=Xl m:=he 2 _ rfl
 have ar:∀ (z:PArr) (hp:Tr DObj),∃ a b c,mP z=.agg [a,b,c]/\RL rDim hp (Bl 0) a z.dims/\RL rAttr hp (Bl 0) b z.attrs/\RL rCell hp (Bl 0) c z.cells:=λz hp=>⟨_,_,_,rfl,.sl _,.sl _,.sl _⟩
 obtain ⟨d,a,c,e1,w1,w2,w3⟩:=ar x es.hp
 have hL:∀ {hp:Tr DObj},RL rChange hp (Bl 0) (Xl l) l:=.sl _
 have hM:∀ {hp:Tr DObj},RL rChange hp (Bl 0) (Xl m) m:=.sl _
 generalize Xl l=ls at a1 hL
 generalize Xl m=ms at a2 hM
 rw [e1] at a0
 unfold r6
 have hn:0<=es.nx:=Gf _
 simp only [↓An]
 refine Tm (cs:=[d,a,c]) (by rw [Di,a0];exact AR.live w1 w2 w3) λDv Dc Cr=>?_
 simp only [bR] at Dc Cr
 have Em:Al es.hp es.nx Dv (es.nx+1):=⟨by omega,λj hj=>Cr j (by omega)⟩
 have k0:∀ {Ap:Tr DObj},∀ j,Bl 0 j->Ap.get j=es.hp.get j:=λj hj=>absurd hj (Xo j)
 have hr:∀ {Ap:Tr DObj},AR Ap (Bl 0) (.agg [d,a,c]) x:=⟨d,a,c,rfl,w1.keep k0,w2.keep k0,w3.keep k0⟩
 have LA:∀ {Ap:Tr DObj},(∀ j,j<es.nx+1->Ap.get j=Dv.get j)->Hk Ap (some 3) (.pt es.nx 0)=some (.agg [d,a,c]):=λh=>(Mh ((h es.nx (by omega)).trans Dc)).2.2.2.2
 simp only [Am,↓An,LA λ_ _=>rfl]
 refine Dt (Cf9 26 _ _ _ _ x 30 0 (by omega) hr (by omega) λDb Hh Cq=>?_)
 have Fq:=Cq.le
 cases c1:Xj x 30 with
 | false=>
  simp only [Am,↓An]
  refine Dt (J4 28 _ _ _ ?_)
  simp only [Am,↓An,bP]
 | true=>
 simp only [Am,↓An,a1]
 refine Dt (B16 25 0 _ _ _ ls l 12 (by omega) hL (by omega) λHe Dn Ec=>?_)
 have Ik:=Ec.le
 cases c2:mO l 12 with
 | false=>
  simp only [Am,↓An]
  refine Dt (J4 28 _ _ _ ?_)
  simp only [Am,↓An,bP]
 | true=>
 simp only [Am,↓An,a2]
 refine Dt (B16 25 0 _ _ _ ms m 12 (by omega) hM (by omega) λHo Lb Lv=>?_)
 have Vq:=Lv.le
 cases c3:mO m 12 with
 | false=>
  simp only [Am,↓An]
  refine Dt (J4 28 _ _ _ ?_)
  simp only [Am,↓An,bP]
 | true=>
 have hx:=Bv8 c1 (by omega)
 have sV:=B14 c1
 obtain ⟨aWm,hb⟩:=B15 c2
 obtain ⟨aWi,hbm⟩:=B15 c3
 simp only [Am,↓An,a1,a2]
 refine Dt (B99 24 0 _ _ _ ls ms l m (by omega) hL hM (by omega) (by omega) (λe he=>(hb e he).1) λDu Fm zs Cw uP=>?_)
 have Fp:=Cw.le
 have k5:∀ j,j<es.nx+1->Du.get j=Dv.get j:=λj hj=>by rw [Cw.same j (by omega),Lv.same j (by omega),Ec.same j (by omega),Cq.same j (by omega)]
 have zN:∀ {Ap:Tr DObj},(∀ j,j<Fm->Ap.get j=Du.get j)->RL rChange Ap (Bl Fm) zs (Rx l m):=λh=>(uP.keep λj hj=>h j (by rcases hj with hj | hj;omega;exact hj.2)).mono λj hj=>by
  rcases hj with hj | hj
  .omega
  .exact hj.2
 simp only [Am,↓An,LA k5]
 refine Dt (C07 17 _ _ _ 0 _ x (by omega) hr hx (by omega) (λGa Ih hE Lu=>?_) λGa Ih T H nd c4 Lu hT hH hN ht6=>?_)
 .have z0:Fg Ga (.tup [.v (.pointer none),iv 2]) 0=some (.v (.pointer none)):=rfl
  have z1:Fg Ga (.tup [.v (.pointer none),iv 2]) 1=some (iv 2):=rfl
  simp only [Am,↓An,z0,z1,show decide (¬ (2:Int)=0)=true from rfl]
  refine fM true (by simp only [Dh,bR,bP,Sd];rfl) Bm3 ?_
  simp only [Am,↓An]
  refine Dt (J4 28 _ _ _ ?_)
  simp only [Am,↓An,bP]
 .have Jr:=Lu.le
  have qj:=ht6.ld
  obtain ⟨_,_,_,hT6,_⟩:=qj
  have z0:Fg Ga (.tup [.pt T 0,iv 0]) 0=some (.pt T 0):=tG λid hid=>by
   have:id=T:=by simpa [DV.refs,DV.refsL,iv] using hid
   rw [this,hT6];rfl
  have z1:Fg Ga (.tup [.pt T 0,iv 0]) 1=some (iv 0):=rfl
  simp only [Am,↓An,z0,z1]
  refine Dt (B23 26 _ bB 1 ht6 (by decide) rfl ⟨by omega,Af _⟩ (Nat.succ_lt_succ (Nat.zero_lt_succ _)) λIj If LI=>?_)
  have na:TreeAt Ij Ih T H nd (tr1 x):=LI
  clear LI
  have JS:∀ {S:PTree} {Ap:Tr DObj} {Ba:Nat} {Sk:DV},TreeAt Ap Ba T H Sk S->(∀ j∈Sk.refs,Fm<=j)->Fm<=Ba->∀ j,Bl Fm j->j<Ba/\j≠T/\j≠H/\j∉Sk.refs:=λ_ h2 h3 j hj=>by
   have:j<Fm:=hj
   exact ⟨by omega,by omega,by omega,λh=>by have:=h2 j h;omega⟩
  have lap:=Bc7 l m
  have VP:∀ c∈Rx l m,c.pos.length<900000/\c.vals.length<900000/\∀ v∈c.vals,Wn v:=λc hc=>hbm c (A06 hc).1
  have k7:∀ j,j<Fm->Ij.get j=Du.get j:=λj hj=>by rw [If j (by omega),Lu.same j hj]
  simp only [Am,↓An,a1]
  refine Dt (A07 0 _ 8 Uv 1 ls l na rfl ⟨Af _,Af _⟩ (hL.mono λj hj=>absurd hj (Xo j)) (by show x.cells.length+l.length<=60;omega) hb (by show 1+1<60;decide) (by show 1<=8;decide) (λLq Vj e he Lr=>?_) λLq Vj nd8 q1 p1 s1 h1 hq1 fr8 oq ht8=>?_)
  .have z0:Fg Lq (.tup [iv 0,iv e]) 0=some (iv 0):=rfl
   have z1:Fg Lq (.tup [iv 0,iv e]) 1=some (iv e):=rfl
   have Vp:=Lr.le
   simp only [Am,↓An,z0,z1]
   refine Dt (A07 0 _ 8 bB 1 zs (Rx l m) (na.keep Lr) rfl ⟨Af _,Af _⟩ ((zN (Ap:=Lq) λj hj=>(Lr.same j (by omega)).trans (k7 j hj)).mono (JS (na.keep Lr) hN (by omega))) (by show x.cells.length+(Rx l m).length<=60;omega) VP (by show 1+1<60;decide) (by show 1<=8;decide) (λJg Jl e9 he9 qZ=>?_) λJg Jl jw q2 p2 s2 h2 hq2 uf MP mz=>?_)
   .have z0:Fg Jg (.tup [iv 0,iv e9]) 0=some (iv 0):=rfl
    have z1:Fg Jg (.tup [iv 0,iv e9]) 1=some (iv e9):=rfl
    simp only [Am,↓An,z0,z1,show decide (¬ e=0)=true from Ai he]
    refine Dt (J4 28 _ _ _ ?_)
    simp only [Am,↓An,bP]
   .have z0:∀ {a b:Int},Fg Jg (.tup [iv a,iv b]) 0=some (iv a):=rfl
    have z1:∀ {a b:Int},Fg Jg (.tup [iv a,iv b]) 1=some (iv b):=rfl
    simp only [Am,↓An,z0,z1,show decide (¬ e=0)=true from Ai he]
    refine Dt (J4 28 _ _ _ ?_)
    simp only [Am,↓An,bP]
  .have z0:∀ {a b:Int} {Ap:Tr DObj},Fg Ap (.tup [iv a,iv b]) 0=some (iv a):=rfl
   have z1:∀ {a b:Int} {Ap:Tr DObj},Fg Ap (.tup [iv a,iv b]) 1=some (iv b):=rfl
   have Vp:=fr8.le
   have kS:=fr8.below (n:=Fm) (by omega) (by omega) (by omega) λj hj=>by have:=hN j hj;omega
   have LH:TreeAt Lq Vj T H nd8 (tr2 x (Fz q1 x.cells)):=ht8
   rw [show (((tr1 x).vers.length+1:Nat):Int)=2 from rfl]
   have k8:∀ j,j<Fm->Lq.get j=Du.get j:=λj hj=>(kS.same j hj).trans (k7 j hj)
   have hN8:∀ j∈nd8.refs,Fm<=j:=λj hj=>by have:=oq j hj;omega
   clear ht8
   simp only [Am,↓An,z0,z1]
   refine Dt (A07 0 _ 8 bB 1 zs (Rx l m) LH rfl ⟨Af _,by show 1<=2;decide⟩ ((zN k8).mono (JS LH hN8 (by omega))) (by show x.cells.length+(Rx l m).length<=60;omega) VP (by show 2+1<60;decide) (by show 2<=8;decide) (λJg Jl e9 he9 qZ=>?_) λJg Jl jw q2 p2 s2 h2 hq2 uf MP mz=>?_)
   .simp only [Am,↓An,z0,z1,show decide (¬ e9=0)=true from Ai he9]
    refine Dt (J4 28 _ _ _ ?_)
    simp only [Am,↓An,bP]
   have uY:=uf.le
   have iY:=uf.below (n:=Fm) (by omega) (by omega) (by omega) hN8
   have k9:∀ j,j<Fm->Jg.get j=Du.get j:=λj hj=>(iY.same j hj).trans (k8 j hj)
   have P5:TreeAt Jg Jl T H jw (ZW x (Fz q1 x.cells) (Fz q2 x.cells)):=mz
   rw [show (((tr2 x (Fz q1 x.cells)).vers.length+1:Nat):Int)=3 from rfl]
   clear mz
   have hN9:∀ j∈jw.refs,Fm<=j:=λj hj=>by have:=MP j hj;omega
   simp only [Am,↓An,z0,z1,a1]
   refine fL (R:=rChange) (p:=Bl 0) (p2:=Bl 0) (d:=Bv) (d2:=ls) (l:=[]) (m:=l) (by simp only [bR,bP];rfl) .nil (by simp only [Dh,bR,bP];exact hL.live) (hL.srcD (es:=⟨_,Jg,_⟩)) rfl rfl (by show 0+l.length<=_;omega) (by decide) λJx Kf tA=>?_
   simp only [bR] at Kf tA
   have N1:OL rChange Jx (Bl 0) (.ms Jl 0 l.length rChange.e) l:=tA (Bl 0) λj hj=>absurd (hj.elim id id) (Xo j)
   have lO:∀ j,j<Jl->Jx.get j=Jg.get j:=λj hj=>Kf j (by omega) λh=>by cases h
   have z10:=zN (Ap:=Jx) λj hj=>(lO j (by omega)).trans (k9 j hj)
   simp only [Am,↓An]
   refine fL (R:=rChange) (p:=Bl 0) (p2:=Bl Fm) (d:=.ms Jl 0 l.length rChange.e) (d2:=zs) (l:=l) (m:=Rx l m) (by simp only [bR,bP]) N1 (by simp only [Dh,bR,bP];exact z10.live) (z10.srcD (es:=⟨_,Jx,_⟩)) rfl rfl (by omega) (by decide) λOu Nv h11=>?_
   simp only [bR] at Nv h11
   have AL:∀ {n k e j:Nat},j∈(DV.ms n 0 k e).refs->j=n:=λh=>by simpa [DV.refs] using h
   have jq:=h11 (Bl Fm) λj hj=>by
    have:j<Fm:=hj.elim (λh=>absurd h (Xo j)) id
    exact ⟨this,by omega,λh=>by have:=AL h;omega⟩
   have O9:∀ j,j<Jl->Ou.get j=Jg.get j:=λj hj=>(Nv j (by omega) λh=>by have:=AL h;omega).trans (lO j hj)
   have r11:RL rChange Ou (Bl (Jl+1+1)) (.ms (Jl+1) 0 (l++Rx l m).length rChange.e) (l++Rx l m):=jq.rl.mono λj hj=>by
    rcases hj with hj | hj
    .have:j<Fm:=hj
     show j<_;omega
    .have:=AL hj
     show j<_;omega
   have bY:∀ {Ap:Tr DObj} {n:Nat},AR Ap (Bl n) (.agg [d,a,c]) x:=⟨d,a,c,rfl,(w1.keep k0).bl (Gf _),(w2.keep k0).bl (Gf _),(w3.keep k0).bl (Gf _)⟩
   have hlen:(l++Rx l m).length<=24:=by rw [Bp];omega
   generalize hAL:DV.ms (Jl+1) 0 (l++Rx l m).length rChange.e=al at r11
   have ng:=P5.keep (Ap:=Ou) (Ba:=Jl+1+1) ⟨by omega,O9⟩
   simp only [Am,↓An,LA λj hj=>((O9 j (by omega)).trans (k9 j (by omega))).trans (k5 j hj)]
   refine Dt (Bm0 10 (Jl+1+1) _ _ _ _ al x (l++Rx l m) (Af _) bY r11 hx (by omega) (λe he=>(Bo.1 he).elim (hb e) (VP e)) λaG Vk d12 r12 e12 D6 OM ON _=>?_)
   have NC:=D6.le
   obtain ⟨rfl,q,hq,UZ,rfl⟩:=Bf5 c4 h1 h2 p1 s1 p2 s2 ON
   obtain ⟨m1,m2,m3⟩:=Bp1 c4 h1 h2 p1 s1 p2 s2 hq UZ (by omega)
   obtain ⟨dw,aw,cw,rfl,x1,x2,x3⟩:=OM
   have y0:=Qf (e:=0) x1 x2 x3
   have y1:Fg aG (.tup [.agg [dw,aw,cw],iv 0]) 1=some (iv 0):=Mo
   simp only [Am,↓An,y0,y1]
   refine Oe λQ8 qO aN=>?_
   simp only [bR] at qO aN
   have UM:∀ j,Bw (Jl+1+1) Vk j->Q8.get j=aG.get j:=λj hj=>aN j (by have:=hj.2;omega)
   simp only [Am,↓An]
   refine Oi (n:=3) (id:=Vk) (ds:=[dw,aw,cw]) (by simp only [bR]) qO (by simp only [Di,bR];exact AR.live (x:=⟨x.dims,x.attrs,Fz q x.cells⟩) (x1.keep UM) (x2.keep UM) (x3.keep UM)) rfl rfl λgH vI mD=>?_
   simp only [bR] at vI mD
   have aFw:Jl+1+1<=Vk:=NC
   have k14:∀ j,j<Jl+1+1->gH.get j=Ou.get j:=λj hj=>by rw [mD j (by omega),aN j (by omega),D6.same j hj]
   have LJ:=ng.keep (Ap:=gH) (Ba:=Vk+1) ⟨by omega,k14⟩
   have aXz:=LJ.th
   have l1:=I8 q1 x.cells
   have l2:=I8 q2 x.cells
   have l3:=I8 q x.cells
   have F7:=p1.length_eq
   have WK:=p2.length_eq
   have e3':=hq.length_eq
   have Z9:Ff ⟨x.dims,x.attrs,Fz q x.cells⟩=0/\AOK ⟨x.dims,x.attrs,Fz q x.cells⟩/\(Fz q x.cells).length<=60:=⟨m1,oR hx hq (by omega) λe he=>(Bo.1 he).elim (hb e) (VP e),by omega⟩
   simp only [Am,↓An]
   refine Dt (Bc6 0 _ 8 Uv bB 2 3 (Fz q x.cells) LJ rfl rfl ⟨by decide,by show 2<=3;decide⟩ ⟨by decide,by show 3<=3;decide⟩ (by rw [kM];decide) (by rw [kM];decide) (by rw [kM];show 1<=3;decide) (by rw [kM];show x.cells.length+(Fz q1 x.cells).length+(Fz q2 x.cells).length<=256;omega) m2 m3 Z9 (by show 3+1<60;decide) (by show 3<=8;decide) λgG Tp jy PK MQ A8=>?_)
   have P6:TreeAt gG Tp T H jy (ZV x (Fz q1 x.cells) (Fz q2 x.cells) (Fz q x.cells)):=A8
   clear A8
   rw [show (((ZW x (Fz q1 x.cells) (Fz q2 x.cells)).vers.length+1:Nat):Int)=4 from rfl]
   have t0:∀ {a b:Int} {Ap:Tr DObj},Fg Ap (.tup [iv a,Bv,iv b]) 0=some (iv a):=rfl
   have t1:∀ {a b:Int} {Ap:Tr DObj},Fg Ap (.tup [iv a,Bv,iv b]) 1=some Bv:=rfl
   have t2:∀ {a b:Int} {Ap:Tr DObj},Fg Ap (.tup [iv a,Bv,iv b]) 2=some (iv b):=rfl
   have aFv:=PK.le
   simp only [Am,↓An,t0,t1,t2]
   refine Dt (Cj5 3 _ 8 4 P6 ⟨by decide,by show 4<=4;decide⟩ (by decide) λaF Ng d16 X5 qY _=>?_)
   have NB:=X5.le
   obtain ⟨dy,ay,cy,rfl,u1,u2,u3⟩:=qY
   have y0:=Qf (e:=0) u1 u2 u3
   have y1:Fg aF (.tup [.agg [dy,ay,cy],iv 0]) 1=some (iv 0):=Mo
   simp only [Am,↓An,y0,y1]
   refine Oe λMI qN aM=>?_
   simp only [bR] at qN aM
   have UL:∀ j,Bw Tp Ng j->MI.get j=aF.get j:=λj hj=>aM j (by have:=hj.2;omega)
   simp only [Am,↓An]
   refine Oi (n:=3) (id:=Ng) (ds:=[dy,ay,cy]) (by simp only [bR]) qN (by simp only [Di,bR];exact AR.live (x:=⟨x.dims,x.attrs,Fz q x.cells⟩) (u1.keep UL) (u2.keep UL) (u3.keep UL)) rfl rfl λYb aP aL=>?_
   simp only [bR] at aP aL
   have nf:=P6.keep (Ap:=Yb) (Ba:=Ng+1) ⟨by omega,λj hj=>by rw [aL j (by omega),aM j (by omega),X5.same j hj]⟩
   have yg:Ff ⟨x.dims,x.attrs,Fz q2 x.cells⟩=0:=hq2
   have bb:=Ca0 yg m1 (by simp [Vx])
   simp only [Am,↓An]
   refine Dt (Bc6 0 _ 8 bB Uv 3 4 (Fz q x.cells) nf rfl rfl ⟨by decide,by show 3<=4;decide⟩ ⟨by decide,by show 4<=4;decide⟩ (by rw [Zp];decide) (by rw [Zp];decide) (by rw [Zp];show 3<=4;decide) (by rw [Zp];show (Fz q2 x.cells).length+(Fz q2 x.cells).length+(Fz q x.cells).length<=256;omega) (by rw [Zp];exact bb.1) (by rw [Zp];exact bb.2) Z9 (by show 4+1<60;decide) (by show 4<=8;decide) λQ7 uG jx PJ aFk A7=>?_)
   have nb:TreeAt Q7 uG T H jx (tr5 x (Fz q1 x.cells) (Fz q2 x.cells) (Fz q x.cells)):=A7
   clear A7
   rw [show (((ZV x (Fz q1 x.cells) (Fz q2 x.cells) (Fz q x.cells)).vers.length+1:Nat):Int)=5 from rfl]
   have aFu:=PJ.le
   simp only [Am,↓An,t0,t1,t2]
   refine Dt (Cj5 3 _ 8 5 nb ⟨by decide,by show 5<=5;decide⟩ (by decide) λpP bM d20 RA OJ _=>?_)
   have aFt:=RA.le
   obtain ⟨dz,az,cz,rfl,v1,v2,v3⟩:=OJ
   have y0:=Qf (e:=0) v1 v2 v3
   have y1:Fg pP (.tup [.agg [dz,az,cz],iv 0]) 1=some (iv 0):=Mo
   simp only [Am,↓An,y0,y1]
   refine Oe λlS qM cH=>?_
   simp only [bR] at qM cH
   have uO:∀ j,Bw uG bM j->lS.get j=pP.get j:=λj hj=>cH j (by have:=hj.2;omega)
   simp only [Am,↓An]
   refine Oi (n:=3) (id:=bM) (ds:=[dz,az,cz]) (by simp only [bR]) qM (by simp only [Di,bR];exact AR.live (x:=⟨x.dims,x.attrs,Fz q x.cells⟩) (v1.keep uO) (v2.keep uO) (v3.keep uO)) rfl rfl λWz NU R5=>?_
   simp only [bR] at NU R5
   have hT9:=P5.th
   have hn9:=P5.nr
   have ot:=P6.nr
   have k15:∀ j,Jl<=j->j<Vk+1->gG.get j=gH.get j:=λj h1 h2=>PK.k j (by omega) (by omega) (by omega) λh=>by have:=(hn9 j h).1;omega
   have zZ:∀ j,j<Tp->Yb.get j=gG.get j:=λj hj=>by rw [aL j (by omega),aM j (by omega),X5.same j hj]
   have KH:∀ j,j<uG->Wz.get j=Q7.get j:=λj hj=>by rw [R5 j (by omega),cH j (by omega),RA.same j hj]
   have UJ:∀ j,Jl<=j->(j<Vk+1\/Tp<=j)->j<Ng+1->Wz.get j=Yb.get j:=λj h1 h2 h3=>by
    rw [KH j (by omega)]
    exact PJ.k j (by omega) (by omega) (by omega) λh=>by have:=(ot j h).1;have:=MQ j h;omega
   have gW:Wz.get Vk=_:=(UJ Vk (by omega) (.inl (by omega)) (by omega)).trans ((zZ Vk (by omega)).trans ((k15 Vk (by omega) (by omega)).trans vI))
   have gY:Wz.get Ng=_:=(UJ Ng (by omega) (.inr (by omega)) (by omega)).trans aP
   have kW:∀ j,Bw (Jl+1+1) Vk j->Wz.get j=aG.get j:=λj hj=>by
    have h1:=hj.1
    have h2:=hj.2
    rw [UJ j (by omega) (.inl (by omega)) (by omega),zZ j (by omega),k15 j (by omega) (by omega),mD j (by omega),UM j hj]
   have kY:∀ j,Bw Tp Ng j->Wz.get j=aF.get j:=λj hj=>by
    have h1:=hj.1
    have h2:=hj.2
    rw [UJ j (by omega) (.inr (by omega)) (by omega),aL j (by omega),UL j hj]
   have kZ:∀ j,Bw uG bM j->Wz.get j=pP.get j:=λj hj=>by
    have h2:=hj.2
    rw [R5 j (by omega),uO j hj]
   have AW:AR Wz (Bl (bM+1)) (.agg [dw,aw,cw]) ⟨x.dims,x.attrs,Fz q x.cells⟩:=AR.fwd2 (hp:=aG) ⟨dw,aw,cw,rfl,x1,x2,x3⟩ (λj h1 h2=>kW j ⟨h1,h2⟩) (by omega)
   have AY:AR Wz (Bl (bM+1)) (.agg [dy,ay,cy]) ⟨x.dims,x.attrs,Fz q x.cells⟩:=AR.fwd2 (hp:=aF) ⟨dy,ay,cy,rfl,u1,u2,u3⟩ (λj h1 h2=>kY j ⟨h1,h2⟩) (by omega)
   have AZ:AR Wz (Bl (bM+1)) (.agg [dz,az,cz]) ⟨x.dims,x.attrs,Fz q x.cells⟩:=AR.fwd2 (hp:=pP) ⟨dz,az,cz,rfl,v1,v2,v3⟩ (λj h1 h2=>kZ j ⟨h1,h2⟩) (by omega)
   have lW:=(Mh gW).2.2.2.2
   have lY:=(Mh gY).2.2.2.2
   have sm:Yr ⟨x.dims,x.attrs,Fz q x.cells⟩ ⟨x.dims,x.attrs,Fz q x.cells⟩=true:=by unfold Yr;simp [m1]
   simp only [Am,↓An,lW,lY,show Qp Wz Bv=some (.v (.int .i64 0)) from rfl]
   refine Dt (A02 21 (bM+1) _ _ _ _ _ _ _ (Af _) AY AW Z9.2.1 Z9.2.1 λaW1 ju dD=>?_)
   have aFs:=dD.le
   have lW:=(Mh ((dD.same Vk (by omega)).trans gW)).2.2.2.2
   have lZ:=(Mh ((dD.same bM (by omega)).trans NU)).2.2.2.2
   rw [sm]
   simp only [Am,↓An,lW,lZ]
   refine Dt (A02 21 ju _ _ _ _ _ _ _ (Af _) (AZ.fwd dD) (AW.fwd dD) Z9.2.1 Z9.2.1 λaW0 aU2 D5=>?_)
   rw [sm]
   simp only [Am,↓An]
   refine Dt (J4 28 _ _ _ ?_)
   simp only [Am,↓An,bP]
end Go.DD

/- What the model's memory reads as: structs, slices of structs, nested. Conditions: those that each theorem states. -/
namespace Go.DD
open Go Go.ChangeShapes Go.WideShapes Go.ChangeAt Go.RowKit
theorem fZ{W:World}{a:Addr}{v:Value}(h:W.cell? a=some v):a.block<W.heap.size:=by
 rcases Cj a.block W.heap.size with h' | h'
 .exact h'
 .simp [World.cell?,Wl h'] at h
structure RC (W:World) (us:List Value) (ds:List DV):Prop where
 len:us.length=ds.length
 one:∀ u∈us,u.oneCell'=true
 rel:∀ (j:Nat) (u:Value) (d:DV),us[j]?=some u->ds[j]?=some d->RelI W (λb=>b<W.heap.size) u d
theorem RC.nil(W:World):RC W [] []:=⟨rfl,λu h=>by (cases h),λj u d h=>by simp at h⟩
theorem RC.app{W:World}{us vs:List Value}{ds es:List DV}(h1:RC W us ds)(h2:RC W vs es):RC W (us++vs) (ds++es):=by
 refine ⟨by rw [Bp,Bp,h1.len,h2.len],λu hu=>?_,λj u d hu hd=>?_⟩
 .rcases Bo.1 hu with h | h
  .exact h1.one u h
  .exact h2.one u h
 .rcases Cj j us.length with h | h
  .rw [Cm h] at hu
   rw [Cm (by rw [<- h1.len];exact h)] at hd
   exact h1.rel j u d hu hd
  .rw [Ko h] at hu
   rw [Ko (by rw [<- h1.len];exact h),<- h1.len] at hd
   exact h2.rel _ u d hu hd
theorem RC.one1{W:World}{u:Value}{d:DV}(h1:u.oneCell'=true)(h:RelI W (λb=>b<W.heap.size) u d):RC W [u] [d]:=by
 refine ⟨rfl,λv hv=>by rw [Bk.1 hv];exact h1,λj v e hv he=>?_⟩
 cases j with
 | zero=>cases hv;cases he;exact h
 | succ j=>simp at hv
section
variable {H:Type} (enc:TypeId×Value->H) (P:Program) (W:World)
def Rd{α:Type}(t:TypeId)(F:α->List DV):Prop:=∀ (n:Nat) (cs:List Value) (x:DataW H×List MemPlace),DataW.trod enc P W 0 (λ_=>true) true n t cs=some x->∃ a:α,RC W cs (F a)
variable {enc P W}
theorem I0{t:TypeId}(ht:P.underlying t=some (.int .i64)):Rd enc P W t (λn:Int=>[iv n]):=λn cs x h=>by
 obtain ⟨z,rfl,_,_⟩:=DataW.trod_int ht h
 exact ⟨z,.one1 rfl (.v _)⟩
theorem B30{t:TypeId}(ht:P.underlying t=some .string):Rd enc P W t (λs:ByteArray=>[sv s]):=λn cs x h=>by
 obtain ⟨s,rfl,_,_⟩:=DataW.trod_string ht h
 exact ⟨s,.one1 rfl (.v _)⟩
theorem wI{t:TypeId}{fs:Array Field}(ht:P.underlying t=some (.struct fs)){n:Nat}{cs:List Value}{x:DataW H×List MemPlace}(h:DataW.trod enc P W 0 (λ_=>true) true n t cs=some x)(i:Nat){ti oi:Nat}(hi:(fs.toList.map λf=>(f.type,f.offset))[i]?=some (ti,oi)) :
  cs.length=P.cellsOf t/\∃ m y,DataW.trod enc P W 0 (λ_=>true) true m ti ((cs.drop oi).take (P.cellsOf ti))=some y:=by
 obtain ⟨xs,m,_,_,hl,hlen,hf⟩:=DataW.trod_struct ht h
 rw [Df] at hi
 obtain ⟨f,hf1,VM⟩:=Ag.1 hi
 cases VM
 have S9:fs[i]?=some f:=by rw [<- hf1];exact (Cz).symm
 have Fb:i<fs.size:=by
  rcases Cj i fs.size with h | h
  .exact h
  .rw [Wl h] at S9;cases S9
 have h2:=hf i f S9
 rw [Aa (by omega)] at h2
 exact ⟨hl,m,_,h2⟩
theorem At8{α β:Type}{t t0 t1 k0 k1:Nat}{fs:Array Field}{F0:α->List DV}{F1:β->List DV}(ht:P.underlying t=some (.struct fs))(kA:fs.toList.map (λf=>(f.type,f.offset))=[(t0,0),(t1,k0)])(h0:P.cellsOf t0=k0)(h1:P.cellsOf t1=k1)(hC:P.cellsOf t=k0+k1)(r0:Rd enc P W t0 F0)(r1:Rd enc P W t1 F1):Rd enc P W t (λp:α×β=>F0 p.1++F1 p.2):=λn cs x h=>by
 obtain ⟨hl,_,_,g0⟩:=wI ht h 0 (by rw [kA];rfl)
 obtain ⟨_,_,_,g1⟩:=wI ht h 1 (by rw [kA];rfl)
 obtain ⟨a,ha⟩:=r0 _ _ _ g0
 obtain ⟨b,hb⟩:=r1 _ _ _ g1
 rw [h0] at ha
 rw [h1,Bm (by rw [Cv];omega)] at hb
 refine ⟨(a,b),?_⟩
 have:=ha.app hb
 rw [Fx,Gk] at this
 exact this
theorem A36{α β γ:Type}{t t0 t1 t2 k0 k1 k2:Nat}{fs:Array Field}{F0:α->List DV}{F1:β->List DV}{F2:γ->List DV}(ht:P.underlying t=some (.struct fs))(kA:fs.toList.map (λf=>(f.type,f.offset))=[(t0,0),(t1,k0),(t2,k0+k1)])(h0:P.cellsOf t0=k0)(h1:P.cellsOf t1=k1)(h2:P.cellsOf t2=k2)(hC:P.cellsOf t=k0+k1+k2)(r0:Rd enc P W t0 F0)(r1:Rd enc P W t1 F1)(r2:Rd enc P W t2 F2):Rd enc P W t (λp:α×β×γ=>F0 p.1++(F1 p.2.1++F2 p.2.2)):=λn cs x h=>by
 obtain ⟨hl,_,_,g0⟩:=wI ht h 0 (by rw [kA];rfl)
 obtain ⟨_,_,_,g1⟩:=wI ht h 1 (by rw [kA];rfl)
 obtain ⟨_,_,_,g2⟩:=wI ht h 2 (by rw [kA];rfl)
 obtain ⟨a,ha⟩:=r0 _ _ _ g0
 obtain ⟨b,hb⟩:=r1 _ _ _ g1
 obtain ⟨c,hc⟩:=r2 _ _ _ g2
 rw [h0] at ha
 rw [h1] at hb
 rw [h2,Bm (by rw [Cv];omega)] at hc
 refine ⟨(a,b,c),?_⟩
 have PB:=hb.app hc
 rw [<- Nd,Gk] at PB
 have:=ha.app PB
 rw [Fx,Gk] at this
 exact this
theorem Bp2{α β γ δ:Type}{t t0 t1 t2 t3 k0 k1 k2 k3:Nat}{fs:Array Field}{F0:α->List DV}{F1:β->List DV}{F2:γ->List DV}{F3:δ->List DV}(ht:P.underlying t=some (.struct fs))(kA:fs.toList.map (λf=>(f.type,f.offset))=[(t0,0),(t1,k0),(t2,k0+k1),(t3,k0+k1+k2)])(h0:P.cellsOf t0=k0)(h1:P.cellsOf t1=k1)(h2:P.cellsOf t2=k2)(h3:P.cellsOf t3=k3)(hC:P.cellsOf t=k0+k1+k2+k3)(r0:Rd enc P W t0 F0)(r1:Rd enc P W t1 F1)(r2:Rd enc P W t2 F2)(r3:Rd enc P W t3 F3):Rd enc P W t (λp:α×β×γ×δ=>F0 p.1++(F1 p.2.1++(F2 p.2.2.1++F3 p.2.2.2))):=λn cs x h=>by
 obtain ⟨hl,_,_,g0⟩:=wI ht h 0 (by rw [kA];rfl)
 obtain ⟨_,_,_,g1⟩:=wI ht h 1 (by rw [kA];rfl)
 obtain ⟨_,_,_,g2⟩:=wI ht h 2 (by rw [kA];rfl)
 obtain ⟨_,_,_,g3⟩:=wI ht h 3 (by rw [kA];rfl)
 obtain ⟨a,ha⟩:=r0 _ _ _ g0
 obtain ⟨b,hb⟩:=r1 _ _ _ g1
 obtain ⟨c,hc⟩:=r2 _ _ _ g2
 obtain ⟨e,he⟩:=r3 _ _ _ g3
 rw [h0] at ha
 rw [h1] at hb
 rw [h2] at hc
 rw [h3,Bm (by rw [Cv];omega)] at he
 refine ⟨(a,b,c,e),?_⟩
 have x1:cs.drop (k0+k1)=(cs.drop k0).drop k1:=by rw [Nd]
 have x2:cs.drop (k0+k1+k2)=(cs.drop (k0+k1)).drop k2:=by rw [Nd]
 have h23:=hc.app he
 rw [x2,Gk] at h23
 have PB:=hb.app h23
 rw [x1,Gk] at PB
 have:=ha.app PB
 rw [Fx,Gk] at this
 exact this
theorem CN{α β:Type}{t:TypeId}{F:α->List DV}{G:β->List DV}(h:Rd enc P W t F)(f:α->β)(hf:∀ a,F a=G (f a)):Rd enc P W t G:=λn cs x hx=>by
 obtain ⟨a,ha⟩:=h n cs x hx
 exact ⟨f a,by rw [<- hf];exact ha⟩
theorem J1{α:Type}{t e ce:Nat}{F:α->List DV}(ht:P.underlying t=some (.slice e))(T5:P.cellsOf e=ce)(Ks:0<ce)(r:Rd enc P W e F):Rd enc P W t (λl:List α=>[.sl (l.flatMap F) l.length]):=λn cs x h=>by
 rcases DataW.trod_slice ht h with ⟨rfl,_⟩ | ⟨a,len,cap,elems,rest,m,_,rfl,_,_,hle,_,hel,Vs,_,_⟩
 .exact ⟨[],.one1 rfl (.sl0 _ _)⟩
 .rw [T5] at Vs
  have key:∀ k,k<=len->∃ (l:List α) (us:List Value),l.length=k/\RC W us (l.flatMap F)/\us.length=k*ce/\∀ (j:Nat) (u:Value),us[j]?=some u->W.cell? (a.add j)=some u:=by
   intro k
   induction k with
   | zero=>intro _;exact ⟨[],[],rfl,RC.nil W,by simp,λj u h=>by simp at h⟩
   | succ k ih=>
    intro hk
    obtain ⟨l,us,h1,h2,h3,h4⟩:=ih (by omega)
    have hg:=Vs k (by omega)
    rw [Aa (by omega)] at hg
    obtain ⟨cs,fD,htr⟩:=Bg.1 hg
    obtain ⟨b,hb⟩:=r _ _ _ htr
    obtain ⟨_,Up,Sw⟩:=World.cells?_some fD
    refine ⟨l ++ [b],us++cs,by simp [h1],?_,by rw [Bp,h3,Up,Gg,Mr],λj u hu=>?_⟩
    .rw [List.flatMap_append]
     have:[b].flatMap F=F b:=by simp
     rw [this]
     exact h2.app hb
    .rcases Cj j us.length with hj | hj
     .rw [Cm hj] at hu
      exact h4 j u hu
     .rw [Ko hj] at hu
      have Fb:j-us.length<cs.length:=(Ar.1 hu).1
      have:=Sw (j-us.length) (by omega)
      rw [add_add,hu] at this
      rw [<- this]
      congr 2
      omega
  obtain ⟨l,us,h1,h2,h3,h4⟩:=key len (Af _)
  refine ⟨l,.one1 rfl ?_⟩
  by_cases h0:len=0
  .subst h0
   obtain rfl:l=[]:=List.length_eq_zero_iff.1 h1
   exact .sl0 _ _
  .rw [h1]
   refine .sl a len cap us _ h2.len hle ?_ h2.one h4 h2.rel
   have Fb:0<us.length:=by rw [h3];exact Nat.mul_pos (by omega) Ks
   have:=fZ (h4 0 _ (Aa Fb))
   rwa [Go.DD.block_add] at this
end
end Go.DD

/- From a contract to a law's statement: a law that answers true and of what was there turns nothing. Conditions: none beyond those that each theorem states. -/
namespace Go.DD
open Go Go.RowKit Go.ChangeShapes
theorem A83{H:Type}{enc:TypeId×Value->H}{P:Program}{f:Func}{s:ChangeSpec}{apart fresh handsOn again:Bool}{W W':World}{args:Array Value}{v:Value}{ds gs:List (DataW H)}{before pa pv:List MemPlace}
  (hW:DataW.Whole enc P f.params.toList s.vars apart W args.toList ds gs before)
  (lQ:∀ (b:Nat) (sp:Nat->Bool) (hd:Bool),DataW.TrodAll enc P W' b sp hd f.resultTypes.toList (v.resultList f.resultTypes.size) (s.fn H (ds++gs)).results [])
  (Fh:∀ sp:Nat->Bool,(∀ p∈before,sp p.block=true)->DataW.TrodAll enc P W' 0 sp true f.params.toList args.toList (s.fn H (ds++gs)).args pa)
  (A3:∀ sp:Nat->Bool,(∀ p∈before,sp p.block=true)->DataW.TrodVars enc P W' sp s.vars (s.fn H (ds++gs)).vars pv)
  (Ht:before=pa++pv) (hk:Below W.heap.size W W')
  (Vl:∀ (j:Nat) (t:TypeId) (r:Value),f.resultTypes[j]?=some t->(v.resultList f.resultTypes.size)[j]?=some r->Value.okWide P W' .any 0 t r) :
  s.post enc P f apart fresh handsOn again W args v W':=by
 have hold:∀ p∈before,(λb=>decide (b<W.heap.size)) p.block=true:=λp hp=>by simpa using hW.lt p hp
 have Fb:=hW.lt
 refine ⟨ds,gs,before,[],pa,pv,hW,lQ _ _ _,Fh _ hold,A3 _ hold,hk.frame _,λ_=>?_⟩
 obtain ⟨_,_,_,_,_,hz,hn⟩:=hW
 refine ⟨Vl,_,_,([]++pa)++pv,⟨[]++pa,pv,trodAll_append (Fh _ (λ_ _=>rfl)) (lQ _ _ _),A3 _ (λ_ _=>rfl),rfl,?_,?_⟩,?_⟩
 .intro b off hp
  have Ap:MemPlace.cell b off∈before:=by rw [Ht];simpa using hp
  rw [hk.frozen (Fb _ Ap)]
  exact hz b off Ap
 .intro ha
  have:=hn ha
  rw [Ht] at this
  simpa using this
 .intro p hp _
  rw [Ht]
  simpa using hp
theorem DCall.law{P:Program}{f:FuncId}{args:List DV}(h:DCall P f args λd=>d=.v (.bool true))(w:World){vs:List Value}(hl:vs.length=args.length)
  (hr:∀ (j:Nat) (v:Value) (d:DV),vs[j]?=some v->args[j]?=some d->RelI w (λb=>b<w.heap.size) v d) (hg:∀ x d,RK x d->RelI w (λb=>b<w.heap.size) x d) :
  Calls P f vs.toArray w λe w'=>e=.returned (.bool true)/\Below w.heap.size w w':=
 (h w (λb=>b<w.heap.size) vs (λ_ h=>h) hl hr hg).mono λ_ _ ⟨v,r,he,hr,hb,hv⟩=>by
  subst hr
  cases hv
  exact ⟨he,hb⟩
end Go.DD

/- What the arguments of chapter 08's statements read as. Conditions: those that each theorem states. -/
namespace Go.DD
open Go Go.Proofs Go.ChangeShapes Go.WideShapes Go.ChangeAt Go.RowKit
theorem jm:ownKnob Tryz.prog.godebug=none:=by kernel_rfl
theorem u2:Tryz.prog.underlying 2=some (.int .i64):=by kernel_rfl
theorem u3:Tryz.prog.underlying 3=some (.int .i64):=by kernel_rfl
theorem u4:Tryz.prog.underlying 4=some .bool:=by kernel_rfl
theorem u9:Tryz.prog.underlying 9=some .string:=by kernel_rfl
theorem u22:Tryz.prog.underlying 22=some (.slice 129):=by kernel_rfl
theorem u23:Tryz.prog.underlying 23=some (.slice 131):=by kernel_rfl
theorem u24:Tryz.prog.underlying 24=some (.slice 39):=by kernel_rfl
theorem u36:Tryz.prog.underlying 36=some (.slice 3):=by kernel_rfl
theorem u37:Tryz.prog.underlying 37=some (.slice 41):=by kernel_rfl
noncomputable def mN(t:Nat):Array Field:=match Tryz.prog.underlying t with
 | some (.struct fs)=>fs
 | _=>#[]
theorem EN:Tryz.prog.underlying 26=some (.struct (mN 26)):=by kernel_rfl
theorem EL:Tryz.prog.underlying 39=some (.struct (mN 39)):=by kernel_rfl
theorem ZS:Tryz.prog.underlying 41=some (.struct (mN 41)):=by kernel_rfl
theorem ZT:Tryz.prog.underlying 129=some (.struct (mN 129)):=by kernel_rfl
theorem EM:Tryz.prog.underlying 131=some (.struct (mN 131)):=by kernel_rfl
section
variable {H:Type} {enc:TypeId×Value->H} {W:World}
set_option maxRecDepth 100000 in
theorem xV:Rd enc Tryz.prog W 41 (λv:PVal=>rVal.cells v):=
 CN (Bp2 (t0:=3) (t1:=2) (t2:=2) (t3:=9) (k0:=1) (k1:=1) (k2:=1) (k3:=1) ZS (by kernel_rfl) (by kernel_rfl) (by kernel_rfl) (by kernel_rfl) (by kernel_rfl) (by kernel_rfl) (I0 u3) (I0 u2) (I0 u2) (B30 u9)) (λp=>⟨p.1,p.2.1,p.2.2.1,p.2.2.2⟩) λ_=>rfl
set_option maxRecDepth 100000 in
theorem GA:Rd enc Tryz.prog W 129 (λv:PDim=>rDim.cells v):=
 CN (A36 (t0:=9) (t1:=3) (t2:=3) (k0:=1) (k1:=1) (k2:=1) ZT (by kernel_rfl) (by kernel_rfl) (by kernel_rfl) (by kernel_rfl) (by kernel_rfl) (B30 u9) (I0 u3) (I0 u3)) (λp=>⟨p.1,p.2.1,p.2.2⟩) λ_=>rfl
set_option maxRecDepth 100000 in
theorem C11:Rd enc Tryz.prog W 131 (λv:PAttr=>rAttr.cells v):=
 CN (At8 (t0:=9) (t1:=3) (k0:=1) (k1:=1) EM (by kernel_rfl) (by kernel_rfl) (by kernel_rfl) (by kernel_rfl) (B30 u9) (I0 u3)) (λp=>⟨p.1,p.2⟩) λ_=>rfl
set_option maxRecDepth 100000 in
theorem C12:Rd enc Tryz.prog W 39 (λv:PCell=>rCell.cells v):=
 CN (At8 (t0:=36) (t1:=37) (k0:=1) (k1:=1) EL (by kernel_rfl) (by kernel_rfl) (by kernel_rfl) (by kernel_rfl) (J1 (ce:=1) u36 (by kernel_rfl) (by decide) (I0 u3)) (J1 (ce:=4) u37 (by kernel_rfl) (by decide) xV)) (λp=>⟨p.1,p.2⟩) λ_=>rfl
def QY(x:PArr):List DV:=[.sl (x.dims.flatMap rDim.cells) x.dims.length,.sl (x.attrs.flatMap rAttr.cells) x.attrs.length,.sl (x.cells.flatMap rCell.cells) x.cells.length]
set_option maxRecDepth 100000 in
theorem GC:Rd enc Tryz.prog W 26 QY:=
 CN (A36 (t0:=22) (t1:=23) (t2:=24) (k0:=1) (k1:=1) (k2:=1) EN (by kernel_rfl) (by kernel_rfl) (by kernel_rfl) (by kernel_rfl) (by kernel_rfl) (J1 (ce:=3) u22 (by kernel_rfl) (by decide) GA) (J1 (ce:=2) u23 (by kernel_rfl) (by decide) C11) (J1 (ce:=2) u24 (by kernel_rfl) (by decide) C12)) (λp=>⟨p.1,p.2.1,p.2.2⟩) λ_=>rfl
set_option maxRecDepth 100000 in
theorem Cr2{base:Nat}{v:Value}{d:DataW H}{p:List MemPlace}(Rn:Value.okWide Tryz.prog W .any base 26 v)(h:DataW.Trod enc Tryz.prog W 0 (λ_=>true) true 26 v d p):∃ x:PArr,RelI W (λb=>b<W.heap.size) v (mP x):=by
 obtain ⟨cs,e,_⟩:=okWide_struct EN Rn
 subst e
 obtain ⟨fuel,hf⟩:=h
 obtain ⟨x,hx⟩:=GC _ _ _ hf
 refine ⟨x,?_⟩
 have this:RelI W (λb=>b<W.heap.size) (.agg cs.toList.toArray) (mP x):=RelI.agg (w:=W) (al:=λb=>b<W.heap.size) cs.toList (QY x) hx.len hx.one hx.rel
 rw [Array.toArray_toList] at this
 exact this
end
end Go.DD

/- VersionApart, the statement: for every input the call returns true and each argument reads afterwards as before. Conditions: none. -/
namespace Go.Proofs.YtnphfnhhpcelbaaGreat.versionApart
open Go.ChangeShapes Go.WideShapes Go.ChangeAt Go.RowKit Go.DD

theorem EK : Tryz.prog.underlying 27 = some (.slice 62) := by kernel_rfl
theorem ZU : Tryz.prog.underlying 62 = some (.struct (mN 62)) := by kernel_rfl
section
variable {H : Type} {enc : TypeId × Value -> H} {W : World}
set_option maxRecDepth 100000 in
theorem GB : Rd enc Tryz.prog W 62 (λv : PCell => rChange.cells v) :=
  CN (At8 (t0 := 36) (t1 := 37) (k0 := 1) (k1 := 1) ZU (by kernel_rfl) (by kernel_rfl) (by kernel_rfl) (by kernel_rfl) (J1 (ce := 1) u36 (by kernel_rfl) (by decide) (I0 u3)) (J1 (ce := 4) u37 (by kernel_rfl) (by decide) xV)) (λp => ⟨p.1, p.2⟩) λ_ => rfl
set_option maxRecDepth 100000 in
/-- An argument that is a list of changes. -/
theorem B31{base : Nat}{v : Value}{d : DataW H}{p : List MemPlace}(Rn : Value.okWide Tryz.prog W .any base 27 v)(h : DataW.Trod enc Tryz.prog W 0 (λ_ => true) true 27 v d p) : ∃ l : List PCell, RelI W (λb => b<W.heap.size) v (Xl l) := by
  obtain ⟨a, n, m, rfl⟩ := okWide_slice EK Rn
  obtain ⟨fuel, hf⟩ := h
  obtain ⟨l, hl⟩ := J1 (ce := 2) EK (by kernel_rfl) (by decide) GB _ _ _ hf
  exact ⟨l, hl.rel 0 _ _ rfl rfl⟩
end
theorem walk(x : PArr)(l m : List PCell){W : World}{v u s : Value}(hx : RelI W (λb => b<W.heap.size) v (mP x))(hy : RelI W (λb => b<W.heap.size) u (Xl l))(hz : RelI W (λb => b<W.heap.size) s (Xl m)) :
    Calls Tryz.prog 6 #[v, u, s] W λe w' => e = .returned (.bool true) /\ Below W.heap.size W w' := by
  refine DCall.law (vs := [v, u, s]) (B29 x l m).2.2 W rfl (λj w d hw hd => ?_) (λx d h => ?_)
  . match j with
    | 0 => cases hw;cases hd;exact hx
    | 1 => cases hw;cases hd;exact hy
    | 2 => cases hw;cases hd;exact hz
    | j + 3 => cases hw
  . obtain ⟨g, cs, h, _⟩ := h
    cases h

set_option maxRecDepth 100000 in
theorem lifted(os : Os)(started : os.Started)(H : Type)(enc : TypeId × Value -> H) :
    ReturnsInHanded {} Tryz.checked os 6 .any (Rows.versionApartSpec.pre6 enc Tryz.prog Tryz.f6 Rows.versionApartRow.domain false) (Rows.versionApartSpec.post enc Tryz.prog Tryz.f6 false true false false) := by
  refine returnsInHanded_of_change (C := Tryz.checked) jm started (by kernel_rfl) Tryz.func6
    (ChangeSpec.witness6 (enc := enc) (C := Tryz.checked) false ⟨#[], #[.agg #[.slice none 0 0, .slice none 0 0, .slice none 0 0], .slice none 0 0, .slice none 0 0], []⟩ 3 (by kernel_rfl) (by kernel_rfl) (by kernel_rfl) (by kernel_rfl)) ?_
  intro W base args ds gs before A4 hW aXg _
  have Rn : ∀ (j : Nat) t v, Tryz.f6.params[j]? = some t -> args[j]? = some v -> Value.okWide Tryz.prog W .any base t v := A4
  have hW' := hW
  have Fb := hW.lt
  obtain ⟨p, q, hA0, hV, rfl, hfz, Um⟩ := hW
  have hA : DataW.TrodAll enc Tryz.prog W 0 (λ_ => true) true Tryz.f6.params.toList args.toList ds p := hA0
  rw [Tryz.params6] at hA Rn
  obtain ⟨v0, v1, v2, d0, d1, d2, p0, p1, p2, rfl, rfl, rfl, h0, h1, h2⟩ := trodAll_three hA
  obtain ⟨rfl, rfl⟩ := trodVars_none hV
  obtain ⟨x, P2⟩ := Cr2 (Rn 0 _ v0 rfl rfl) h0
  obtain ⟨l, hx1⟩ := B31 (Rn 1 _ v1 rfl rfl) h1
  obtain ⟨m, AD⟩ := B31 (Rn 2 _ v2 rfl rfl) h2
  clear hA0 A4
  simp only [Bu, Ce] at hW' Fb
  refine (walk x l m P2 hx1 AD).mono λe W' ⟨he, hg⟩ => ?_
  subst he
  exact ⟨_, rfl, A83 (pa := p0++(p1++p2)) (pv := []) hW' (λ_ _ _ => trodAll_mk1 (shut_bool u4 _))
    (λsp nk => trodAll_mk3 (WideElems.Trod_stays (by kernel_rfl) (by kernel_rfl) (by decide +kernel) h0 (λx hx => hg.same (Fb x (Dw _ hx))) (λx hx => nk x (Dw _ hx))) (WideElems.Trod_stays (by kernel_rfl) (by kernel_rfl) (by decide +kernel) h1 (λx hx => hg.same (Fb x (Dm _ (Dw _ hx)))) (λx hx => nk x (Dm _ (Dw _ hx)))) (WideElems.Trod_stays (by kernel_rfl) (by kernel_rfl) (by decide +kernel) h2 (λx hx => hg.same (Fb x (Dm _ (Dm _ hx)))) (λx hx => nk x (Dm _ (Dm _ hx)))))
    (λ_ _ => rfl) (by simp) hg (ok_one (by kernel_rfl) rfl (okWide_bool_mk u4 _))⟩

theorem o1 : (Rows.versionApartRow.inPlace == Tryz.pinned.checked.prog.inPlace 6) = true := by kernel_rfl
theorem o2 : (Rows.versionApartRow.unfollowed == Tryz.pinned.checked.prog.unfollowed 6) = true := by kernel_rfl
theorem o3 : (Rows.versionApartRow.recurses == Tryz.pinned.checked.prog.recurses 6) = true := by kernel_rfl
theorem o4 : (Rows.versionApartRow.named == Tryz.pinned.checked.prog.varsNamed 6) = true := by kernel_rfl
theorem o5 : joinedFacts Tryz.pinned.checked.prog 6 Tryz.f6 Rows.versionApartSpec Rows.versionApartRow = true := by
  unfold joinedFacts
  rw [o1, o2, o3, o4]
  kernel_rfl
theorem over : Rows.versionApartRow.holds Tryz.pinned (OpenSpec.ofChange Rows.versionApartSpec) :=
  OpenClaim.holds_of_wide 6 Tryz.f6 rfl rfl rfl rfl rfl rfl rfl ⟨rfl, rfl, rfl, rfl, rfl⟩ rfl rfl rfl rfl rfl (by kernel_rfl) Tryz.func6 o5
    (Fw (by kernel_rfl)) (by unfold Func.isWrapper;first | (rw [Ah (by decide +kernel)];kernel_rfl) | (rw [Ae (by decide +kernel)];exact ⟨rfl, rfl⟩))
    (λos started H enc _ => lifted os started H enc)

/-- The statement. -/
theorem proved : Rows.VersionApartSaid :=
  over
#print axioms proved
end Go.Proofs.YtnphfnhhpcelbaaGreat.versionApart
