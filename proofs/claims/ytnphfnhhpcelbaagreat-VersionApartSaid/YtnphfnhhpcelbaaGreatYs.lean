/- A part. -/
import Derived.Test.YtnphfnhhpcelbaaGreatYr
import Derived.Test.YtnphfnhhpcelbaaGreatYj
import Derived.Test.YtnphfnhhpcelbaaGreatYm
set_option linter.unusedSectionVars false
set_option linter.unusedVariables false
namespace Go.DD
open Go Go.Proofs Go.Sort
theorem B94{x y:PArr}(hx:Ff x=0)(hy:Ff y=0):Fz (Tb (Gc [x.cells,y.cells])) x.cells=y.cells:=by
 have hA:=(Rg hx).1
 have hB:=(Rg hy).1
 obtain ⟨d1,d2⟩:=B12 hA hB
 refine A77 (YU d1 hA) hB λe=>?_
 rw [BO d1 hA e]
 constructor
 .rintro (⟨h1,h2⟩ | ⟨h1,h2⟩)
  .have hs:Kv x.cells e.pos=Kv y.cells e.pos:=Decidable.byContradiction λHu=>h2 ⟨e.pos,Kv y.cells e.pos⟩ ((d2 _).2 ⟨⟨e,.inl h1,rfl⟩,Hu,rfl⟩) rfl
   rw [mX hA h1] at hs
   have:=YH (A:=y.cells) (p:=e.pos) (by rw [<- hs];exact nY hx e h1)
   rw [<- hs] at this
   exact this
  .obtain ⟨_,_,h3⟩:=(d2 e).1 h1
   have:=YH (A:=y.cells) (p:=e.pos) (by rw [<- h3];exact h2)
   rw [<- h3] at this
   exact this
 .intro h
  have hs:=mX hB h
  have hv:=nY hy e h
  by_cases c:Kv x.cells e.pos=Kv y.cells e.pos
  .refine .inl ⟨?_,λc' Jd he=>?_⟩
   .have:=YH (A:=x.cells) (p:=e.pos) (by rw [c,hs];exact hv)
    rw [c,hs] at this
    exact this
   .obtain ⟨_,h3,_⟩:=(d2 c').1 Jd
    rw [he] at h3
    exact h3 c
  .exact .inr ⟨(d2 e).2 ⟨⟨e,.inr h,rfl⟩,c,hs.symm⟩,hv⟩
end Go.DD

/- VersionDeltas returns true: as a contract. Conditions: none. -/
namespace Go.DD
open Go Go.Proofs
def mP(x:PArr):DV:=.agg [.sl (x.dims.flatMap rDim.cells) x.dims.length,.sl (x.attrs.flatMap rAttr.cells) x.attrs.length,.sl (x.cells.flatMap rCell.cells) x.cells.length]
theorem B14{x:PArr}{Jj:Nat}(h:Xj x Jj=true):x.cells.length<=Jj:=by
 unfold Xj rL at h
 simp only [Bq,Iq] at h
 exact h.2.1
end Go.DD

/- VersionBack returns true: as a contract. Conditions: none. -/
namespace Go.DD
open Go Go.Proofs Go.Sort
theorem Qf{hp:Tr DObj}{p:Nat->Prop}{x1 x2 x3:DV}{X:PArr}{e:Int}(v1:RL rDim hp p x1 X.dims)(v2:RL rAttr hp p x2 X.attrs)(v3:RL rCell hp p x3 X.cells):Fg hp (.tup [.agg [x1,x2,x3],iv e]) 0=some (.agg [x1,x2,x3]):=tG λid hid=>by
 have:id∈x1.refs\/id∈x2.refs\/id∈x3.refs:=by simpa [DV.refs,DV.refsL,iv] using hid
 rcases this with h1 | h1 | h1
 .exact (v1.refs id h1).2
 .exact (v2.refs id h1).2
 .exact (v3.refs id h1).2
theorem AR.fwd{hp Ap:Tr DObj}{n n':Nat}{D:DV}{X:PArr}(h:AR hp (Bl n) D X)(ha:Al hp n Ap n'):AR Ap (Bl n') D X:=by
 obtain ⟨a,b,c,rfl,h1,h2,h3⟩:=h
 exact ⟨a,b,c,rfl,(h1.ka (Af _) ha).bl ha.le,(h2.ka (Af _) ha).bl ha.le,(h3.ka (Af _) ha).bl ha.le⟩
end Go.DD

/- Contracts: the reference's change and Changes. Conditions: those that each theorem states. -/
namespace Go.DD
open Go Go.Proofs Go.Sort
section
variable (k n0:Nat) (hp:Tr DObj) (nx:Nat) (K:DV->Tr DObj->Nat->Prop)
end
end Go.DD

/- Contracts: the reference's Changes. Conditions: those that each theorem states. -/
namespace Go.DD
open Go Go.Proofs Go.Sort
section
variable (k n0:Nat)
end
end Go.DD

/- Contracts: the reference's Put of a cell at a new place. Conditions: those that each theorem states. -/
namespace Go.DD
open Go Go.Proofs Go.Sort
section
variable (k:Nat) (hp:Tr DObj) (nx:Nat) (K:DV->Tr DObj->Nat->Prop)
end
end Go.DD

/- Contracts: the reference's With. Conditions: those that each theorem states. -/
namespace Go.DD
open Go Go.Proofs Go.Sort
end Go.DD

/- Contracts: the reference's With. Conditions: those that each theorem states. -/
namespace Go.DD
open Go Go.Proofs Go.Sort
section
variable (k:Nat) (hp:Tr DObj) (nx:Nat) (K:DV->Tr DObj->Nat->Prop)
end
end Go.DD

/- Plain: the changes made one after the other are the changes laid over. -/
namespace Go.DD
open Go Go.Proofs Go.Sort
end Go.DD

/- Contracts: the reference's Copy. Conditions: those that each theorem states. -/
namespace Go.DD
open Go Go.Proofs
section
variable (k n0:Nat) (hp:Tr DObj) (nx:Nat) (K:DV->Tr DObj->Nat->Prop)
end
end Go.DD

/- Contracts: the reference's Apply. Conditions: those that each theorem states. -/
namespace Go.DD
open Go Go.Proofs Go.Sort
section
variable (k n0:Nat) (hp:Tr DObj) (nx:Nat) (K:DV->Tr DObj->Nat->Prop)
end
end Go.DD

/- Contracts: which changes are few. Conditions: those that each theorem states. -/
namespace Go.DD
open Go Go.Proofs
def mO(l:List PCell)(Jj:Nat):Bool:=decide (l.length<=Jj)&&l.all λc=>Xj ⟨[],[],[c]⟩ 1
theorem B15{l:List PCell}{Jj:Nat}(h:mO l Jj=true):l.length<=Jj/\∀ c∈l,c.pos.length<900000/\c.vals.length<900000/\∀ v∈c.vals,Wn v:=by
 unfold mO at h
 rw [Bq,Ay] at h
 exact ⟨Fw h.1,λc hc=>(Bv8 (h.2 c hc) (by omega)).e c (by simp)⟩
section
variable (k n0:Nat) (hp:Tr DObj) (nx:Nat) (K:DV->Tr DObj->Nat->Prop)
theorem B16(ls:DV)(l:List PCell)(Jj:Nat)(hn:n0<=nx)(hL:RL rChange hp (Bl n0) ls l)(hm:Jj<900000)(hK:∀ Ap Ba,Al hp nx Ap Ba->K (bv (mO l Jj)) Ap Ba):KW (kN (k+4)) (.fn 14) [ls,iv (Jj:Nat)] hp nx K:=by
 refine Ds (Gb (by decide)) t14 (Ab rfl) λes e1 e2 he=>?_
 have a0:Ac es (.t .o)=ls:=he 0 _ rfl
 have a1:Ac es (.t (.l .o))=iv (Jj:Nat):=he 1 _ rfl
 unfold r14
 subst e1 e2
 unfold mO at hK
 by_cases c0:Jj<l.length
 .rw [Ad (by omega),Bool.false_and] at hK
  simp only [Am,↓An,bP,a0,a1,hL.len,c0]
  exact hK _ _ (Al.refl _ _)
 rw [Ai (by omega),Kb] at hK
 simp only [Am,↓An,a0,a1,hL.len,c0]
 refine EW.up l.length (λi es1=>Al es.hp es.nx es1.hp es1.nx/\Ac es1 (.t .o)=ls/\Ac es1 (.t (.l (.r .o)))=iv (i:Nat)/\(l.take i).all (λc=>Xj ⟨[],[],[c]⟩ 1)=true) ?_ ?_ (by omega)
 .rintro i es1 hi ⟨g,b0,b5,hc⟩
  unfold zQ
  have hle:=g.le
  have r:=hL.ka hn g
  have Hu:n0<=es1.nx:=by omega
  by_cases h:i<l.length
  .obtain ⟨p,v,rp,rv,_,lp,lv⟩:=wC r h
   simp only [Am,↓An,bP,b0,b5,h,r.len,Uy r h,CS (k:=0) r h,CS (k:=1) r h,lp,lv,r.rox (m:=15) Hu,ZA (m:=15) r Hu,YZ (m:=15) r Hu,rp.rox (m:=15) Hu,rv.rox (m:=15) Hu,X9,rp.live,rv.live,CT (z:=.slice none 0 0) (w:=.slice none 0 0) rp.ok rv.ok,Cb]
   refine ⟨Ci (rp.rox Hu) (rv.rox Hu),?_⟩
   refine SG (fl:=[p,v]) rfl (by simp only [Ao,Aq,Dh,bR,bP,Kl rp rv];exact zk (z:=[.slice none 0 0,.slice none 0 0]) rfl) λJg Pn Mm=>?_
   simp only [bR] at Pn Mm
   have FQ:=rp.keep (Ap:=Jg) λj (hj:j<n0)=>Mm j (by omega)
   have FO:=rv.keep (Ap:=Jg) λj (hj:j<n0)=>Mm j (by omega)
   have rC:RL rCell Jg (Bl (es1.nx+15)) (.ms (es1.nx+11) 0 1 2) [l[i]]:=.ms (R:=rCell) _ 0 [p,v] [l[i]] Pn (by show es1.nx+11<es1.nx+15;omega) (by simp;decide) (by rw [Fx];exact Rows.one (rCell_rd.2 ⟨p,v,rfl,FQ.mono λj (hj:j<n0)=>by show j<es1.nx+15;omega,FO.mono λj (hj:j<n0)=>by show j<es1.nx+15;omega⟩)) λc hc=>by
    simp only [Ak,Ax,or_false] at hc
    rcases hc with rfl | rfl
    .exact FQ.same (by decide)
    .exact FO.same (by decide)
   have sT:Hi [DV.v (.slice none 0 0),DV.v (.slice none 0 0),DV.v (.slice none 0 0)] [(2,1,.ms (es1.nx+11) 0 1 2)]=some [DV.v (.slice none 0 0),DV.v (.slice none 0 0),.ms (es1.nx+11) 0 1 2]:=rfl
   simp only [Am,↓An,bP,X9,eK Pn,sT,Cb]
   have roM:∀ an,11∈an->Ib (.agg [.v (.slice none 0 0),.v (.slice none 0 0),.ms (es1.nx+11) 0 1 2]) (λid=>Cp es1.nx 15 an Jg id):=λan Kc id hid=>by
    have:id=es1.nx+11:=by simpa [DV.refs,DV.refsL] using hid
    subst this
    exact lJ Pn (by simpa using Kc)
   refine ⟨lJ Pn rfl,roM _ (by simp),?_⟩
   refine Ge rfl (Tf ?_)
   simp only [bR,Ao,Aq]
   refine Cf9 k _ _ _ _ ⟨[],[],[l[i]]⟩ 1 (es1.nx+15) (Af _) ⟨_,_,_,rfl,.nil,.nil,rC⟩ (by decide) λDu Fm Cw=>?_
   have Fp:=Cw.le
   have g5:Al es.hp es.nx Du Fm:=⟨by omega,λj hj=>by rw [Cw.same j (by omega),Mm j (by omega),g.same j hj]⟩
   cases c4:Xj ⟨[],[],[l[i]]⟩ 1 with
   | false=>
    rw [eH (f:=λc=>Xj ⟨[],[],[c]⟩ 1) h c4] at hK
    simp only [Am,↓An,bP,Fp]
    exact hK _ _ g5
   | true=>
    simp only [Am,↓An,b0,b5,h,Fp,Hn (show i<_ by omega)]
    exact ⟨g5,by rw [eG h,hc,c4];rfl⟩
  .rw [Bm (by omega)] at hc
   rw [hc] at hK
   simp only [Am,↓An,bP,b0,b5,h,r.len]
   exact hK _ _ g
 .simp only [Am,a0]
  rfl
end
end Go.DD

/- The tree of versions: what it reads as. Conditions: those that each theorem states. -/
namespace Go.DD
open Go Go.Proofs Go.Sort
structure PNode where
 chg:List PCell
 par:List Int
 gone:Bool
 deriving Inhabited
def GF:Rep Bool:=bK 1 4 (λb=>[bv b]) (by decide) (λ_=>rfl) λx c h=>by
 obtain rfl:=Bk.1 h
 exact II x
def fq:Rep (List PCell):=Qx rChange 27
def rNode:Rep PNode:=jM (jM fq oJ 0 PNode.chg PNode.par) GF 136 id PNode.gone
theorem rNode_rd{hp:Tr DObj}{p:Nat->Prop}{ds:List DV}{x:PNode} : rNode.rd hp p ds x↔∃ a b,ds=[a,b,bv x.gone]/\RL rChange hp p a x.chg/\RL rInt hp p b x.par:=by
 constructor
 .rintro ⟨_,_,rfl,⟨_,_,rfl,⟨a,rfl,h1⟩,⟨b,rfl,h2⟩⟩,rfl⟩
  exact ⟨a,b,rfl,h1,h2⟩
 .rintro ⟨a,b,rfl,h1,h2⟩
  exact ⟨_,_,rfl,⟨_,_,rfl,⟨a,rfl,h1⟩,⟨b,rfl,h2⟩⟩,rfl⟩
section
variable {hp Ap:Tr DObj} {p:Nat->Prop} {d:DV}
theorem Bm2{l:List PNode}(h:RL rNode hp p d l){i:Nat}(hi:i<l.length):∃ a b,RL rChange hp p a l[i].chg/\RL rInt hp p b l[i].par/\Hk hp (some 3) (Cf 3 d i)=some (.agg [a,b,bv l[i].gone])/\Hk hp none (Cf 3 d i)=some a/\Hk hp none (It (Cf 3 d i) 0)=some a/\Hk hp none (It (Cf 3 d i) 1)=some b/\Hk hp none (It (Cf 3 d i) 2)=some (bv l[i].gone):=by
 obtain ⟨ds,hr,h1,h0,h2⟩:=h.at hi
 obtain ⟨a,b,rfl,h3,h4⟩:=rNode_rd.1 hr
 exact ⟨a,b,h3,h4,h1,h0 _ rfl,h2 0 _ rfl,h2 1 _ rfl,h2 2 _ rfl⟩
theorem vT{id k:Nat}{o:DObj}(h:hp.get id=some o):Ow hp k (.pt id 0)=some (.pt id k):=by
 rw [Pp h,Er]
structure PVer where
 cells:List PCell
 par:List Int
 deriving Inhabited
structure PTree where
 dims:List PDim
 attrs:List PAttr
 vers:List PVer
 heads:List (ByteArray×Int)
def PTree.at(S:PTree)(v:Nat):List PCell:=match v with
 | 0=>[]
 | v+1=>match S.vers[v]? with
  | some x=>x.cells
  | none=>[]
def Nf(x:PVer):Nat:=(x.par.headD 0).toNat
def PTree.node(S:PTree)(x:PVer):PNode:=⟨Tb (Gc [S.at (Nf x),x.cells]),x.par,false⟩
structure PTree.OK (S:PTree):Prop where
 c:∀ x∈S.vers,Ff ⟨S.dims,S.attrs,x.cells⟩=0/\AOK ⟨S.dims,S.attrs,x.cells⟩/\x.cells.length<=60
 z:Ff ⟨S.dims,S.attrs,[]⟩=0/\AOK ⟨S.dims,S.attrs,[]⟩
 p:∀ i,(h:i<S.vers.length)->∀ q∈S.vers[i].par,1<=q/\q<=(i:Nat)
 n:S.vers.length<60
 l:∀ x∈S.vers,x.par.length<10
 h:∀ x∈S.heads,1<=x.2/\x.2<=(S.vers.length:Nat)
structure TreeAt (hp:Tr DObj) (nx T H:Nat) (nd:DV) (S:PTree):Prop where
 th:T≠H/\T<nx/\H<nx
 r:∃ d a z,hp.get T=some (.row 140 [d,a,z,nd,.mp H])/\RL rDim hp (λj=>j<nx/\j≠T/\j≠H/\j∉nd.refs) d S.dims/\RL rAttr hp (λj=>j<nx/\j≠T/\j≠H/\j∉nd.refs) a S.attrs/\RL rCell hp (λj=>j<nx/\j≠T/\j≠H/\j∉nd.refs) z []
 m:∃ ck es,hp.get H=some (.mapo ck es)/\es.map (λe=>(e.k,e.v))=S.heads.map λx=>(Value.string x.1,iv x.2)
 n:OL rNode hp (λj=>j<nx/\j≠T/\j≠H/\j∉nd.refs) nd (S.vers.map S.node)
 nr:∀ j∈nd.refs,j<nx/\j≠T/\j≠H
 ok:S.OK
theorem TreeAt.keep{nx Ba T H:Nat}{nd:DV}{S:PTree}(h:TreeAt hp nx T H nd S)(a:Al hp nx Ap Ba):TreeAt Ap Ba T H nd S:=by
 have hle:=a.le
 obtain ⟨d,aa,z,h1,h2,h3,h4⟩:=h.r
 obtain ⟨ck,es,g1,g2⟩:=h.m
 have up:∀ j,(j<nx/\j≠T/\j≠H/\j∉nd.refs)->(j<Ba/\j≠T/\j≠H/\j∉nd.refs):=λj hj=>⟨by omega,hj.2⟩
 have kp:∀ j,(j<nx/\j≠T/\j≠H/\j∉nd.refs)->Ap.get j=hp.get j:=λj hj=>a.same j hj.1
 exact ⟨⟨h.th.1,by have:=h.th.2.1;omega,by have:=h.th.2.2;omega⟩,⟨d,aa,z,(a.same _ h.th.2.1).trans h1,(h2.keep kp).mono up,(h3.keep kp).mono up,(h4.keep kp).mono up⟩,⟨ck,es,(a.same _ h.th.2.2).trans g1,g2⟩,(h.n.keep λj hj=>hj.elim (kp j) λhj=>a.same j (h.nr j hj).1).mono up,λj hj=>⟨by have:=(h.nr j hj).1;omega,(h.nr j hj).2⟩,h.ok⟩
end
end Go.DD

/- What can be written in an own array's cells. Conditions: those that each theorem states. -/
namespace Go.DD
open Go Go.Proofs
section
variable {hp Ap:Tr DObj} {p:Nat->Prop} {d:DV} {n:Nat}
theorem KJ{id off n e i:Nat}{o:DObj}(h:hp.get id=some o)(hi:i<n):Ms hp e (.ms id off n e) (.v (.int .i64 (i:Int)))=some (.pt id (off+i*e)):=by
 show (if fH hp id=true/\0<=(i:Int)/\(i:Int)<(n:Int) then some (DV.pt id (off+(i:Int).toNat*e)) else none)=_
 rw [Ah ⟨by unfold fH;rw [h];rfl,by omega,by omega⟩];rfl
theorem Qz{id off T:Nat}{fl:List DV}{c:DV}(h:hp.get id=some (.row T fl))(hc:fl[off]?=some c):Hk hp none (.pt id off)=some c:=by rw [Nt h];exact A62 hc
end
end Go.DD
