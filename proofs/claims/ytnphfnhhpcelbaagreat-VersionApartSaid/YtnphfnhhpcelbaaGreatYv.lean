/- A part. -/
import Derived.Test.YtnphfnhhpcelbaaGreatYs
import Derived.Test.YtnphfnhhpcelbaaGreatYu
import Derived.Test.YtnphfnhhpcelbaaGreatYr
import Derived.Test.YtnphfnhhpcelbaaGreatYm
namespace Go.DD
open Go Go.Proofs Go.Sort
theorem Bm3:isNil 1 (aC (.pointer none))=some true:=rfl
theorem B95:isNil 2 (aC (.map none))=some true:=rfl
theorem Bm4{α:Type}{R:Rep α}{hp:Tr DObj}{p:Nat->Prop}{d:DV}{l:List α}(h:RL R hp p d l)(e i:Nat):Ch hp (Cf e d i)=Cf e d i:=Wh λid hid=>(h.refs id (wK e d i id hid)).2
section
variable {hp:Tr DObj} {nx T H:Nat} {nd:DV} {S:PTree}
theorem TreeAt.ld(h:TreeAt hp nx T H nd S):∃ d a z,hp.get T=some (.row 140 [d,a,z,nd,.mp H])/\(Ow hp 0 (.pt T 0)=some (.pt T 0)/\Ow hp 3 (.pt T 0)=some (.pt T 3)/\Ow hp 4 (.pt T 0)=some (.pt T 4)/\Ow hp 1 (.pt T 0)=some (.pt T 1))/\(Hk hp none (.pt T 0)=some d/\Hk hp none (.pt T 1)=some a/\Hk hp none (.pt T 3)=some nd/\Hk hp none (.pt T 4)=some (.mp H))/\RL rDim hp (λj=>j<nx/\j≠T/\j≠H/\j∉nd.refs) d S.dims/\RL rAttr hp (λj=>j<nx/\j≠T/\j≠H/\j∉nd.refs) a S.attrs:=by
 obtain ⟨d,a,z,h1,h2,h3,_⟩:=h.r
 exact ⟨d,a,z,h1,⟨vT h1,vT h1,vT h1,vT h1⟩,⟨Qz h1 rfl,Qz h1 rfl,Qz h1 rfl,Qz h1 rfl⟩,h2,h3⟩
theorem TreeAt.nl(h:TreeAt hp nx T H nd S):RL rNode hp (λj=>j<nx/\j≠T/\j≠H) nd (S.vers.map S.node):=h.n.rl.mono λj hj=>hj.elim (λh=>⟨h.1,h.2.1,h.2.2.1⟩) λhj=>h.nr j hj
variable (k:Nat) (K:DV->Tr DObj->Nat->Prop)
theorem bS(h:TreeAt hp nx T H nd S)(hK:K (bv true) hp nx):KW (kN (k+1)) (.fn 82) [.pt T 0] hp nx K:=by
 refine Ds (Gb (by decide)) t82 (Ab rfl) λes e1 e2 he=>?_
 have a0:Ac es (.t .o)=.pt T 0:=he 0 _ rfl
 unfold r82
 subst e1 e2
 obtain ⟨d,a,z,hT,⟨_,_,f4,_⟩,⟨_,_,_,l4⟩,_⟩:=h.ld
 obtain ⟨ck,vV,hH,_⟩:=h.m
 simp only [Am,↓An,a0]
 refine fM false (by simp only [Dh,bR,bP,Qv hT];rfl) Bm3 ?_
 simp only [Am,↓An,bP,a0,↓fI,Qv hT,Zs,f4,l4]
 refine fM false (by simp only [Dh,bR,bP,tH hH];rfl) B95 ?_
 simp only [Am,↓An,bP]
 exact hK
theorem RN(v:Nat)(h:TreeAt hp nx T H nd S)(hv:1<=v/\v<=S.vers.length)(hK:K (Cf 3 nd (v-1)) hp nx):KW (kN (k+1)) (.fn 99) [.pt T 0,iv (v:Nat)] hp nx K:=by
 refine Ds (Gb (by decide)) t99 (Ab rfl) λes e1 e2 he=>?_
 have a0:Ac es (.t .o)=.pt T 0:=he 0 _ rfl
 have a1:Ac es (.t (.l .o))=iv (v:Nat):=he 1 _ rfl
 unfold r99
 subst e1 e2
 obtain ⟨d,a,z,hT,⟨_,f3,_,_⟩,⟨_,_,l3,_⟩,_⟩:=h.ld
 have r:=h.nl
 have hn:=h.ok.n
 have Fb:v-1<(S.vers.map S.node).length:=by rw [Dd];omega
 have jZ:Ms es.hp 3 nd (.v (.int .i64 ((v-1:Nat):Int)))=some (Cf 3 nd (v-1)):=r.ia Fb
 simp only [Am,↓An,bP,a0,a1,↓fI,Qv hT,Zs,f3,l3,Xn v (by omega) (by omega),jZ,Bm4 r 3 _]
 exact hK
end
end Go.DD

/- Contracts: a version's support, its cells. Conditions: those that each theorem states. -/
namespace Go.DD
open Go Go.Proofs Go.Sort
theorem Bm5{hp:Tr DObj}{p:Nat->Prop}{d:DV}{l:List Int}(h:RL rInt hp p d l)(hi:0<l.length):Ms hp 1 d (.v (.int .i64 0))=some (Cf 1 d 0):=h.ia hi
theorem B96{hp:Tr DObj}{p:Nat->Prop}{d:DV}{l:List PNode}(h:RL rNode hp p d l){i:Nat}(hi:i<l.length):Ms hp 3 d (.v (.int .i64 (i:Int)))=some (Cf 3 d i):=h.ia hi
theorem A78{hp:Tr DObj}{p:Nat->Prop}{d:DV}{l:List PNode}{k:Nat}(h:RL rNode hp p d l){i:Nat}(hi:i<l.length):Ow hp k (Cf 3 d i)=some (It (Cf 3 d i) k):=h.fa hi
theorem Cz9{hp:Tr DObj}{p:Nat->Prop}{d:DV}{l:List PNode}(h:OL rNode hp p d l)(hl:l≠[])(i:Nat):fX (Cf 3 d i)=some (Cf 3 d i):=by
 cases h with
 | nil=>exact absurd rfl hl
 | ms=>rfl
def Rc(n:Nat)(hp:Tr DObj)(ps:List Past):Prop:=∀ q∈ps,(∀ j,j<n->q.a.get j=hp.get j)/\∀ j,j<n->q.b.get j=hp.get j
theorem XC{n:Nat}{hp:Tr DObj} : Rc n hp []:=λq hq=>by cases hq
theorem nO{n q:Nat}{an:List Nat}{hp a b:Tr DObj}{ps:List Past}(ha:∀ j,j<n->a.get j=hp.get j)(hb:∀ j,j<n->b.get j=hp.get j)(h:Rc n hp ps):Rc n hp (⟨q,an,a,b⟩::ps):=λx hx=>by
 rcases Ak.1 hx with rfl | hx
 .exact ⟨ha,hb⟩
 .exact h x hx
theorem YT{hp:Tr DObj}{n m i:Nat}{an refs lo:List Nat}{ws:List Look}{ps:List Past}(hP:Rc n hp ps)(hr:∀ j∈refs,j<n)(h2:Oj n m ws ps=true):Oj n m (Gj i an true false refs n lo ws) ps=true:=nT (λj hj=>⟨hr j hj,λq hq=>.inr (.inr (by rw [Ae (by simp)];simp [tD,((hP q hq).2 j (hr j hj)).trans ((hP q hq).1 j (hr j hj)).symm]))⟩) h2
theorem B17{α:Type}{R:Rep α}{hp:Tr DObj}{p:Nat->Prop}{d:DV}{l:List α}{n m i:Nat}{an refs lo:List Nat}{c:Bool}{ws:List Look}{ps:List Past}(hP:Rc n hp ps)(h:RL R hp p d l)(eR:∀ j,p j->j<n)(hr:∀ j∈refs,j∈d.refs)(h2:Oj n m ws ps=true):Oj n m (Gj i an true c refs n lo ws) ps=true:=DA h eR (λq hq=>⟨λj hj=>(hP q hq).1 j (eR j hj),λj hj=>(hP q hq).2 j (eR j hj)⟩) hr h2
theorem Cj0{T n:Nat}(h:T<n):∀ j∈(DV.pt T 0).refs,j<n:=λj hj=>by
 have:j=T:=by simpa [DV.refs] using hj
 omega
theorem I1{α:Type}{R:Rep α}{hp:Tr DObj}{p:Nat->Prop}{d:DV}{l:List α}{n0 m:Nat}{an:List Nat}(h:RL R hp p d l)(ho:∀ j∈d.refs,n0+m<=j):Ib d (λid=>Cp n0 m an hp id)↔True:=Bj λj hj=>(tJ hp j).2 ⟨(h.refs j hj).2,.inr (.inl (ho j hj))⟩
theorem B18{hp:Tr DObj}{p:Nat->Prop}{d:DV}{l:List PNode}{n0 m i:Nat}{an:List Nat}(h:RL rNode hp p d l)(ho:∀ j,p j->j<n0):Ib (Cf 3 d i) (λid=>Cp n0 m an hp id)↔True:=Bj (h.roa ho)
theorem B97{hp:Tr DObj}{p:Nat->Prop}{d:DV}{l:List Int}{n0 m i:Nat}{an:List Nat}(h:RL rInt hp p d l)(ho:∀ j,p j->j<n0):Ib (Cf 1 d i) (λid=>Cp n0 m an hp id)↔True:=Bj (h.roa ho)
theorem B19{hp:Tr DObj}{p:Nat->Prop}{d:DV}{l:List PNode}{n0 m i k:Nat}{an:List Nat}(h:RL rNode hp p d l)(ho:∀ j,p j->j<n0):Ib (It (Cf 3 d i) k) (λid=>Cp n0 m an hp id)↔True:=Bj (h.rof ho)
theorem J2{α:Type}{R:Rep α}{hp:Tr DObj}{p:Nat->Prop}{d:DV}{l:List α}{n0 m:Nat}{an:List Nat}(h:RL R hp p d l)(ho:∀ j,p j->j<n0):Ib d (λid=>Cp n0 m an hp id)↔True:=Bj (h.ro ho)
section
variable {hp:Tr DObj} {nx T H:Nat} {nd:DV} {S:PTree}
theorem TreeAt.ver(h:TreeAt hp nx T H nd S){v:Nat}(hv:1<=v/\v<=S.vers.length):∃ (Fb:v-1<S.vers.length) (a b:DV),(S.vers.map S.node)[v-1]?=some (S.node S.vers[v-1])/\RL rChange hp (λj=>j<nx/\j≠T/\j≠H) a (Tb (Gc [S.at (Nf S.vers[v-1]),S.vers[v-1].cells]))/\RL rInt hp (λj=>j<nx/\j≠T/\j≠H) b S.vers[v-1].par/\(Ch hp (Cf 3 nd (v-1))=Cf 3 nd (v-1)/\fX (Cf 3 nd (v-1))=some (Cf 3 nd (v-1)))/\(Ow hp 0 (Cf 3 nd (v-1))=some (It (Cf 3 nd (v-1)) 0)/\Ow hp 1 (Cf 3 nd (v-1))=some (It (Cf 3 nd (v-1)) 1)/\Ow hp 2 (Cf 3 nd (v-1))=some (It (Cf 3 nd (v-1)) 2))/\Hk hp none (It (Cf 3 nd (v-1)) 0)=some a/\Hk hp none (It (Cf 3 nd (v-1)) 1)=some b/\Hk hp none (It (Cf 3 nd (v-1)) 2)=some (bv false):=by
 have r:=h.nl
 have h0:v-1<S.vers.length:=by omega
 have Fb:v-1<(S.vers.map S.node).length:=by rw [Dd];exact h0
 obtain ⟨a,b,ra,rb,_,_,l0,l1,l2⟩:=Bm2 r Fb
 have e:(S.vers.map S.node)[v-1]=S.node S.vers[v-1]:=List.getElem_map ..
 rw [e] at ra rb l2
 refine ⟨h0,a,b,by rw [Df,Aa h0];rfl,ra,rb,⟨Bm4 r 3 _,Cz9 h.n (λe=>by rw [e] at Fb;cases Fb) _⟩,⟨A78 r Fb,A78 r Fb,A78 r Fb⟩,l0,l1,l2⟩
variable (k:Nat) (K:DV->Tr DObj->Nat->Prop)
theorem Bp0(v:Nat)(h:TreeAt hp nx T H nd S)(hv:1<=v/\v<=S.vers.length)(hK:∀ u,S.vers[v-1]?=some u->K (iv (Nf u:Nat)) hp nx):KW (kN (k+2)) (.fn 98) [.pt T 0,iv (v:Nat)] hp nx K:=by
 refine Ds (Gb (by decide)) t98 (Ab rfl) λes e1 e2 he=>?_
 have a0:Ac es (.t .o)=.pt T 0:=he 0 _ rfl
 have a1:Ac es (.t (.l .o))=iv (v:Nat):=he 1 _ rfl
 unfold r98
 subst e1 e2
 obtain ⟨h0,a,b,_,_,rb,⟨lv,nc⟩,⟨_,f1,_⟩,_,l1,_⟩:=h.ver hv
 have hK:=hK _ (Aa h0)
 simp only [Am,↓An,a0,a1]
 refine Dt (RN k _ v h hv ?_)
 simp only [Am,↓An,bP,↓fI,lv,nc,f1,l1]
 refine EW.up 1 (λi es1=>i=0/\es1.hp=es.hp/\es1.nx=es.nx/\Ac es1 (.t .o)=.pt T 0/\Ac es1 (.t (.l (.r .o)))=b) ?_ ?_ (by omega)
 .rintro i es1 hi ⟨rfl,g1,g2,b0,b5⟩
  unfold yV
  have h1:TreeAt es1.hp es1.nx T H nd S:=by rw [g1,g2];exact h
  rw [<- g1,<- g2] at hK
  rw [<- g1] at rb
  cases Tt:S.vers[v-1].par with
  | nil=>
   have e0:Nf S.vers[v-1]=0:=by unfold Nf;rw [Tt];rfl
   rw [e0] at hK
   rw [Tt] at rb
   simp only [Am,↓An,bP,b5,rb.len,Md,show decide ((0:Int)<0)=false from rfl]
   exact hK
  | cons q ps=>
   have hq:=h.ok.p (v-1) h0 q (by rw [Tt];simp)
   obtain ⟨n,rfl⟩:=Vg (show 0<=q by omega)
   have e0:Nf S.vers[v-1]=n:=by unfold Nf;rw [Tt];rfl
   rw [e0] at hK
   rw [Tt] at rb
   obtain ⟨h0',a',b',_,_,_,⟨lv',nc'⟩,⟨_,_,f2'⟩,_,_,kn⟩:=h1.ver (v:=n) ⟨by omega,by omega⟩
   have hlen:(0:Nat)<((n:Int)::ps).length:=by simp
   have li:=ints_at rb hlen
   have ia:=Bm5 rb hlen
   simp only [Am,↓An,b0,b5,rb.len,show decide ((0:Int)<((((n:Int)::ps).length:Nat):Int))=true from Ai (by omega),ia,li,Jo]
   refine Dt (RN k _ n h1 ⟨by omega,by omega⟩ ?_)
   simp only [Am,↓An,bP,b5,↓fI,lv',nc',f2',kn,ia,li,Jo]
   exact hK
 .simp only [Am,a0]
end
end Go.DD

/- Contracts: a version's array. Conditions: those that each theorem states. -/
namespace Go.DD
open Go Go.Proofs Go.Sort
section
variable {T H:Nat} {nd:DV} {S:PTree}
theorem PTree.OK.chk(h:S.OK)(v:Nat):Ff ⟨S.dims,S.attrs,S.at v⟩=0/\AOK ⟨S.dims,S.attrs,S.at v⟩/\(S.at v).length<=60:=by
 cases v with
 | zero=>exact ⟨h.z.1,h.z.2,Gf _⟩
 | succ v=>
  have e:S.at (v+1)=match S.vers[v]? with
   | some x=>x.cells
   | none=>[]:=rfl
  rw [e]
  cases hx:S.vers[v]? with
  | none=>exact ⟨h.z.1,h.z.2,Gf _⟩
  | some x=>exact h.c x (Aw hx)
theorem A80:∀ (n k v:Nat) (hp:Tr DObj) (nx:Nat) (K:DV->Tr DObj->Nat->Prop),v<=n->v<=S.vers.length->TreeAt hp nx T H nd S->(∀ Ap Ba z,Al hp nx Ap Ba->RL rCell Ap (Bl Ba) z (S.at v)->(∀ j∈z.refs,nx<=j)->K z Ap Ba)->KW (kN (k+n+8)) (.fn 97) [.pt T 0,iv (v:Nat)] hp nx K
 | 0,k,v,hp,nx,K,hv,LB,h,hK=>by
  obtain rfl:v=0:=by omega
  refine Ds (Gb (by decide)) ZY (Ab rfl) λes e1 e2 he=>?_
  have a0:Ac es (.t .o)=.pt T 0:=he 0 _ rfl
  have a1:Ac es (.t (.l .o))=iv ((0:Nat)):=he 1 _ rfl
  unfold TY
  subst e1 e2
  simp only [Am,↓An,bP,a1]
  exact hK _ _ Bv (Al.refl _ _) .nil λj hj=>by cases hj
 | n+1,k,v,hp,nx,K,hv,LB,h,hK=>by
  by_cases h0:v=0
  .subst h0
   refine Ds (Gb (by decide)) ZY (Ab rfl) λes e1 e2 he=>?_
   have a0:Ac es (.t .o)=.pt T 0:=he 0 _ rfl
   have a1:Ac es (.t (.l .o))=iv ((0:Nat)):=he 1 _ rfl
   unfold TY
   subst e1 e2
   simp only [Am,↓An,bP,a1]
   exact hK _ _ Bv (Al.refl _ _) .nil λj hj=>by cases hj
  refine Ds (Gb (by decide)) ZY (Ab rfl) λes e1 e2 he=>?_
  have a0:Ac es (.t .o)=.pt T 0:=he 0 _ rfl
  have a1:Ac es (.t (.l .o))=iv (v:Nat):=he 1 _ rfl
  unfold TY
  subst e1 e2
  have mi:1<=v/\v<=S.vers.length:=by omega
  obtain ⟨Fb,a,b,hx,ra,_,⟨lv,nc⟩,⟨f0,_,_⟩,l0,_,_⟩:=h.ver mi
  obtain ⟨d,aa,z,hT,_⟩:=h.ld
  simp only [Am,↓An,a0,a1,show decide ((v:Int)=0)=false from Ad (by omega),Il (n0:=es.nx) (m:=13) hT h.th.2.1]
  refine Ge rfl (Tf ?_)
  simp only [bR,Ao,Aq]
  refine RN _ _ v (h.keep (Al.ini es.hp (by omega:es.nx<=es.nx+13))) mi ?_
  have r:=h.nl
  have b3:∀ j,(j<es.nx/\j≠T/\j≠H)->j<es.nx:=λj hj=>hj.1
  have ld:=ra.live
  simp only [Am,↓An,bP,a0,a1,↓vZ,lv,nc,f0,l0,B18 r b3,B19 r b3,Il (n0:=es.nx) (m:=13) hT h.th.2.1]
  refine Ge rfl (Tf ?_)
  simp only [bR,Ao,Aq]
  refine Bp0 _ _ v (h.keep (Al.ini es.hp (by omega:es.nx<=es.nx+13))) mi λu hu=>?_
  have P3:=Aa Fb
  rw [P3] at hu
  cases hu
  simp only [Am,↓An,Il (n0:=es.nx) (m:=13) hT h.th.2.1]
  refine Ge rfl (Tf ?_)
  simp only [bR,Ao,Aq]
  have aVi:Nf S.vers[v-1]<=v-1:=by
   unfold Nf
   cases Tt:S.vers[v-1].par with
   | nil=>simp
   | cons q l=>
    have:=h.ok.p (v-1) Fb q (by rw [Tt];simp)
    simp only [List.headD_cons];omega
  refine A80 n k (Nf S.vers[v-1]) _ _ _ (by omega) (by omega) (h.keep (Al.ini es.hp (by omega:es.nx<=es.nx+13))) λDb Hh z Zr rz er=>?_
  have Fq:=Zr.le
  have k2:∀ j,j<es.nx->Db.get j=es.hp.get j:=λj hj=>Zr.same j (by omega)
  obtain ⟨xc,xo,xl⟩:=h.ok.c _ (Bd Fb)
  obtain ⟨sc,so,sl⟩:=h.ok.chk (Nf S.vers[v-1])
  have sd:S.at v=S.vers[v-1].cells:=by
   obtain ⟨w,rfl⟩:∃ w,v=w+1:=⟨v-1,by omega⟩
   show (match S.vers[w]? with
    | some x=>x.cells
    | none=>[])=_
   rw [Aa (by omega)];rfl
  have ond:=B94 (x:=⟨S.dims,S.attrs,S.at (Nf S.vers[v-1])⟩) (y:=⟨S.dims,S.attrs,S.vers[v-1].cells⟩) sc xc
  have Oh:=Bw5 (Gc [S.at (Nf S.vers[v-1]),S.vers[v-1].cells])
  have uQ:(Gc [S.at (Nf S.vers[v-1]),S.vers[v-1].cells]).length<=Pl [S.at (Nf S.vers[v-1]),S.vers[v-1].cells]:=CD
  have LG:Pl [S.at (Nf S.vers[v-1]),S.vers[v-1].cells]=(S.at (Nf S.vers[v-1])).length+S.vers[v-1].cells.length:=by simp [Pl]
  have r2:=r.keep (Ap:=Db) λj hj=>k2 j hj.1
  have uD:=ra.keep (Ap:=Db) λj hj=>k2 j hj.1
  have oz:∀ {an:List Nat},Ib z (λid=>Cp es.nx 13 an Db id)↔True:=I1 rz er
  simp only [Am,↓An,Fq,J2 uD b3,oz]
  refine Ge rfl (Tf ?_)
  simp only [bR,Ao,Aq]
  refine zU _ Hh _ _ _ a z _ _ (Af _) (uD.mono λj hj=>by (have:=hj.1;show j<Hh);omega) rz (by omega) (Rg sc).1 (λc hc=>(so.e c hc).1) λHe Dn z3 iZ L5 TV=>?_
  have Ik:=iZ.le
  have jl:∀ {an:List Nat},Ib z3 (λid=>Cp es.nx 13 an He id)↔True:=I1 L5 λj hj=>by have:=TV j hj;omega
  rw [ond,<- sd] at L5
  simp only [Am,↓An,bP,Ik,jl,L5.live]
  have k3:∀ j,j<es.nx->He.get j=es.hp.get j:=λj hj=>(iZ.same j (by omega)).trans (k2 j hj)
  have hP:Rc es.nx es.hp [⟨11,[5,10,4,3,2,0,1,6,9,7,8],Db,He⟩,⟨10,[6,9,7,8,2,0,1],es.hp,Db⟩,⟨9,[7,8,2,0,1],es.hp,es.hp⟩,⟨2,[0,1],es.hp,es.hp⟩]:=nO k2 k3 (nO (λ_ _=>rfl) k2 (nO (λ_ _=>rfl) (λ_ _=>rfl) (nO (λ_ _=>rfl) (λ_ _=>rfl) XC)))
  exact ⟨YT hP (Cj0 h.th.2.1) (YT hP (Cj0 h.th.2.1) (B17 hP r b3 (λj hj=>wK _ _ _ _ (Bk3 _ _ _ hj)) (B17 hP r b3 (wK _ _ _) (B17 hP r b3 (wK _ _ _) rfl)))),hK _ _ _ ((Al.ini es.hp (by omega:es.nx<=es.nx+13)).trans (Zr.trans iZ)) (L5.mono λj hj=>hj.elim (λhj=>Br hj Ik) λhj=>hj.2) λj hj=>by (have:=TV j hj);omega⟩
end
end Go.DD

/- Contracts: a version as an array of its own. Conditions: those that each theorem states. -/
namespace Go.DD
open Go Go.Proofs Go.Sort
section
variable {hp:Tr DObj} {nx T H:Nat} {nd:DV} {S:PTree}
theorem TreeAt.sz(h:TreeAt hp nx T H nd S){U:Nat}{cs:List DV}(g:hp.get T=some (.row U cs)):∀ c∈cs,Nb 6 c c=true:=by
 obtain ⟨d,a,z,h1,h2,h3,h4⟩:=h.r
 rw [h1] at g
 cases g
 intro c hc
 simp only [Ak,Ax,or_false] at hc
 rcases hc with rfl | rfl | rfl | rfl | rfl
 .exact h2.same (by decide)
 .exact h3.same (by decide)
 .exact h4.same (by decide)
 .exact h.n.rl.same (by decide)
 .simp [Nb]
theorem B20{n m i:Nat}{an lo:List Nat}{c:Bool}{ws:List Look}{ps:List Past}{off:Nat}(h:TreeAt hp nx T H nd S)(hn:nx<=n)(hP:Rc nx hp ps)(h2:Oj n m ws ps=true):Oj n m (Gj i an true c (DV.pt T off).refs n lo ws) ps=true:=by
 obtain ⟨d,a,z,g,_⟩:=h.r
 exact nP (λj hj=>by simpa [DV.refs] using hj) (Br h.th.2.1 hn) (λq hq=>⟨((hP q hq).1 _ h.th.2.1).trans g,((hP q hq).2 _ h.th.2.1).trans g⟩) (h.sz g) h2
variable (k:Nat) (K:DV->Tr DObj->Nat->Prop)
theorem SC(f v:Nat)(h:TreeAt hp nx T H nd S)(hv:v<=S.vers.length)(hf:v<=f)
  (hK:∀ Ap Ba d',Al hp nx Ap Ba->AR Ap (Bw nx Ba) d' ⟨S.dims,S.attrs,S.at v⟩->AOw Ap d'->K (.tup [d',iv 0]) Ap Ba):KW (kN (k+f+17)) (.fn 85) [.pt T 0,iv (v:Nat)] hp nx K:=by
 refine jP (Gb (by decide)) t85 (Ab rfl) λes e1 e2 he=>?_
 have a0:Ac es (.t .o)=.pt T 0:=he 0 _ rfl
 have a1:Ac es (.t (.l .o))=iv (v:Nat):=he 1 _ rfl
 unfold r85
 subst e1 e2
 simp only [↓An]
 refine Oe λDv Dc Cr=>?_
 simp only [bR] at Dc Cr
 have aU:Al es.hp es.nx Dv (es.nx+1):=⟨by omega,λj hj=>Cr j (by omega)⟩
 have h1:=h.keep aU
 obtain ⟨d,a,z,hT,⟨f0,_,_,f1⟩,⟨l0,l1,_,_⟩,rd,ra⟩:=h1.ld
 have b3:∀ j,(j<es.nx+1/\j≠T/\j≠H/\j∉nd.refs)->j<es.nx+1:=λj hj=>hj.1
 simp only [Am,↓An,bP,a0,a1,↓vZ,Qv hT,Zs,f0,f1,l0,l1,Il (n0:=es.nx+1) (m:=18) hT h1.th.2.1]
 refine Ge rfl (Tf ?_)
 simp only [bR,Ao,Aq]
 refine A80 (f+8) k v _ _ _ (by omega) hv (h1.keep (Al.ini Dv (by omega:es.nx+1<=es.nx+1+18))) λDb Hh z2 Zr rz er=>?_
 have Fq:=Zr.le
 have k2:∀ j,j<es.nx+1->Db.get j=Dv.get j:=λj hj=>Zr.same j (by omega)
 have TU:=rd.keep (Ap:=Db) λj hj=>k2 j hj.1
 have uD:=ra.keep (Ap:=Db) λj hj=>k2 j hj.1
 have oz:∀ {an:List Nat},Ib z2 (λid=>Cp (es.nx+1) 18 an Db id)↔True:=I1 rz er
 simp only [Am,↓An,Fq,J2 TU b3,J2 uD b3,oz]
 refine Ge rfl (Tf ?_)
 simp only [bR,Ao,Aq]
 obtain ⟨sc,so,sl⟩:=h.ok.chk v
 refine YW (k+f) Hh _ _ _ 6 d a z2 ⟨S.dims,S.attrs,S.at v⟩ (Af _) (TU.mono λj hj=>by (have:=hj.1;show j<Hh);omega) (uD.mono λj hj=>by (have:=hj.1;show j<Hh);omega) rz sc so (by show (S.at v).length<=2 ^ 6;omega) λGa Ih d6 Lu Rv aI=>?_
 have Jr:=Lu.le
 obtain ⟨dd,da,Sb,rfl,v1,v2,v3⟩:=Rv
 have x0:Fg Ga (.tup [.agg [dd,da,Sb],iv 0]) 0=some (.agg [dd,da,Sb]):=Qf v1 v2 v3
 have x1:Fg Ga (.tup [.agg [dd,da,Sb],iv 0]) 1=some (iv 0):=Mo
 have W3:=(Lu.same es.nx (by omega)).trans ((k2 es.nx (by omega)).trans Dc)
 have FU:∀ an,Ib (.agg [dd,da,Sb]) (λid=>Cp (es.nx+1) 18 an Ga id):=λan id hid=>by
  have:id∈dd.refs\/id∈da.refs\/id∈Sb.refs:=by simpa [DV.refs,DV.refsL] using hid
  have w1:=v1.ro' (n:=es.nx+1) (m:=18) (an:=an) λj hj=>.inr (by have:=hj.1;omega)
  have w2:=v2.ro' (n:=es.nx+1) (m:=18) (an:=an) λj hj=>.inr (by have:=hj.1;omega)
  have w3:=v3.ro' (n:=es.nx+1) (m:=18) (an:=an) λj hj=>.inr (by have:=hj.1;omega)
  exact this.elim (w1 id) λh=>h.elim (w2 id) (w3 id)
 have Z5:∀ an,Ib (.tup [.agg [dd,da,Sb],iv 0]) (λid=>Cp (es.nx+1) 18 an Ga id):=λan id hid=>FU an id (by simpa [DV.refs,DV.refsL,iv] using hid)
 simp only [Am,↓An,Jr,x0,x1,Bj (FU _),Bj (Z5 _),Il (n0:=es.nx+1) (m:=18) W3 (show es.nx<es.nx+1 by omega)]
 refine Ge rfl (Oi (n:=3) (id:=es.nx) (ds:=[dd,da,Sb]) (by simp only [bR]) W3 (by simp only [Di,bR];exact AR.live (x:=⟨S.dims,S.attrs,S.at v⟩) v1 v2 v3) rfl rfl λIj Mt If=>?_)
 simp only [bR] at Mt If
 simp only [Am,↓An]
 have k6:∀ j,j<es.nx->Ga.get j=es.hp.get j:=λj hj=>(Lu.same j (by omega)).trans ((k2 j (by omega)).trans (aU.same j hj))
 have k7:∀ j,j<es.nx->Ij.get j=es.hp.get j:=λj hj=>(If j (by omega)).trans (k6 j hj)
 have hP:Rc es.nx es.hp [⟨16,[14,13,0,1,2,3,4,5,6,7,8,9,10,11,12,15],Ga,Ij⟩,⟨13,[4,9,12,3,2,1,0,8,7,6,5,10,11],Db,Ga⟩,⟨12,[10,11],Dv,Db⟩]:=nO k6 k7 (nO (λj hj=>(k2 j (by omega)).trans (aU.same j hj)) k6 (nO (λj hj=>aU.same j hj) (λj hj=>(k2 j (by omega)).trans (aU.same j hj)) XC))
 have ok:∀ {i:Nat} {an lo:List Nat} {c:Bool} {ws:List Look} {off:Nat},Oj (es.nx+1) 18 ws _=true->Oj (es.nx+1) 18 (Gj i an true c (DV.pt T off).refs (es.nx+1) lo ws) _=true:=λh2=>B20 h (Nat.le_succ _) hP h2
 have up:∀ j,Bw Hh Ih j->Bw es.nx Ih j:=λj hj=>⟨by have:=hj.1;omega,hj.2⟩
 have kp:∀ j,Bw Hh Ih j->Ij.get j=Ga.get j:=λj hj=>If j (by have:=hj.1;omega)
 exact ⟨ok (ok (ok (ok (ok (ok (ok (ok (ok (ok rfl))))))))),_,_,sE (by simp only [bR,bP]) Mt rfl,by rw [X8];simp only [bR,bP,Sd],hK _ _ _ ⟨by omega,k7⟩ ⟨dd,da,Sb,rfl,(v1.keep kp).mono up,(v2.keep kp).mono up,(v3.keep kp).mono up⟩ (.of ((aI _ _ _ rfl).keep λj hj=>kp j (v3.refs j hj).1))⟩
end
end Go.DD

/- Contracts: the present versions; which numbers are versions. Conditions: those that each theorem states. -/
namespace Go.DD
open Go Go.Proofs Go.Sort
theorem Bf1{hp:Tr DObj}{a b:DV}{x:Bool}(ha:∀ id∈a.refs,(hp.get id).isSome=true)(hb:∀ id∈b.refs,(hp.get id).isSome=true):Ch hp (.agg [a,b,bv x])=.agg [a,b,bv x]:=Wh λid hid=>by
 have:id∈a.refs\/id∈b.refs:=by simpa [DV.refs,DV.refsL,bv] using hid
 exact this.elim (ha id) (hb id)
section
variable {hp:Tr DObj} {nx T H:Nat} {nd:DV} {S:PTree} (k:Nat) (K:DV->Tr DObj->Nat->Prop)
theorem A35(v:Nat)(h:TreeAt hp nx T H nd S)(hv:1<=v/\v<=S.vers.length)(hK:K (iv 0) hp nx):KW (kN (k+2)) (.fn 84) [.pt T 0,iv (v:Nat)] hp nx K:=by
 refine Ds (Gb (by decide)) t84 (Ab rfl) λes e1 e2 he=>?_
 have a0:Ac es (.t .o)=.pt T 0:=he 0 _ rfl
 have a1:Ac es (.t (.l .o))=iv (v:Nat):=he 1 _ rfl
 unfold r84
 subst e1 e2
 obtain ⟨d,aa,z,hT,⟨_,f3,_,_⟩,⟨_,_,l3,_⟩,_⟩:=h.ld
 obtain ⟨h0,a,b,_,_,rb,⟨lv,nc⟩,⟨_,_,f2⟩,_,_,l2⟩:=h.ver hv
 have r:=h.nl
 have hlen:Qp es.hp nd=some (.v (.int .i64 (S.vers.length:Int))):=by rw [r.len,Dd]
 simp only [Am,↓An,bP,a0,a1,show decide ((v:Int)<1)=false from Ad (by omega),↓fI,Qv hT,Zs,f3,l3,hlen,show decide (S.vers.length<v)=false from Ad (by omega)]
 refine Dt (RN k _ v h hv ?_)
 simp only [Am,↓An,bP,↓fI,lv,nc,f2,l2]
 exact hK
theorem Bf2(h:TreeAt hp nx T H nd S)(hK:∀ Ap Ba z,Al hp nx Ap Ba->(∃ l,RL rInt Ap (Bl Ba) z l/\l.length=S.vers.length)->K z Ap Ba):KW (kN (k+2)) (.fn 37) [.pt T 0] hp nx K:=by
 refine Ds (Gb (by decide)) t37 (Ab rfl) λes e1 e2 he=>?_
 have a0:Ac es (.t .o)=.pt T 0:=he 0 _ rfl
 unfold r37
 subst e1 e2
 obtain ⟨d,aa,z,hT,⟨_,f3,_,_⟩,⟨_,_,l3,_⟩,_⟩:=h.ld
 have r:=h.nl
 have hlen:Qp es.hp nd=some (.v (.int .i64 (S.vers.length:Int))):=by rw [r.len,Dd]
 have MR:=h.ok.n
 simp only [Am,↓An,a0]
 refine Dt (bS k _ h ?_)
 simp only [Am,↓An,bP,a0,↓fI,Qv hT,Zs,f3,l3,hlen]
 refine EW.up S.vers.length (λi es1=>∃ z l,Al es.hp es.nx es1.hp es1.nx/\OL rInt es1.hp (λ_=>False) z l/\l.length=i/\(∀ j∈z.refs,es.nx<=j/\j<es1.nx)/\Ac es1 (.t (.l (.l .o)))=z/\Ac es1 (.t (.r (.l (.r .o))))=nd/\Ac es1 (.t (.l (.r (.r .o))))=iv S.vers.length/\Ac es1 (.t (.r (.r (.r .o))))=iv (i:Nat)) ?_ ?_ (by omega)
 .rintro i es1 hi ⟨z,l,g,ho,hl,hz,b3,Ig,Na,b14⟩
  unfold zO
  have h1:=h.keep g
  have hle:=g.le
  by_cases Sa:i<S.vers.length
  .obtain ⟨h0,a,b,_,ra,rb,⟨lv,nc⟩,⟨_,_,f2⟩,_,_,l2⟩:=h1.ver (v:=i+1) ⟨by omega,by omega⟩
   have r1:=h1.nl
   have Fb:i<(S.vers.map S.node).length:=by rw [Dd];exact Sa
   obtain ⟨a,b,ra,rb,JV,_⟩:=Bm2 r1 Fb
   have hg:(S.vers.map S.node)[i].gone=false:=by rw [List.getElem_map];rfl
   rw [hg] at JV
   simp only [Am,↓An,Ig,Na,b14,Sa,B96 r1 Fb,JV]
   refine Oe λDb Gv Fj=>?_
   simp only [bR] at Gv Fj
   have k2:∀ j,j<es1.nx->Db.get j=es1.hp.get j:=λj hj=>Fj j (by omega)
   have uD:=ra.keep (Ap:=Db) λj hj=>k2 j hj.1
   have M1:=rb.keep (Ap:=Db) λj hj=>k2 j hj.1
   simp only [Am,↓An]
   refine Oi (n:=3) (id:=es1.nx) (ds:=[a,b,bv false]) (by simp only [bR]) Gv (by simp only [Di,bR];exact Bf1 (λid h=>(uD.refs id h).2) (λid h=>(M1.refs id h).2)) rfl rfl λHe Lx Jh=>?_
   simp only [bR] at Lx Jh
   have k3:∀ j,j<es1.nx->He.get j=es1.hp.get j:=λj hj=>by rw [Jh j (by omega),k2 j hj]
   have l23:Hk He none (.pt es1.nx 2)=some (bv false):=Qz Lx rfl
   have oh:=ho.keep (Ap:=He) λj hj=>k3 j (hj.elim False.elim λh=>(hz j h).2)
   simp only [Am,↓An,b3,vT (k:=2) Lx,l23,Hn (show i<_ by omega)]
   refine jF (fl:=[iv ((i+1:Nat))]) rfl (by simp only [Ao,Aq,Dh,bR,bP,Sd];rfl) λHo Ov Ha=>?_
   simp only [bR] at Ov Ha
   have B2:=oh.keep (Ap:=Ho) λj hj=>Ha j (hj.elim False.elim λh=>by have:=(hz j h).2;omega)
   simp only [Am,↓An]
   refine fL (R:=rInt) (p:=λ_=>False) (p2:=λ_=>False) (d:=z) (d2:=.ms (es1.nx+1) 0 1 1) (l:=l) (m:=[((i+1:Nat):Int)]) (by simp only [bR,bP]) B2 (by simp only [Dh,bR,bP];exact eK Ov) (BT (R:=rInt) (x:=((i+1:Nat):Int)) Ov rfl) rfl rfl (by rw [Cc];omega) (by decide) λDu Hd h5=>?_
   simp only [bR] at Hd h5
   have o5:=h5 (λ_=>False) λj hj=>(hj.elim False.elim False.elim:False).elim
   simp only [Am,↓An,Ig,Na,b14,Hn (show i<_ by omega)]
   refine ⟨Sa,_,_,g.new (by omega) λj hj=>?_,o5,by rw [Bp,Cc,hl],λj hj=>?_,rfl⟩
   .rw [Hd j (by omega) (λhjz=>by have:=(hz j hjz).1;omega),Ha j (by omega),k3 j (by omega)]
   .obtain rfl:j=es1.nx+1+1:=by simpa [DV.refs] using hj
    omega
  .simp only [Am,↓An,bP,b3,Na,b14,Sa,(ho.rl).live]
   exact hK _ _ _ g ⟨l,ho.rl.mono λj hj=>hj.elim False.elim λh=>(hz j h).2,by omega⟩
 .simp only [Am]
  exact ⟨Bv,[],.nil,rfl,λj hj=>(by cases hj),rfl⟩
end
end Go.DD

/- Maps from names to numbers: what is found, what is put. Conditions: those that each theorem states. -/
namespace Go.DD
open Go Go.Proofs Go.Sort
def Nw:List (ByteArray×Int)->ByteArray->Option Int
 | [],_=>none
 | x::l,s=>if s=x.1 then some x.2 else Nw l s
def Qa:List (ByteArray×Int)->ByteArray->Int->List (ByteArray×Int)
 | [],s,v=>[(s,v)]
 | x::l,s,v=>if s=x.1 then (s,v)::l else x::Qa l s v
def Qh(es:List ME)(hs:List (ByteArray×Int)):Prop:=es.map (λe=>(e.k,e.v))=hs.map λx=>(Value.string x.1,iv x.2)
theorem Cq6(a b:ByteArray):Wo .string (.string a) (.string b)=some (decide (a=b)):=by
 show some (a.data.toList==b.data.toList)=_
 rw [<- Lg]
 congr 1
 rw [ByteArray.toList_eq,ByteArray.toList_eq]
theorem RM(s:ByteArray):∀ {es:List ME} {hs:List (ByteArray×Int)} (i:Nat),Qh es hs->(Nw hs s=none/\findD (.p .string) (.string s) es i=some none/\∀ v b,Qh (es ++ [⟨.string s,iv v,b⟩]) (Qa hs s v))\/∃ v j e,Nw hs s=some v/\findD (.p .string) (.string s) es i=some (some (i+j,e))/\e.v=iv v/\∀ v' b,Qh (es.set j ⟨.string s,iv v',b⟩) (Qa hs s v')
 | [],[],_,_=>.inl ⟨rfl,rfl,λv b=>rfl⟩
 | [],_::_,_,h=>by cases h
 | _::_,[],_,h=>by cases h
 | e::es,x::hs,i,h=>by
  have h':(e.k,e.v)=(Value.string x.1,iv x.2)/\Qh es hs:=List.cons.inj h
  obtain ⟨h1,h2⟩:=h'
  obtain ⟨hk,hv⟩:=Prod.mk.inj h1
  have hf:findD (.p .string) (.string s) (e::es) i=if s=x.1 then some (some (i,e)) else findD (.p .string) (.string s) es (i+1):=by
   show (match Pw (.p .string) (.string s) e.k with
    | some true=>some (some (i,e))
    | some false=>findD (.p .string) (.string s) es (i+1)
    | none=>none)=_
   rw [hk,show Pw (.p .string) (.string s) (.string x.1)=some (decide (s=x.1)) from Cq6 _ _]
   by_cases hs:s=x.1
   .rw [Ai hs,Ah hs]
   .rw [Ad hs,Ae hs]
  by_cases hx:s=x.1
  .refine .inr ⟨x.2,0,e,by unfold Nw;rw [Ah hx],by rw [hf,Ah hx];rfl,hv,λv' b=>?_⟩
   unfold Qa
   rw [Ah hx]
   show (Value.string s,iv v')::es.map (λe=>(e.k,e.v))=(Value.string s,iv v')::hs.map _
   rw [show es.map (λe=>(e.k,e.v))=_ from h2]
  .rcases RM s (i+1) h2 with ⟨g1,g2,g3⟩ | ⟨v,j,e',g1,g2,g3,g4⟩
   .refine .inl ⟨by unfold Nw;rw [Ae hx,g1],by rw [hf,Ae hx,g2],λv b=>?_⟩
    unfold Qa
    rw [Ae hx]
    show (e.k,e.v)::(es ++ [(⟨.string s,iv v,b⟩:ME)]).map (λe=>(e.k,e.v))=_::(Qa hs s v).map _
    rw [h1];exact Rh _ (g3 v b)
   .refine .inr ⟨v,j+1,e',by unfold Nw;rw [Ae hx,g1],by rw [hf,Ae hx,g2];congr 3;omega,g3,λv' b=>?_⟩
    unfold Qa
    rw [Ae hx]
    show (e.k,e.v)::(es.set j ⟨.string s,iv v',b⟩).map (λe=>(e.k,e.v))=_::(Qa hs s v').map _
    rw [h1];exact Rh _ (g4 v' b)
theorem yT{hp:Tr DObj}{id ck:Nat}{es:List ME}{hs:List (ByteArray×Int)}(h:hp.get id=some (.mapo ck es))(hm:Qh es hs)(s:ByteArray):Qo hp (.p .string) (.int .i64 0) (.mp id) (sv s)=some (iv ((Nw hs s).getD 0)):=by
 show (match hp.get id with
  | some (.mapo _ es)=>match findD (.p .string) (.string s) es 0 with
   | some (some p)=>some (Io false p.2.v true)
   | some none=>some (Io false (.v (.int .i64 0)) false)
   | none=>none
  | _=>none)=_
 rw [h]
 rcases RM s 0 hm with ⟨g1,g2,_⟩ | ⟨v,j,e,g1,g2,g3,_⟩
 .simp only [g2,g1];rfl
 .simp only [g2,g1,g3];rfl
section
variable {call:Bf} {es:ES} {dst:Option Pa} {q:Hold (ES->Prop)}
theorem wQ{Q:ES->Prop}{kd:KD}{z:Value}{x k:Operand} : SW (sU dst (Bc (.lkp kd z x k true))) call es Q↔@Mv (sU dst (Bc (.lkp kd z x k true))) call es ⟨Q⟩:=Dp
theorem B21{t u im ck:Nat}{es':List ME}{hs:List (ByteArray×Int)}{s:ByteArray}(e1:es.ds.ev (.tmp t)=.mp im)(hm:es.hp.get im=some (.mapo ck es'))(hk:Qh es' hs)(e2:es.ds.ev (.tmp u)=sv s)
  (h:q.val (es.putE dst (.tup [iv ((Nw hs s).getD 0),bv (Nw hs s).isSome]))):Mv (sU dst (Bc (.lkp (.p .string) (.int .i64 0) (.tmp t) (.tmp u) true))) call es:=by
 show SW _ _ _ _
 rw [sw_u,Hf]
 refine ⟨_,.keep,?_,h⟩
 simp only [Bb,e1,e2]
 show (match es.hp.get im with
  | some (.mapo _ es)=>match findD (.p .string) (.string s) es 0 with
   | some (some p)=>some (Io true p.2.v true,Upd.keep)
   | some none=>some (Io true (.v (.int .i64 0)) false,Upd.keep)
   | none=>none
  | _=>none)=_
 rw [hm]
 rcases RM s 0 hk with ⟨g1,g2,_⟩ | ⟨v,j,e,g1,g2,g3,_⟩
 .simp only [g2,g1];rfl
 .simp only [g2,g1,g3];rfl
theorem B22{t:Nat}{u v:Operand}{im ck:Nat}{es':List ME}{hs:List (ByteArray×Int)}{s:ByteArray}{n:Int}(e1:es.ds.ev (.tmp t)=.mp im)(hm:es.hp.get im=some (.mapo ck es'))(hk:Qh es' hs)(e2:es.ds.ev u=sv s)(e3:es.ds.ev v=iv n)
  (h:∀ Ap ck' By,Ap.get im=some (.mapo ck' By)->Qh By (Qa hs s n)->(∀ j,j≠im->Ap.get j=es.hp.get j)->q.val ((ES.mk es.sl Ap es.nx).putE dst .any)) :
  Mv (sU dst (Bc (.mup (.p .string) (.tmp t) u v))) call es:=by
 show SW _ _ _ _
 rw [sw_u,Hf]
 have fin:∀ Wd By,Qm (.p .string) (.string s) (iv n) ck es'=some (Wd,By)->Qh By (Qa hs s n)->UW (Bb es.nx es.ds (.mup (.p .string) (.tmp t) u v)) λd u=>q.val ((es.up u).putE dst d):=by
  intro Wd By h1 h2
  refine ⟨.any,.wr im (.mapo Wd By),?_,h (es.up (.wr im (.mapo Wd By))).hp Wd By (by rw [Mk,get_set,Ah rfl]) h2 λj hj=>by rw [Mk,get_set,Ae hj]⟩
  simp only [Bb,e1,e2,e3]
  show (match es.hp.get im with
   | some (.mapo ck es)=>match Qm (.p .string) (.string s) (iv n) ck es with
    | some p=>some (DV.any,Upd.wr im (.mapo p.1 p.2))
    | none=>none
   | _=>none)=_
  rw [hm]
  simp only [h1]
 rcases RM s 0 hk with ⟨g1,g2,g3⟩ | ⟨v,j,e,g1,g2,g3,g4⟩
 .exact fin _ _ (by unfold Qm;rw [g2]) (g3 n ck)
 .exact fin _ _ (by unfold Qm;rw [g2]) (by rw [Er];exact g4 n e.b)
end
end Go.DD

/- Contracts: a version is added. Conditions: those that each theorem states. -/
namespace Go.DD
open Go Go.Proofs Go.Sort
structure Fr3 (hp:Tr DObj) (nx T H:Nat) (nd:DV) (Ap:Tr DObj) (Ba:Nat):Prop where
 le:nx<=Ba
 k:∀ j,j<nx->j≠T->j≠H->j∉nd.refs->Ap.get j=hp.get j
def PTree.add(S:PTree)(b:ByteArray)(c:List PCell)(ps:List Int):PTree:={ S with vers:=S.vers ++ [⟨c,ps⟩],heads:=Qa S.heads b ((S.vers.length+1:Nat):Int) }
theorem PTree.at_add{S:PTree}{b:ByteArray}{c:List PCell}{ps:List Int}{v:Nat}(hv:v<=S.vers.length):(S.add b c ps).at v=S.at v:=by
 cases v with
 | zero=>rfl
 | succ v=>
  show (match (S.vers ++ [(⟨c,ps⟩:PVer)])[v]? with
   | some x=>x.cells
   | none=>[])=_
  rw [Cm (by omega)];rfl
theorem PTree.nodes_add{S:PTree}(hS:S.OK){b:ByteArray}{c:List PCell}{ps:List Int}(hp:∀ q∈ps,1<=q/\q<=(S.vers.length:Nat)):(S.add b c ps).vers.map (S.add b c ps).node=S.vers.map S.node ++ [⟨Tb (Gc [S.at (ps.headD 0).toNat,c]),ps,false⟩]:=by
 show (S.vers ++ [(⟨c,ps⟩:PVer)]).map _=_
 rw [List.map_append]
 congr 1
 .refine Eu λx hx=>?_
  obtain ⟨i,hi,rfl⟩:=Jb hx
  have:Nf S.vers[i]<=S.vers.length:=by
   unfold Nf
   cases h:S.vers[i].par with
   | nil=>simp
   | cons q l=>
    have:=hS.p i hi q (by rw [h];simp)
    simp only [List.headD_cons];omega
  unfold PTree.node
  rw [PTree.at_add this]
 .have:Nf ⟨c,ps⟩<=S.vers.length:=by
   unfold Nf
   cases ps with
   | nil=>simp
   | cons q l=>
    have:=hp q (by simp)
    simp only [List.headD_cons];omega
  show [PTree.node _ _]=_
  unfold PTree.node
  rw [PTree.at_add this];rfl
theorem A81:∀ {hs:List (ByteArray×Int)} {s:ByteArray} {v:Int} {x:ByteArray×Int},x∈Qa hs s v->x∈hs\/x.2=v
 | [],s,v,x,h=>by
  have:x=(s,v):=by simpa [Qa] using h
  exact .inr (by rw [this])
 | y::hs,s,v,x,h=>by
  unfold Qa at h
  split at h
  .rcases Ak.1 h with rfl | h
   .exact .inr rfl
   .exact .inl (Bn _ h)
  .rcases Ak.1 h with rfl | h
   .exact .inl (by simp)
   .exact (A81 h).imp (Bn _) id
theorem PTree.OK.add{S:PTree}(h:S.OK){b:ByteArray}{c:List PCell}{ps:List Int}(hc:Ff ⟨S.dims,S.attrs,c⟩=0/\AOK ⟨S.dims,S.attrs,c⟩/\c.length<=60)(hp:∀ q∈ps,1<=q/\q<=(S.vers.length:Nat))(hn:S.vers.length+1<60)(hl:ps.length<10):(S.add b c ps).OK:=by
 refine ⟨λx hx=>?_,h.z,λi hi q hq=>?_,?_,λx hx=>?_,λx hx=>?_⟩
 .rcases Bo.1 hx with hx | hx
  .exact h.c x hx
  .have:x=⟨c,ps⟩:=by simpa using hx
   rw [this];exact hc
 .have Wa:i<(S.vers ++ [(⟨c,ps⟩:PVer)]).length:=hi
  have Zd:q∈((S.vers ++ [(⟨c,ps⟩:PVer)])[i]'Wa).par:=hq
  by_cases h2:i<S.vers.length
  .rw [List.getElem_append_left h2] at Zd
   exact h.p i h2 q Zd
  .have NL:i=S.vers.length:=by rw [Bp,Cc] at Wa;omega
   subst NL
   rw [List.getElem_append_right (Af _)] at Zd
   simp only [Nat.sub_self,Jo] at Zd
   exact hp q Zd
 .show (S.vers ++ [(⟨c,ps⟩:PVer)]).length<60
  rw [Bp,Cc];exact hn
 .rcases Bo.1 hx with hx | hx
  .exact h.l x hx
  .have:x=⟨c,ps⟩:=by simpa using hx
   rw [this];exact hl
 .have hl:((S.add b c ps).vers.length:Int)=S.vers.length+1:=by
   show ((S.vers ++ [(⟨c,ps⟩:PVer)]).length:Int)=_
   rw [Bp,Cc];rfl
  rcases A81 hx with h1 | h1
  .have:=h.h x h1
   omega
  .rw [h1];omega
theorem Cj1{n m:Nat}{ws:List Look}{p:Past}{ps:List Past}(h1:Oj n m ws [p]=true)(h2:Oj n m ws ps=true):Oj n m ws (p::ps)=true:=by
 unfold Oj at *
 rw [Ay] at *
 intro w hw
 have a:=h1 w hw
 have b:=h2 w hw
 rw [List.all_cons,List.all_nil,Bool.and_true] at a
 rw [List.all_cons,a,b];rfl
theorem jC{n m i q:Nat}{an yo refs lo:List Nat}{c:Bool}{ws:List Look}{a b:Tr DObj}(hr:∀ j∈refs,j<n)(hi:yo.contains i=true)(h2:Oj n m ws [⟨q,yo,a,b⟩]=true):Oj n m (Gj i an true c refs n lo ws) [⟨q,yo,a,b⟩]=true:=nT (λj hj=>⟨hr j hj,λp hp=>.inl (by rw [Bk.1 hp];exact hi)⟩) h2
theorem C00{z w u:Value}{a b:DV}(h1:a.okC=true/\a.cells=[a])(h2:b.okC=true/\b.cells=[b]):Hi [DV.v z,DV.v w,DV.v u] [(0,1,a),(1,1,b)]=some [a,b,.v u]:=by
 simp [Hi,h1.1,h1.2,h2.1,h2.2]
theorem Cj2{z:List Value}{a b c:DV}(hz:z.length=3):Hi (List.replicate 1 (z.map DV.v)).flatten [(0,3,.agg [a,b,c])]=some [a,b,c]:=by
 match z,hz with
 | [u,v,w],_=>rfl
theorem xU{a b:DV}{x:Bool}{f:Nat->Bool}(h1:Ib a f)(h2:Ib b f):Ib (.agg [a,b,bv x]) f:=λid hid=>by
 have:id∈a.refs\/id∈b.refs:=by simpa [DV.refs,DV.refsL,bv] using hid
 exact this.elim (h1 id) (h2 id)
section
variable {hp:Tr DObj} {nx T H:Nat} {nd:DV} {S:PTree} (k:Nat) (K:DV->Tr DObj->Nat->Prop)
theorem Cj3(f n1:Nat)(b:ByteArray)(da dp:DV)(c:List PCell)(ps:List Int)(B5:n1<=nx)(h0:TreeAt hp n1 T H nd S)(ha:AR hp (Bl nx) da ⟨S.dims,S.attrs,c⟩)(Ht:RL rInt hp (Bl nx) dp ps)(pN:ps≠[]/\ps.length<10)(uV:∀ q∈ps,1<=q/\q<=(S.vers.length:Nat))(hc:Ff ⟨S.dims,S.attrs,c⟩=0/\AOK ⟨S.dims,S.attrs,c⟩/\c.length<=60)(hn:S.vers.length+1<60)(hf:S.vers.length<=f)
  (hK:∀ Ap Ba Sk,Fr3 hp nx T H nd Ap Ba->(∀ j∈Sk.refs,nx<=j)->(∀ Db Hh,Ba<=Hh->(∀ j,j<n1\/(nx<=j/\j<Ba)->Db.get j=Ap.get j)->TreeAt Db Hh T H Sk (S.add b c ps))->K (.tup [iv ((S.vers.length+1:Nat):Int),iv 0]) Ap Ba):KW (kN (k+f+12)) (.fn 86) [.pt T 0,sv b,da,dp] hp nx K:=by
 obtain ⟨d,a,cc,rfl,r1,r2,r3⟩:=ha
 refine bT (Gb (by decide)) t86 (Ab rfl) λes e1 e2 he=>?_
 have a0:Ac es (.t .o)=.pt T 0:=he 0 _ rfl
 have a1:Ac es (.t (.l .o))=sv b:=he 1 _ rfl
 have a2:Ac es (.t (.r .o))=.agg [d,a,cc]:=he 2 _ rfl
 have a3:Ac es (.t (.l (.l .o)))=dp:=he 3 _ rfl
 unfold r86
 subst e1 e2
 have h:=h0.keep (Ba:=es.nx) ⟨B5,λ_ _=>rfl⟩
 simp only [↓An]
 refine Tm (cs:=[d,a,cc]) (by rw [Di,a2];exact AR.live r1 r2 r3) λDv Dc Cr=>?_
 simp only [bR] at Dc Cr
 have aU:Al es.hp es.nx Dv (es.nx+1):=⟨by omega,λj hj=>Cr j (by omega)⟩
 simp only [Am,↓An,a0]
 refine Dt (Bf2 (k+f+9) _ (h.keep aU) λDb Hh z2 Zr ⟨l2,rl2,ll2⟩=>?_)
 have Fq:=Zr.le
 have Cq:=aU.trans Zr
 have h2:=h.keep Cq
 have g2:=(Zr.same es.nx (by omega)).trans Dc
 obtain ⟨_,_,_,_,lA⟩:=Mh g2
 obtain ⟨dd,aa,zz,hT,⟨f0,f3,f4,f1⟩,⟨l0,l1,l3,l4⟩,rd,ra⟩:=h2.ld
 have q1:=r3.ka (Af _) Cq
 have qp:=Ht.ka (Af _) Cq
 have Ze:0<ps.length:=List.length_pos_iff.2 pN.1
 have bq:∀ j,j<es.nx->j<Hh:=λj hj=>by omega
 have b3:∀ j,(j<Hh/\j≠T/\j≠H)->j<Hh:=λj hj=>hj.1
 have r:=h2.nl
 simp only [Am,↓An,bP,a0,a3,rl2.len,ll2,show decide ((100:Int)<=(S.vers.length:Int))=false from Ad (by omega),↓vZ,Qv hT,Zs,f3,l3,Bm5 qp Ze,ints_at qp Ze,J2 qp bq,B97 qp bq,Il (n0:=Hh) (m:=21) hT h2.th.2.1]
 have hq0:1<=ps[0]/\ps[0]<=(S.vers.length:Nat):=uV _ (Bd Ze)
 obtain ⟨n,VC⟩:=Vg (show 0<=ps[0] by omega)
 refine Ge rfl (Tf ?_)
 simp only [bR,Ao,Aq,VC]
 refine A80 (f+3) k n _ _ _ (by omega) (by omega) (h2.keep (Al.ini Db (by omega:Hh<=Hh+21))) λHe Dn z3 iZ L5 TV=>?_
 have Ik:=iZ.le
 have Ec:=Cq.trans ((Al.ini Db (by omega:Hh<=Hh+21)).trans iZ)
 have h3:=h.keep Ec
 have g3:=(iZ.same es.nx (by omega)).trans g2
 obtain ⟨⟨_,_,PS⟩,_,_,JW,_⟩:=Mh g3
 have k3:∀ j,j<Hh->He.get j=Db.get j:=λj hj=>iZ.same j (by omega)
 have jl:∀ {an:List Nat},Ib z3 (λid=>Cp Hh 21 an He id)↔True:=I1 L5 TV
 have q3:=r3.ka (Af _) Ec
 have bq2:∀ j,j<es.nx->j<Hh:=λj hj=>by omega
 simp only [Am,↓An,Ik,jl,PS,JW,J2 q3 bq2,Il (n0:=Hh) (m:=21) g3 (show es.nx<Hh by omega)]
 refine Ge rfl (Tf ?_)
 simp only [bR,Ao,Aq]
 obtain ⟨sc,so,sl⟩:=h.ok.chk n
 obtain ⟨sV,Wb,rn⟩:=hc
 refine A30 (k+f+5) Dn _ _ _ z3 cc (S.at n) c (Af _) L5 (q3.mono λj (hj:j<es.nx)=>by show j<Dn;omega) (by omega) (λe he=>?_) λHo Lb z4 X4 eu=>?_
 .rcases he with he | he
  .exact ⟨Z0 sc e he,(so.e e he).1,nY sc e he,(so.e e he).2.1⟩
  .exact ⟨Z0 sV e he,(Wb.e e he).1,nY sV e he,(Wb.e e he).2.1⟩
 have Vq:=X4.le
 have Lv:=Ec.trans X4
 have k4:∀ j,j<Hh->Ho.get j=Db.get j:=λj hj=>(X4.same j (by omega)).trans (k3 j hj)
 have qp4:=Ht.ka (Af _) Lv
 have oz4:∀ {an:List Nat},Ib z4 (λid=>Cp Hh 21 an Ho id)↔True:=I1 eu λj hj=>by (have:=(eu.refs j hj).1.1);omega
 simp only [Am,↓An,a3,Vq,J2 qp4 bq2]
 refine Ge rfl (Tf ?_)
 simp only [bR,Ao,Aq]
 refine YI (k+f+10) es.nx _ _ _ dp ps (by omega) qp4 (.inl pN.1) (by omega) λDu Fm z5 nK rz5 rn5 _=>?_
 have Fp:=nK.le
 have Cw:=Lv.trans nK
 have k5:∀ j,j<Hh->Du.get j=Db.get j:=λj hj=>(nK.same j (by omega)).trans (k4 j hj)
 have FX:RL rInt Du (λj=>Lb<=j/\j<Fm) z5 ps:=by
  rcases rz5 with ho | ⟨e,_⟩
  .exact ho.rl.mono λj hj=>hj.elim False.elim λh=>rn5 j h
  .exact absurd e pN.1
 have oz5:∀ {an:List Nat},Ib z5 (λid=>Cp Hh 21 an Du id)↔True:=I1 FX λj hj=>by have:=(rn5 j hj).1;omega
 have lN:=eu.keep (Ap:=Du) λj hj=>nK.same j hj.2
 have IL:∀ {an:List Nat},Ib z4 (λid=>Cp Hh 21 an Du id)↔True:=I1 lN λj hj=>by (have:=(lN.refs j hj).1.1);omega
 have sT:=C00 (z:=.slice none 0 0) (w:=.slice none 0 0) (u:=.bool false) lN.ok FX.ok
 have aA:∀ an,Ib (.agg [z4,z5,bv false]) (λid=>Cp Hh 21 an Du id):=λan=>xU (IL.2 trivial) (oz5.2 trivial)
 simp only [Am,↓An,bP,Fp,oz5,IL,FX.live,lN.live,X9,sT,Cb,Bj (aA _)]
 refine SG (fl:=[z4,z5,bv false]) rfl (by simp only [Ao,Aq,Dh,bR,bP,Bf1 (x:=false) (λj hj=>(lN.refs j hj).2) (λj hj=>(FX.refs j hj).2)];exact Cj2 (z:=[.slice none 0 0,.slice none 0 0,.bool false]) rfl) λGa aO Nk=>?_
 simp only [bR] at aO Nk
 have k6:∀ j,j<Hh->Ga.get j=Db.get j:=λj hj=>(Nk j (by omega)).trans (k5 j hj)
 have xO:=lN.keep (Ap:=Ga) λj hj=>Nk j (by have:=hj.1;omega)
 have rl6:=FX.keep (Ap:=Ga) λj hj=>Nk j (by have:=hj.1;omega)
 have k60:∀ j,j<n1->Ga.get j=es.hp.get j:=λj hj=>(k6 j (by omega)).trans (Cq.same j (by omega))
 have on6:=h0.n.keep (Ap:=Ga) λj hj=>hj.elim (λh=>k60 j h.1) λh=>k60 j (h0.nr j h).1
 have r6:RL rNode Ga (λj=>j<Hh/\j≠T/\j≠H) nd (S.vers.map S.node):=on6.rl.mono λj hj=>hj.elim (λh=>⟨by have:=h.1;omega,h.2.1,h.2.2.1⟩) λhj=>h2.nr j hj
 simp only [Am,↓An,J2 r6 b3]
 refine ⟨lJ aO rfl,?_⟩
 have hN:ps.headD 0=ps[0]:=by cases ps with
  | nil=>exact absurd rfl pN.1
  | cons q l=>rfl
 have pV:(ps.headD 0).toNat=n:=by rw [hN,VC];rfl
 have hr:rNode.rd Ga (Bw Dn Fm) [z4,z5,bv false] ⟨Tb (Gc [S.at n,c]),ps,false⟩:=rNode_rd.2 ⟨z4,z5,rfl,xO.mono λj hj=>⟨hj.1,by have:=hj.2;omega⟩,rl6.mono λj hj=>⟨by have:=hj.1;omega,hj.2⟩⟩
 have pX:(S.vers.map S.node).length=S.vers.length:=Dd ..
 refine Ge rfl (fL (R:=rNode) (p:=λj=>j<n1/\j≠T/\j≠H/\j∉nd.refs) (p2:=Bw Dn Fm) (d:=nd) (d2:=.ms (Hh+16) 0 1 3) (l:=S.vers.map S.node) (m:=[⟨Tb (Gc [S.at n,c]),ps,false⟩]) (by simp only [bR,bP]) on6 (by simp only [Dh,bR,bP];exact eK aO) ⟨_,A63 (R:=rNode) aO hr,Rows.one hr⟩ rfl rfl (by rw [Cc];omega) (by decide) λIj If h7=>?_)
 simp only [bR] at If h7
 have V2:=h2.th
 have o7:=h7 (λj=>(j<n1\/(es.nx<=j/\j<Fm))/\j≠T/\j≠H/\j∉nd.refs) λj hj=>by
  rcases hj with hj | hj
  .exact ⟨⟨.inl hj.1,hj.2⟩,by omega,hj.2.2.2⟩
  .have h1:=hj.1
   have D9:=hj.2
   have eY:j∉nd.refs:=λh=>by have:=(h2.nr j h).1;omega
   exact ⟨⟨.inr ⟨by omega,D9⟩,by omega,by omega,eY⟩,by omega,eY⟩
 have k7:∀ j,j<Hh->j∉nd.refs->Ij.get j=Db.get j:=λj hj qa=>(If j (by omega) qa).trans (k6 j hj)
 have hTn:T∉nd.refs:=λh=>(h2.nr T h).2.1 rfl
 have hHn:H∉nd.refs:=λh=>(h2.nr H h).2.2 rfl
 have PH:=(k7 T V2.2.1 hTn).trans hT
 obtain ⟨_,_,_,nH,_⟩:=o7.get
 simp only [Am,↓An,bP,↓vZ,Qv PH,Zs,vT (k:=3) PH,Il (n0:=Hh) (m:=21) PH V2.2.1]
 refine ⟨by omega,(tJ Ij Fm).2 ⟨by rw [nH];rfl,.inr (.inl (by omega))⟩,?_⟩
 refine Ge rfl (Pt (id:=T) (off:=3) (by simp only [bR]) PH (by simp only [Di,bR];exact eK nH) (bL _ _ _ _) (by simp) λLq Xv Vr=>?_)
 simp only [bR] at Xv Vr
 simp only [Am,↓An]
 have qz:∀ j∈dp.refs,j<Hh:=λj hj=>by (have:=(Ht.refs j hj).1;have:j<es.nx:=this);omega
 have fE:∀ off,∀ j∈(DV.pt es.nx off).refs,j<Hh:=λoff j hj=>by (have:j=es.nx:=by simpa [DV.refs] using hj);omega
 have sY:∀ off,∀ j∈(DV.pt T off).refs,j<Hh:=λoff j hj=>by (have:j=T:=by simpa [DV.refs] using hj);omega
 have hP:Rc Hh Db [⟨14,[13,12,9,11,5,8,7,6,10],Ho,Du⟩,⟨12,[9,11,5,8,7,6,10],He,Ho⟩,⟨9,[5,8,7,6],Db,He⟩]:=nO k4 k5 (nO k3 k4 (nO (λ_ _=>rfl) k3 XC))
 have ok:∀ {i:Nat} {an lo:List Nat} {c:Bool} {ws:List Look} {off:Nat},Oj Hh 21 ws _=true->Oj Hh 21 (Gj i an true c (DV.pt T off).refs Hh lo ws) _=true:=λh=>B20 h2 (Af _) hP h
 refine ⟨Cj1 (jC qz rfl (jC (fE _) rfl (jC (fE _) rfl (jC (sY _) rfl (jC (sY _) rfl (jC (sY _) rfl (jC (sY _) rfl (jC (sY _) rfl rfl)))))))) (Cj1 (jC qz rfl (jC (fE _) rfl (jC (fE _) rfl (jC (sY _) rfl (jC (sY _) rfl (jC (sY _) rfl (jC (sY _) rfl ?_))))))) (YT hP qz (nP (id:=es.nx) (λj hj=>by simpa [DV.refs] using hj) (by omega) (λq hq=>⟨((hP q hq).1 _ (by omega)).trans g2,((hP q hq).2 _ (by omega)).trans g2⟩) (AR.same r1 r2 r3) (YT hP (fE _) (ok (ok (ok (ok (ok rfl))))))))),?_⟩
 .exact nT (λj hj=>⟨sY _ j hj,λq hq=>.inr (.inr (by
   have qb:j=T:=by simpa [DV.refs] using hj
   rw [qb,Bk.1 hq,Ae (by simp)]
   simp [tD,PH,(k6 T V2.2.1).trans hT]))⟩) rfl
 generalize Um:DV.ms Fm 0 (S.vers.map S.node ++ [(⟨Tb (Gc [S.at n,c]),ps,false⟩:PNode)]).length rNode.e=Sk at *
 have W2:Lq.get T=some (.row _ [dd,aa,zz,Sk,.mp H]):=Xv
 have k8:∀ j,j<Hh->j≠T->j∉nd.refs->Lq.get j=Db.get j:=λj hj qb qa=>(Vr j qb).trans (k7 j hj qa)
 obtain ⟨ck,vV,hH,hM⟩:=h2.m
 have tx:=(k8 H V2.2.2 (λe=>V2.1 e.symm) hHn).trans hH
 have lT4:Hk Lq none (.pt T 4)=some (.mp H):=Qz W2 rfl
 have lT3:Hk Lq none (.pt T 3)=some Sk:=Qz W2 rfl
 have o8:=o7.keep (Ap:=Lq) λj hj=>Vr j (by
  rcases hj with hj | hj
  .exact hj.2.1
  .have:j=Fm:=by rw [<- Um] at hj;simpa [DV.refs] using hj
   omega)
 have NA:=o8.rl.len
 simp only [Am,bP,a0,a1,↓vZ,Qv W2,Zs,vT (k:=3) W2,vT (k:=4) W2,lT3,lT4,NA,Il (n0:=Fm+1) (m:=11) W2 (show T<Fm+1 by omega),Il (n0:=Fm+1) (m:=11) tx (show H<Fm+1 by omega)]
 have gQ:∀ j∈Sk.refs,j=Fm:=λj hj=>by rw [<- Um] at hj;simpa [DV.refs] using hj
 refine ⟨λj hj=>(tJ Lq j).2 ⟨(o8.rl.refs j hj).2,.inl (by have:=gQ j hj;omega)⟩,?_⟩
 refine Ge rfl (B22 (im:=H) (ck:=ck) (es':=vV) (hs:=S.heads) (s:=b) (n:=((S.vers.length+1:Nat):Int)) (by simp only [Dh,bR,bP,tH tx]) tx hM (by simp only [Dh,bR,bP,Sd]) (by simp only [Dh,bR,bP,Sd,Bp,Cc,pX]) λJg QN dM Pn OV Mm=>?_)
 simp only [bR] at Pn Mm
 have WH:Jg.get T=some (.row _ [dd,aa,zz,Sk,.mp H]):=(Mm T V2.1).trans W2
 have kh:Hk Jg none (.pt T 3)=some Sk:=Qz WH rfl
 have o9:=o8.keep (Ap:=Jg) λj hj=>Mm j (by
  rcases hj with hj | hj
  .exact hj.2.2.1
  .have:=gQ j hj;omega)
 have MZ:=o9.rl.len
 simp only [Am,↓An,bP,a0,↓fI,Qv WH,Zs,vT (k:=3) WH,kh,MZ,Bp,Cc,pX]
 have k9:∀ j,j<Hh->j≠T->j≠H->j∉nd.refs->Jg.get j=Db.get j:=λj h1 h2 h3 h4=>(Mm j h3).trans (k8 j h1 h2 h4)
 obtain ⟨d',a',zz',e1,rd0,ra0,rzz⟩:=h0.r
 rw [<- Cq.same T h.th.2.1,hT] at e1
 cases e1
 refine hK Jg (Fm+1+11) Sk ⟨by omega,λj hj h1 h2 h3=>(k9 j (by omega) h1 h2 h3).trans (Cq.same j hj)⟩ (λj hj=>by (have:=gQ j hj);omega) λoc nxF hnF qC=>?_
 have kk:∀ j,(j<n1/\j≠T/\j≠H/\j∉nd.refs)->oc.get j=es.hp.get j:=λj hj=>(qC j (.inl hj.1)).trans ((k9 j (by omega) hj.2.1 hj.2.2.1 hj.2.2.2).trans (Cq.same j (by omega)))
 have up:∀ j,(j<n1/\j≠T/\j≠H/\j∉nd.refs)->(j<nxF/\j≠T/\j≠H/\j∉Sk.refs):=λj hj=>⟨by have:=hj.1;omega,hj.2.1,hj.2.2.1,λh=>by (have:=gQ j h);have:=hj.1;omega⟩
 have hT0:=h0.th
 refine ⟨⟨V2.1,by omega,by omega⟩,⟨dd,aa,zz,(qC T (.inl hT0.2.1)).trans WH,(rd0.keep kk).mono up,(ra0.keep kk).mono up,(rzz.keep kk).mono up⟩,⟨QN,dM,(qC H (.inl hT0.2.2)).trans Pn,OV⟩,?_,λj hj=>by (have:=gQ j hj);omega,h.ok.add ⟨sV,Wb,rn⟩ uV hn pN.2⟩
 rw [PTree.nodes_add h.ok uV,pV]
 exact (o9.keep (Ap:=oc) λj hj=>qC j (hj.elim (λh=>h.1.imp id λh=>⟨h.1,by omega⟩) λh=>.inr (by (have:=gQ j h);omega))).mono λj hj=>⟨by (have:=hj.1);omega,hj.2.1,hj.2.2.1,λh=>by (have:=gQ j h);have:=hj.1;omega⟩
end
end Go.DD

/- Contracts: a branch is made. Conditions: those that each theorem states. -/
namespace Go.DD
open Go Go.Proofs Go.Sort
section
variable {call:Bf} {es:ES} {dst:Option Pa} {q:Hold (ES->Prop)}
theorem DN{Q:ES->Prop}{x:Operand} : SW (sU dst (Bc (.lnm x))) call es Q↔@Mv (sU dst (Bc (.lnm x))) call es ⟨Q⟩:=Dp
theorem Cq7{t im ck:Nat}{es':List ME}{hs:List (ByteArray×Int)}(e1:es.ds.ev (.tmp t)=.mp im)(hm:es.hp.get im=some (.mapo ck es'))(hk:Qh es' hs)
  (h:q.val (es.putE dst (iv (hs.length:Nat)))):Mv (sU dst (Bc (.lnm (.tmp t)))) call es:=by
 show SW _ _ _ _
 rw [sw_u,Hf]
 refine ⟨_,.keep,?_,h⟩
 simp only [Bb,e1]
 show (match es.hp.get im with
  | some (.mapo _ es)=>some (DV.v (.int .i64 es.length),Upd.keep)
  | _=>none)=_
 rw [hm]
 have:es'.length=hs.length:=by have:=Rh List.length hk;simpa using this
 simp only [this]
end
def PTree.head(S:PTree)(b:ByteArray)(v:Nat):PTree:={ S with heads:=Qa S.heads b (v:Nat) }
theorem PTree.OK.head{S:PTree}(h:S.OK){b:ByteArray}{v:Nat}(hv:1<=v/\v<=S.vers.length):(S.head b v).OK:=⟨h.c,h.z,h.p,h.n,h.l,λx hx=>by
 rcases A81 hx with h1 | h1
 .exact h.h x h1
 .have hl:(S.head b v).vers.length=S.vers.length:=rfl
  rw [h1];omega⟩
section
variable {hp:Tr DObj} {nx T H:Nat} {nd:DV} {S:PTree} (k:Nat) (K:DV->Tr DObj->Nat->Prop)
theorem B23(b:ByteArray)(v:Nat)(h:TreeAt hp nx T H nd S)(hb:Nr b=true)(bE:Nw S.heads b=none)(hv:1<=v/\v<=S.vers.length)(hh:S.heads.length<8)
  (hK:∀ Ap,(∀ j,j≠H->Ap.get j=hp.get j)->TreeAt Ap nx T H nd (S.head b v)->K (iv 0) Ap nx):KW (kN (k+3)) (.fn 28) [.pt T 0,sv b,iv (v:Nat)] hp nx K:=by
 refine Ds (Gb (by decide)) t28 (Ab rfl) λes e1 e2 he=>?_
 have a0:Ac es (.t .o)=.pt T 0:=he 0 _ rfl
 have a1:Ac es (.t (.l .o))=sv b:=he 1 _ rfl
 have a2:Ac es (.t (.r .o))=iv (v:Nat):=he 2 _ rfl
 unfold r28
 subst e1 e2
 obtain ⟨d,a,z,hT,⟨f0,f3,f4,f1⟩,⟨l0,l1,l3,l4⟩,_⟩:=h.ld
 obtain ⟨ck,vV,hH,hM⟩:=h.m
 simp only [Am,↓An,a0]
 refine Dt (bS (k+1) _ h ?_)
 simp only [Am,↓An,a1]
 refine Dt (Be4 (k+1) _ _ _ b ?_)
 simp only [Am,↓An,bP,a0,a1,hb,↓fI,Qv hT,Zs,f4,l4,↓wQ]
 refine B21 (im:=H) (ck:=ck) (es':=vV) (hs:=S.heads) (s:=b) (by simp only [Dh,bR,bP,tH hH]) hH hM (by simp only [Dh,bR,bP,Sd]) ?_
 rw [bE]
 have x0:Fg es.hp (.tup [iv ((none:Option Int).getD 0),bv (none:Option Int).isSome]) 0=some (iv 0):=rfl
 have x1:Fg es.hp (.tup [iv ((none:Option Int).getD 0),bv (none:Option Int).isSome]) 1=some (bv false):=rfl
 simp only [Am,↓An,x0,x1,a0,a2]
 refine Dt (A35 k _ v h hv ?_)
 simp only [Am,↓An,bP,a0,↓fI,Qv hT,Zs,f4,l4,↓DN]
 refine Cq7 (im:=H) (ck:=ck) (es':=vV) (hs:=S.heads) (by simp only [Dh,bR,bP,tH hH]) hH hM ?_
 simp only [Am,↓An,bP,a0,a1,a2,↓fI,Qv hT,Zs,f4,l4,show decide ((8:Int)<=(S.heads.length:Int))=false from Ad (by omega)]
 refine B22 (im:=H) (ck:=ck) (es':=vV) (hs:=S.heads) (s:=b) (n:=(v:Nat)) (by simp only [Dh,bR,bP,tH hH]) hH hM (by simp only [Dh,bR,bP,Sd]) (by simp only [Dh,bR,bP,Sd]) λJg QN dM Pn OV Mm=>?_
 simp only [bR] at Pn Mm
 simp only [Am,↓An,bP]
 obtain ⟨d',a',zz',e1,r1,r2,r3⟩:=h.r
 have kk:∀ j,(j<es.nx/\j≠T/\j≠H/\j∉nd.refs)->Jg.get j=es.hp.get j:=λj hj=>Mm j hj.2.2.1
 exact hK Jg Mm ⟨h.th,⟨d',a',zz',(Mm T h.th.1).trans e1,r1.keep kk,r2.keep kk,r3.keep kk⟩,⟨QN,dM,Pn,OV⟩,h.n.keep λj hj=>hj.elim (kk j) λhj=>Mm j (h.nr j hj).2.2,h.nr,h.ok.head hv⟩
end
end Go.DD

/- Contracts: the ancestors of a version. Conditions: those that each theorem states. -/
namespace Go.DD
open Go Go.Proofs Go.Sort
def Ui(o:List Bool):List Int->List Bool
 | []=>o
 | p::l=>Ui (o.set p.toNat true) l
def Yu(S:PTree)(i:Nat):List Int:=match S.vers[i]? with
 | some x=>x.par
 | none=>[]
def mS(S:PTree):Nat->List Bool->List Bool
 | 0,o=>o
 | i+1,o=>mS S i (if o[i+1]?=some true then Ui o (Yu S i) else o)
def aT(S:PTree)(v:Nat):List Bool:=mS S v ((List.replicate (S.vers.length+1) false).set v true)
theorem Bc5:∀ {l:List Int} {o:List Bool},(Ui o l).length=o.length
 | [],_=>rfl
 | _::l,_=>(Bc5 (l:=l)).trans (Xq ..)
theorem ancF_len{S:PTree} : ∀ {i:Nat} {o:List Bool},(mS S i o).length=o.length
 | 0,_=>rfl
 | i+1,o=>(ancF_len (i:=i)).trans (by split <;> simp [Bc5])
theorem B24{S:PTree}{v:Nat} : (aT S v).length=S.vers.length+1:=ancF_len.trans (by simp)
section
variable {call:Bf} {es:ES} {dst:Option Pa} {q:Hold (ES->Prop)}
theorem B98{x y:Operand}{n:Nat}(hx:es.ds.ev x=iv n)(hy:es.ds.ev y=iv n)(hn:n<=65536)
  (h:∀ Ap,Ap.get es.nx=some (.row 4 ((List.replicate n false).map bv))->(∀ j,j≠es.nx->Ap.get j=es.hp.get j)->q.val ((ES.mk es.sl Ap (es.nx+1)).putE dst (.ms es.nx 0 n 1))):Mv (sU dst (Bc (.mks 4 1 1 [.bool false] x y))) call es:=by
 show SW _ _ _ _
 rw [sw_u,Hf]
 have e:(List.replicate n ([Value.bool false].map DV.v)).flatten=(List.replicate n false).map bv:=by
  clear h hx hy hn
  induction n with
  | zero=>rfl
  | succ n ih=>rw [Ja,List.flatten_cons,ih];rfl
 refine ⟨.ms es.nx 0 n 1,.lay (.row 4 ((List.replicate n false).map bv)),?_,?_⟩
 .simp only [Bb,hx,hy,iv,Mx]
  rw [Ah ⟨by omega,by omega,by omega,by omega,rfl,by omega⟩,Fy,e]
 .exact h (es.up (.lay (.row 4 ((List.replicate n false).map bv)))).hp (by rw [fK,get_set,Ah rfl]) λj hj=>by rw [fK,get_set,Ae hj]
end
theorem Za{hp:Tr DObj}{id n i:Nat}{o:DObj}(h:hp.get id=some o)(hi:i<n):Ms hp 1 (.ms id 0 n 1) (.v (.int .i64 (i:Int)))=some (.pt id i):=by
 have:=KJ (off:=0) (e:=1) h hi
 rw [Zv,Er] at this
 exact this
theorem O3{hp:Tr DObj}{id i:Nat}{o:List Bool}(h:hp.get id=some (.row 4 (o.map bv)))(hi:i<o.length):Hk hp none (.pt id i)=some (bv o[i]):=Qz h (by rw [Df,Aa hi];rfl)
section
variable {hp:Tr DObj} {nx T H:Nat} {nd:DV} {S:PTree} (k:Nat) (K:DV->Tr DObj->Nat->Prop)
theorem Cj4(v:Nat)(h:TreeAt hp nx T H nd S)(hv:1<=v/\v<=S.vers.length)(hK:∀ Ap,Al hp nx Ap (nx+1)->Ap.get nx=some (.row 4 ((aT S v).map bv))->K (.ms nx 0 (S.vers.length+1) 1) Ap (nx+1)):KW (kN (k+2)) (.fn 143) [.pt T 0,iv (v:Nat)] hp nx K:=by
 refine Ds (Gb (by decide)) ct (Ab rfl) λes e1 e2 he=>?_
 have a0:Ac es (.t .o)=.pt T 0:=he 0 _ rfl
 have a1:Ac es (.t (.l .o))=iv (v:Nat):=he 1 _ rfl
 unfold HS
 subst e1 e2
 obtain ⟨d,a,z,hT,⟨_,f3,_,_⟩,⟨_,_,l3,_⟩,_⟩:=h.ld
 have r:=h.nl
 have hlen:Qp es.hp nd=some (.v (.int .i64 (S.vers.length:Int))):=by rw [r.len,Dd]
 have MR:=h.ok.n
 simp only [Am,↓An,bP,a0,↓fI,Qv hT,Zs,f3,l3,hlen,Hn (show S.vers.length<_ by omega),↓Cg0]
 refine B98 (n:=S.vers.length+1) (by simp only [Dh,bR,bP,Sd]) (by simp only [Dh,bR,bP,Sd]) (by omega) λDv Dc Cr=>?_
 simp only [bR] at Dc Cr
 simp only [Am,↓An,a1,Za Dc (show v<S.vers.length+1 by omega)]
 refine Pt (id:=es.nx) (off:=v) (v:=bv true) (by simp only [bR]) Dc (by rfl) ⟨rfl,rfl⟩ (by rw [Dd,List.length_replicate];omega) λDb Gv Fj=>?_
 simp only [bR] at Gv Fj
 rw [<- List.map_set] at Gv
 have Zr:Al es.hp es.nx Db (es.nx+1):=⟨by omega,λj hj=>by rw [Fj j (by omega),Cr j (by omega)]⟩
 simp only [Am,↓An,a1]
 refine EW.up v (λj es1=>∃ o:List Bool,o.length=S.vers.length+1/\mS S (v-j) o=aT S v/\Al es.hp es.nx es1.hp es1.nx/\es1.nx=es.nx+1/\es1.hp.get es.nx=some (.row 4 (o.map bv))/\Ac es1 (.t .o)=.pt T 0/\Ac es1 (.t (.l (.r .o)))=.ms es.nx 0 (S.vers.length+1) 1/\Ac es1 (.t (.r (.r .o)))=iv ((v-j:Nat):Int)) ?_ ⟨_,by simp,rfl,Zr,rfl,Gv,by simp only [bR,a0],by simp only [bR],by simp only [bR];rfl⟩ (by omega)
 rintro j es1 hj ⟨o,ho,hf,g,gn,gr,b0,b5,b6⟩
 unfold Ci9
 obtain ⟨i,hi⟩:∃ i,i=v-j:=⟨_,rfl⟩
 rw [<- hi] at hf b6
 have h1:=h.keep g
 have h2:=h.keep (Ap:=es1.hp) (Ba:=es.nx) ⟨Af _,g.same⟩
 cases i with
 | zero=>
  simp only [Am,↓An,bP,b5,b6,show decide ((0:Int)<0)=false from rfl,eK gr]
  have e:=hK es1.hp (gn ▸ g) (by rw [gr,<- hf];rfl)
  rw [gn]
  exact e
 | succ i=>
  have Sa:i+1<S.vers.length+1:=by omega
  have qc:i+1<o.length:=by omega
  have ia:=Za (i:=i+1) gr Sa
  have ld:=O3 gr qc
  by_cases hb:o[i+1]=true
  .rw [hb] at ld
   simp only [Am,↓An,b0,b5,b6,show decide ((0:Int)<((i+1:Nat):Int))=true from Ai (by omega),ia,ld]
   refine Dt (RN k _ (i+1) h1 ⟨by omega,by omega⟩ ?_)
   obtain ⟨h0,a',b',_,_,rb,⟨lv,nc⟩,⟨_,f1,_⟩,_,l1,_⟩:=h2.ver (v:=i+1) ⟨by omega,by omega⟩
   have AH:=h.ok.l _ (Bd h0)
   have Tt:Yu S i=S.vers[i+1-1].par:=by
    unfold Yu
    rw [Aa (by omega)];rfl
   generalize S.vers[i+1-1].par=ps at Tt rb AH
   simp only [Am,↓An,bP,↓fI,lv,nc,f1,l1,rb.len]
   have uV:∀ q∈ps,1<=q/\q<=(i:Nat):=λq hq=>h.ok.p i h0 q (by
    unfold Yu at Tt
    rw [Aa (show i<S.vers.length by omega)] at Tt
    rw [show S.vers[i].par=ps from Tt];exact hq)
   refine EW.up ps.length (λt By=>∃ o2:List Bool,o2.length=S.vers.length+1/\Ui o2 (ps.drop t)=Ui o ps/\Al es.hp es.nx By.hp By.nx/\By.nx=es.nx+1/\By.hp.get es.nx=some (.row 4 (o2.map bv))/\RL rInt By.hp (λj=>j<es.nx) b' ps/\Ac By (.t .o)=.pt T 0/\Ac By (.t (.l (.r .o)))=.ms es.nx 0 (S.vers.length+1) 1/\Ac By (.t (.r (.r .o)))=iv ((i+1:Nat):Int)/\Ac By (.t (.l (.r (.l (.l (.l .o))))))=b'/\Ac By (.t (.r (.r (.l (.l (.l .o))))))=iv (ps.length:Nat)/\Ac By (.t (.l (.l (.r (.l (.l .o))))))=iv (t:Nat)) ?_ ⟨o,ho,rfl,g,gn,gr,rb.mono λj hj=>hj.1,by simp only [bR,b0],by simp only [bR,b5],by simp only [bR,b6],by simp only [bR],by simp only [bR],by simp only [bR];rfl⟩ (by omega)
   rintro t By ht ⟨o2,jV,VM,g2,gn2,tj,M1,c0,c5,c6,c33,yf,ye⟩
   unfold Ci8
   by_cases A6:t<ps.length
   .obtain ⟨n,hn⟩:=Vg (show 0<=ps[t] by have:=uV _ (Bd A6);omega)
    have bC:=uV _ (Bd A6)
    have hd:ps.drop t=(n:Int)::ps.drop (t+1):=by rw [As A6,hn]
    have ia2:Ms By.hp 1 b' (.v (.int .i64 (t:Int)))=some (Cf 1 b' t):=M1.ia A6
    have li2:=ints_at M1 A6
    rw [hn] at li2 bC
    simp only [Am,↓An,c5,c33,yf,ye,A6,ia2,li2,Za tj (show n<S.vers.length+1 by omega)]
    refine Pt (id:=es.nx) (off:=n) (v:=bv true) (by simp only [bR]) tj (by rfl) ⟨rfl,rfl⟩ (by rw [Dd];omega) λHe Lx Jh=>?_
    simp only [bR] at Lx Jh
    rw [<- List.map_set] at Lx
    simp only [Am,↓An,c0,c5,c6,c33,yf,ye,Hn (show t<_ by omega)]
    exact ⟨A6,o2.set n true,by simp [jV],by rw [<- VM,hd];rfl,⟨g2.le,λj hj=>by rw [Jh j (by omega),g2.same j hj]⟩,gn2,Lx,M1.keep λj hj=>Jh j (by omega)⟩
   .have hf3:o2=Ui o ps:=by
     rw [<- VM,Av (by omega)];rfl
    simp only [Am,↓An,c0,c5,c6,yf,ye,A6,Xn (i+1) (by omega) (by omega)]
    refine ⟨by omega,o2,jV,?_,g2,gn2,tj,by rw [show i+1-1=v-(j+1) by omega]⟩
    rw [show v-(j+1)=i by omega,<- hf,hf3,<- Tt]
    show _=mS S i (if o[i+1]?=some true then Ui o (Yu S i) else o)
    rw [Aa qc,hb,Ah rfl]
  .have hbf:o[i+1]=false:=by simpa using hb
   rw [hbf] at ld
   simp only [Am,↓An,b0,b5,b6,show decide ((0:Int)<((i+1:Nat):Int))=true from Ai (by omega),ia,ld,Xn (i+1) (by omega) (by omega)]
   refine ⟨by omega,o,ho,?_,g,gn,gr,by rw [show i+1-1=v-(j+1) by omega]⟩
   rw [show v-(j+1)=i by omega,<- hf]
   show _=mS S i (if o[i+1]?=some true then Ui o (Yu S i) else o)
   rw [Aa qc,hbf,Ae (by simp)]
end
def eE(x y:List Bool):Nat->Nat
 | 0=>0
 | v+1=>if x[v+1]?=some true/\y[v+1]?=some true then v+1 else eE x y v
def Pg(S:PTree)(a b:Nat):Nat:=eE (aT S a) (aT S b) (min a b)
section
variable {hp:Tr DObj} {nx T H:Nat} {nd:DV} {S:PTree} (k:Nat) (K:DV->Tr DObj->Nat->Prop)
theorem Cq8(a b:Nat)(h:TreeAt hp nx T H nd S)(ha:1<=a/\a<=S.vers.length)(hb:1<=b/\b<=S.vers.length)(hz:Pg S a b≠0)(hK:∀ Ap Ba,Al hp nx Ap Ba->K (iv (Pg S a b:Nat)) Ap Ba):KW (kN (k+3)) (.fn 87) [.pt T 0,iv (a:Nat),iv (b:Nat)] hp nx K:=by
 refine Ds (Gb (by decide)) t87 (Ab rfl) λes e1 e2 he=>?_
 have a0:Ac es (.t .o)=.pt T 0:=he 0 _ rfl
 have a1:Ac es (.t (.l .o))=iv (a:Nat):=he 1 _ rfl
 have a2:Ac es (.t (.r .o))=iv (b:Nat):=he 2 _ rfl
 unfold r87
 subst e1 e2
 have MR:=h.ok.n
 simp only [Am,↓An,a0,a1]
 refine Dt (Cj4 k _ a h ha λDv aU g1=>?_)
 simp only [Am,↓An,a0,a2]
 refine Dt (Cj4 k _ b (h.keep aU) hb λDb Zr g2=>?_)
 have g12:=(Zr.same es.nx (by omega)).trans g1
 simp only [Am,↓An,bP,a1,a2,Cd5]
 refine EW.up (min a b) (λj es1=>Al es.hp es.nx es1.hp es1.nx/\es1.hp.get es.nx=some (.row 4 ((aT S a).map bv))/\es1.hp.get (es.nx+1)=some (.row 4 ((aT S b).map bv))/\eE (aT S a) (aT S b) (min a b-j)=Pg S a b/\Ac es1 (.t (.l (.l (.l .o))))=.ms es.nx 0 (S.vers.length+1) 1/\Ac es1 (.t (.r (.l (.l .o))))=.ms (es.nx+1) 0 (S.vers.length+1) 1/\Ac es1 (.t (.l (.r (.l .o))))=iv ((min a b-j:Nat):Int)) ?_ ⟨aU.trans Zr,g12,g2,rfl,by simp only [bR],by simp only [bR],by simp only [bR];show DV.v _=DV.v _;congr 2;omega⟩ (by omega)
 rintro j es1 hj ⟨g,r1,r2,OF,b7,b8,b9⟩
 unfold yW
 obtain ⟨i,hi⟩:∃ i,i=min a b-j:=⟨_,rfl⟩
 rw [<- hi] at OF b9
 cases i with
 | zero=>exact absurd OF.symm hz
 | succ i=>
  have l1:i+1<(aT S a).length:=by rw [B24];omega
  have l2:i+1<(aT S b).length:=by rw [B24];omega
  have i1:=Za (n:=S.vers.length+1) (i:=i+1) r1 (by omega)
  have i2:=Za (n:=S.vers.length+1) (i:=i+1) r2 (by omega)
  have d1:=O3 r1 l1
  have d2:=O3 r2 l2
  have hF:eE (aT S a) (aT S b) (i+1)=if (aT S a)[i+1]?=some true/\(aT S b)[i+1]?=some true then i+1 else eE (aT S a) (aT S b) i:=rfl
  rw [Aa l1,Aa l2] at hF
  cases c1:(aT S a)[i+1] with
  | true=>
   rw [c1] at d1 hF
   cases c2:(aT S b)[i+1] with
   | true=>
    rw [c2] at d2 hF
    rw [Ah ⟨rfl,rfl⟩] at hF
    simp only [Am,↓An,bP,b7,b8,b9,i1,i2,d1,d2]
    rw [OF.symm.trans hF] at hK
    exact hK _ _ g
   | false=>
    rw [c2] at d2 hF
    rw [Ae (by simp)] at hF
    simp only [Am,↓An,b7,b8,b9,i1,i2,d1,d2,Xn (i+1) (by omega) (by omega)]
    refine ⟨by omega,g,r1,r2,?_,by rw [show i+1-1=min a b-(j+1) by omega]⟩
    rw [show min a b-(j+1)=i by omega,<- hF,OF]
  | false=>
   rw [c1] at d1 hF
   rw [Ae (by simp)] at hF
   simp only [Am,↓An,b7,b8,b9,i1,d1,Xn (i+1) (by omega) (by omega)]
   refine ⟨by omega,g,r1,r2,?_,by rw [show i+1-1=min a b-(j+1) by omega]⟩
   rw [show min a b-(j+1)=i by omega,<- hF,OF]
end
end Go.DD

/- Contracts: a version is given. Conditions: those that each theorem states. -/
namespace Go.DD
open Go Go.Proofs Go.Sort
section
variable {hp:Tr DObj} {nx T H:Nat} {nd:DV} {S:PTree} (k:Nat) (K:DV->Tr DObj->Nat->Prop)
theorem Cj5(f v:Nat)(h:TreeAt hp nx T H nd S)(hv:1<=v/\v<=S.vers.length)(hf:v<=f)
  (hK:∀ Ap Ba d',Al hp nx Ap Ba->AR Ap (Bw nx Ba) d' ⟨S.dims,S.attrs,S.at v⟩->AOw Ap d'->K (.tup [d',iv 0]) Ap Ba):KW (kN (k+f+18)) (.fn 31) [.pt T 0,iv (v:Nat)] hp nx K:=by
 refine jP (Gb (by decide)) t31 (Ab rfl) λes e1 e2 he=>?_
 have a0:Ac es (.t .o)=.pt T 0:=he 0 _ rfl
 have a1:Ac es (.t (.l .o))=iv (v:Nat):=he 1 _ rfl
 unfold r31
 subst e1 e2
 simp only [↓An]
 refine Oe λDv Dc Cr=>?_
 simp only [bR] at Dc Cr
 have aU:Al es.hp es.nx Dv (es.nx+1):=⟨by omega,λj hj=>Cr j (by omega)⟩
 have h1:=h.keep aU
 simp only [Am,↓An,a0]
 refine Dt (bS (k+f+16) _ h1 ?_)
 simp only [Am,↓An,a0,a1]
 refine Dt (A35 (k+f+15) _ v h1 hv ?_)
 simp only [Am,↓An,a0,a1]
 refine Dt (SC k _ f v h1 hv.2 hf λGa Ih d6 Rw Rv aI=>?_)
 have Jr:=Rw.le
 obtain ⟨dd,da,Sb,rfl,v1,v2,v3⟩:=Rv
 have x0:=Qf (e:=0) v1 v2 v3
 have x1:Fg Ga (.tup [.agg [dd,da,Sb],iv 0]) 1=some (iv 0):=Mo
 have W3:=(Rw.same es.nx (by omega)).trans Dc
 simp only [Am,↓An,x0,x1]
 refine Oi (n:=3) (id:=es.nx) (ds:=[dd,da,Sb]) (by simp only [bR]) W3 (by simp only [Di,bR];exact AR.live (x:=⟨S.dims,S.attrs,S.at v⟩) v1 v2 v3) rfl rfl λIj Mt If=>?_
 simp only [bR] at Mt If
 have up:∀ j,Bw (es.nx+1) Ih j->Bw es.nx Ih j:=λj hj=>⟨by have:=hj.1;omega,hj.2⟩
 have kp:∀ j,Bw (es.nx+1) Ih j->Ij.get j=Ga.get j:=λj hj=>If j (by have:=hj.1;omega)
 simp only [Am,↓An]
 exact ⟨_,_,sE (by simp only [bR,bP]) Mt rfl,by rw [X8];simp only [bR,bP,Sd],hK _ _ _ ⟨by omega,λj hj=>(If j (by omega)).trans ((Rw.same j (by omega)).trans (aU.same j hj))⟩ ⟨dd,da,Sb,rfl,(v1.keep kp).mono up,(v2.keep kp).mono up,(v3.keep kp).mono up⟩ (.of ((aI _ _ _ rfl).keep λj hj=>kp j (v3.refs j hj).1))⟩
end
end Go.DD

/- VersionMerges returns true: as a contract. Conditions: none. -/
namespace Go.DD
set_option linter.unusedSectionVars false
set_option linter.unusedVariables false
open Go Go.Proofs
theorem PV{hp:Tr DObj}{p q:Nat->Prop}{x1 x2 x3 p1:DV}{X:PArr}{l:List Int}{e:Int}(v1:RL rDim hp p x1 X.dims)(v2:RL rAttr hp p x2 X.attrs)(v3:RL rCell hp p x3 X.cells)(h:RL rInt hp q p1 l):Fg hp (.tup [.agg [x1,x2,x3],p1,iv e]) 0=some (.agg [x1,x2,x3])/\Fg hp (.tup [.agg [x1,x2,x3],p1,iv e]) 1=some p1/\Fg hp (.tup [.agg [x1,x2,x3],p1,iv e]) 2=some (iv e):=by
 have hl:∀ id∈(DV.tup [.agg [x1,x2,x3],p1,iv e]).refs,(hp.get id).isSome=true:=λid hid=>by
  have:id∈x1.refs\/id∈x2.refs\/id∈x3.refs\/id∈p1.refs:=by simpa [DV.refs,DV.refsL,iv] using hid
  rcases this with h1 | h1 | h1 | h1
  .exact (v1.refs id h1).2
  .exact (v2.refs id h1).2
  .exact (v3.refs id h1).2
  .exact (h.refs id h1).2
 exact ⟨tG hl,tG hl,tG hl⟩
end Go.DD

/- Contracts: the steps of a merge. Conditions: those that each theorem states. -/
namespace Go.DD
open Go Go.Proofs Go.Sort
def BF(hp:Tr DObj)(n e:Nat)(x i:DV):Option DV:=match i with
 | .v (.int _ j)=>match x with
  | .ia cs=>if 0<=j/\j<n then some (.ia (cs.drop (j.toNat*e))) else none
  | .pt id off=>if fH hp id=true/\0<=j/\j<n then some (.pt id (off+j.toNat*e)) else none
  | _=>none
 | _=>none
theorem tM(n es':Nat)(x i:EO)(es:ES):tP n es' x i es=BF es.hp n es' (Ac es x) (Ac es i):=by
 unfold tP BF
 cases Ac es i with
 | v a=>
  cases a with
  | int k j=>
   show iU (Ac es x) _ _ _=_
   cases Ac es x with
   | ia cs=>show rY j n (λm=>some (DV.ia (Jv (m*es') cs))) none=_;rw [XG];simp only [fP]
   | pt id off=>
    show Fo (Pu (gN es.hp id)) (rY j n (λm=>Zu (off+m*es') λo=>some (DV.pt id o)) none) none=_
    rw [Ry,nX,Ju,XG]
    simp only [aW,fH]
    by_cases h1:(es.hp.get id).isSome=true <;> by_cases h2:0<=j/\j<n <;> simp [h1,h2]
   | _=>rfl
  | _=>rfl
 | _=>rfl
theorem WJ{hp:Tr DObj}{id:Nat}{o:DObj}(h:hp.get id=some o):BF hp 3 3 (.pt id 0) (.v (.int .i64 0))=some (.pt id 0)/\BF hp 3 3 (.pt id 0) (.v (.int .i64 1))=some (.pt id 3)/\BF hp 3 3 (.pt id 0) (.v (.int .i64 2))=some (.pt id 6):=by
 refine ⟨?_,?_,?_⟩ <;> (unfold BF fH;simp only [h];rfl)
theorem B25{call:Bf}{es:ES}{dst:Option Pa}{q:Hold (ES->Prop)}{n:Nat}{a x:EO}{id off T:Nat}{ds cs:List DV}(ea:Ac es a=.pt id off)(hg:es.hp.get id=some (.row T cs))(ev:Mz es x=.agg ds)(h2:ds.length=n)(h3:off+n<=cs.length)
  (h:∀ Ap,Ap.get id=some (.row T (cs.take off++ds++cs.drop (off+n)))->(∀ j,j≠id->Ap.get j=es.hp.get j)->q.val ((ES.mk es.sl Ap es.nx).putE dst .any)) :
  Mv (sU dst (Ej n a x)) call es:=by
 show SW _ _ _ _
 rw [jJ,ea,jK,hg,ev,tU id off n (.agg ds) T cs rfl h2 h3,I9]
 exact h (es.up (.wr id (.row T (cs.take off++DV.cells (.agg ds)++cs.drop (off+n))))).hp (by rw [Mk,get_set,Ah rfl];rfl) λj hj=>by rw [Mk,get_set,Ae hj]
section
variable {hp:Tr DObj} {nx T H:Nat} {nd:DV} {S:PTree} (k:Nat) (K:DV->Tr DObj->Nat->Prop)
theorem C01(f v Tc B X U1 U2 U3:Nat)(cs:List DV)(h:TreeAt hp nx T H nd S)(hv:v<=S.vers.length)(hf:v<=f)(hX:X<nx)(g1:hp.get Tc=some (.row U1 [.pt T 0]))(g2:hp.get B=some (.row U2 [iv (v:Nat)]))(g3:hp.get X=some (.row U3 cs))(fD:cs.length=9)
  (hK:∀ Ap Ba d a c,nx<=Ba->(∀ j,j<nx->j≠X->Ap.get j=hp.get j)->Ap.get X=some (.row U3 (cs.take 0 ++ [d,a,c]++cs.drop 3))->AR Ap (Bw nx Ba) (.agg [d,a,c]) ⟨S.dims,S.attrs,S.at v⟩->K (iv 0) Ap Ba):KW (kN (k+f+18)) (.fn 88) [.pt Tc 0,.pt B 0,.pt X 0] hp nx K:=by
 refine Ds (Gb (by decide)) t88 (Ab rfl) λes e1 e2 he=>?_
 have a0:Ac es (.t .o)=.pt Tc 0:=he 0 _ rfl
 have a1:Ac es (.t (.l .o))=.pt B 0:=he 1 _ rfl
 have a2:Ac es (.t (.r .o))=.pt X 0:=he 2 _ rfl
 unfold r88
 subst e1 e2
 obtain ⟨d0,XA,z0,hT,_⟩:=h.ld
 simp only [Am,↓An,a0,a1,Of g1,Of g2]
 refine Dt (SC k _ f v h hv hf λGa Ih d6 Rw Rv aI=>?_)
 have Jr:=Rw.le
 obtain ⟨d,a,c,rfl,v1,v2,v3⟩:=Rv
 have x0:=Qf (e:=0) v1 v2 v3
 have x1:Fg Ga (.tup [.agg [d,a,c],iv 0]) 1=some (iv 0):=Mo
 have g6:=(Rw.same X hX).trans g3
 simp only [Am,↓An,x0,x1,a2,tM,WJ g6]
 refine B25 (id:=X) (off:=0) (ds:=[d,a,c]) (by simp only [bR]) g6 (by simp only [Di,bR];exact AR.live (x:=⟨S.dims,S.attrs,S.at v⟩) v1 v2 v3) rfl (by omega) λIj Mt If=>?_
 simp only [bR] at Mt If
 simp only [Am,↓An,bP]
 have kp:∀ j,Bw es.nx Ih j->Ij.get j=Ga.get j:=λj hj=>If j (by have:=hj.1;omega)
 exact hK _ _ d a c Jr (λj h1 h2=>(If j h2).trans (Rw.same j h1)) Mt ⟨d,a,c,rfl,v1.keep kp,v2.keep kp,v3.keep kp⟩
theorem C02(f v Tc B X U1 U2 U3:Nat)(cs:List DV)(h:TreeAt hp nx T H nd S)(hv:v<=S.vers.length)(hf:v<=f)(hX:X<nx)(g1:hp.get Tc=some (.row U1 [.pt T 0]))(g2:hp.get B=some (.row U2 [iv (v:Nat)]))(g3:hp.get X=some (.row U3 cs))(fD:cs.length=9)
  (hK:∀ Ap Ba d a c,nx<=Ba->(∀ j,j<nx->j≠X->Ap.get j=hp.get j)->Ap.get X=some (.row U3 (cs.take 3 ++ [d,a,c]++cs.drop 6))->AR Ap (Bw nx Ba) (.agg [d,a,c]) ⟨S.dims,S.attrs,S.at v⟩->K (iv 0) Ap Ba):KW (kN (k+f+18)) (.fn 89) [.pt Tc 0,.pt B 0,.pt X 0] hp nx K:=by
 refine Ds (Gb (by decide)) t89 (Ab rfl) λes e1 e2 he=>?_
 have a0:Ac es (.t .o)=.pt Tc 0:=he 0 _ rfl
 have a1:Ac es (.t (.l .o))=.pt B 0:=he 1 _ rfl
 have a2:Ac es (.t (.r .o))=.pt X 0:=he 2 _ rfl
 unfold r89
 subst e1 e2
 obtain ⟨d0,XA,z0,hT,_⟩:=h.ld
 simp only [Am,↓An,a0,a1,Of g1,Of g2]
 refine Dt (SC k _ f v h hv hf λGa Ih d6 Rw Rv aI=>?_)
 have Jr:=Rw.le
 obtain ⟨d,a,c,rfl,v1,v2,v3⟩:=Rv
 have x0:=Qf (e:=0) v1 v2 v3
 have x1:Fg Ga (.tup [.agg [d,a,c],iv 0]) 1=some (iv 0):=Mo
 have g6:=(Rw.same X hX).trans g3
 simp only [Am,↓An,x0,x1,a2,tM,WJ g6]
 refine B25 (id:=X) (off:=3) (ds:=[d,a,c]) (by simp only [bR]) g6 (by simp only [Di,bR];exact AR.live (x:=⟨S.dims,S.attrs,S.at v⟩) v1 v2 v3) rfl (by omega) λIj Mt If=>?_
 simp only [bR] at Mt If
 simp only [Am,↓An,bP]
 have kp:∀ j,Bw es.nx Ih j->Ij.get j=Ga.get j:=λj hj=>If j (by have:=hj.1;omega)
 exact hK _ _ d a c Jr (λj h1 h2=>(If j h2).trans (Rw.same j h1)) Mt ⟨d,a,c,rfl,v1.keep kp,v2.keep kp,v3.keep kp⟩
theorem C03(f v Tc B X U1 U2 U3:Nat)(cs:List DV)(h:TreeAt hp nx T H nd S)(hv:v<=S.vers.length)(hf:v<=f)(hX:X<nx)(g1:hp.get Tc=some (.row U1 [.pt T 0]))(g2:hp.get B=some (.row U2 [iv (v:Nat)]))(g3:hp.get X=some (.row U3 cs))(fD:cs.length=9)
  (hK:∀ Ap Ba d a c,nx<=Ba->(∀ j,j<nx->j≠X->Ap.get j=hp.get j)->Ap.get X=some (.row U3 (cs.take 6 ++ [d,a,c]++cs.drop 9))->AR Ap (Bw nx Ba) (.agg [d,a,c]) ⟨S.dims,S.attrs,S.at v⟩->K (iv 0) Ap Ba):KW (kN (k+f+18)) (.fn 90) [.pt Tc 0,.pt B 0,.pt X 0] hp nx K:=by
 refine Ds (Gb (by decide)) t90 (Ab rfl) λes e1 e2 he=>?_
 have a0:Ac es (.t .o)=.pt Tc 0:=he 0 _ rfl
 have a1:Ac es (.t (.l .o))=.pt B 0:=he 1 _ rfl
 have a2:Ac es (.t (.r .o))=.pt X 0:=he 2 _ rfl
 unfold r90
 subst e1 e2
 obtain ⟨d0,XA,z0,hT,_⟩:=h.ld
 simp only [Am,↓An,a0,a1,Of g1,Of g2]
 refine Dt (SC k _ f v h hv hf λGa Ih d6 Rw Rv aI=>?_)
 have Jr:=Rw.le
 obtain ⟨d,a,c,rfl,v1,v2,v3⟩:=Rv
 have x0:=Qf (e:=0) v1 v2 v3
 have x1:Fg Ga (.tup [.agg [d,a,c],iv 0]) 1=some (iv 0):=Mo
 have g6:=(Rw.same X hX).trans g3
 simp only [Am,↓An,x0,x1,a2,tM,WJ g6]
 refine B25 (id:=X) (off:=6) (ds:=[d,a,c]) (by simp only [bR]) g6 (by simp only [Di,bR];exact AR.live (x:=⟨S.dims,S.attrs,S.at v⟩) v1 v2 v3) rfl (by omega) λIj Mt If=>?_
 simp only [bR] at Mt If
 simp only [Am,↓An,bP]
 have kp:∀ j,Bw es.nx Ih j->Ij.get j=Ga.get j:=λj hj=>If j (by have:=hj.1;omega)
 exact hK _ _ d a c Jr (λj h1 h2=>(If j h2).trans (Rw.same j h1)) Mt ⟨d,a,c,rfl,v1.keep kp,v2.keep kp,v3.keep kp⟩
theorem C04(X A At UX UA Ut:Nat)(b x y:PArr)(d1 RF c1 d2 RE c2 d3 RD c3 q0:DV)(ds:List DV)(AU:ds.length=3)(Fb:X<nx/\A<nx/\At<nx)(Hu:At≠A)(gX:hp.get X=some (.row UX [d1,RF,c1,d2,RE,c2,d3,RD,c3]))(gA:hp.get A=some (.row UA ds))(gt:hp.get At=some (.row Ut [q0]))(h1:AR hp (Bl nx) (.agg [d1,RF,c1]) b)(h2:AR hp (Bl nx) (.agg [d2,RE,c2]) x)(h3:AR hp (Bl nx) (.agg [d3,RD,c3]) y)(hb:AOK b)(hx:AOK x)(hy:AOK y)(hc:b.cells.length+x.cells.length+y.cells.length<=256)
  (hK:∀ Ap Ba d a c q',nx<=Ba->(∀ j,j<nx->j≠A->j≠At->Ap.get j=hp.get j)->Ap.get A=some (.row UA [d,a,c])->Ap.get At=some (.row Ut [q'])->AR Ap (Bw nx Ba) (.agg [d,a,c]) (bF b x y)->RL rInt Ap (Bw nx Ba) q' (I2 b x y)->K (iv (Rf b x y)) Ap Ba):KW (kN (k+20)) (.fn 91) [.pt X 0,.pt A 0,.pt At 0] hp nx K:=by
 refine Ds (Gb (by decide)) t91 (Ab rfl) λes e1 e2 he=>?_
 have a0:Ac es (.t .o)=.pt X 0:=he 0 _ rfl
 have a1:Ac es (.t (.l .o))=.pt A 0:=he 1 _ rfl
 have a2:Ac es (.t (.r .o))=.pt At 0:=he 2 _ rfl
 unfold r91
 subst e1 e2
 have l0:Hk es.hp (some 3) (.pt X 0)=some (.agg [d1,RF,c1]):=by rw [Nt gX];rfl
 have l3:Hk es.hp (some 3) (.pt X 3)=some (.agg [d2,RE,c2]):=by rw [Nt gX];rfl
 have l6:Hk es.hp (some 3) (.pt X 6)=some (.agg [d3,RD,c3]):=by rw [Nt gX];rfl
 simp only [Am,↓An,a0,tM,WJ gX,l0,l3,l6]
 refine Dt (B82 k es.nx _ _ _ _ _ _ b x y (Af _) h1 h2 h3 hb hx hy hc λGa Ih d6 p6 Rw Rv Q0=>?_)
 have Jr:=Rw.le
 obtain ⟨d,a,c,rfl,v1,v2,v3⟩:=Rv
 obtain ⟨y0,y1,y2⟩:=PV (e:=Rf b x y) v1 v2 v3 Q0
 have g6:=(Rw.same A Fb.2.1).trans gA
 simp only [Am,↓An,y0,y1,y2]
 refine Oi (n:=3) (id:=A) (ds:=[d,a,c]) (by simp only [bR,a1]) g6 (by simp only [Di,bR];exact AR.live (x:=bF b x y) v1 v2 v3) rfl AU λIj Mt If=>?_
 simp only [bR] at Mt If
 have gt7:=(If At Hu).trans ((Rw.same At Fb.2.2).trans gt)
 have q7:=Q0.keep (Ap:=Ij) λj hj=>If j (by have:=hj.1;omega)
 simp only [Am,↓An]
 refine Pt (id:=At) (off:=0) (v:=p6) (by simp only [bR,a2]) gt7 (by simp only [Di,bR];exact q7.live) q7.ok (by simp) λLq Xv Vr=>?_
 simp only [bR] at Xv Vr
 simp only [Am,↓An,bP]
 have kp:∀ j,Bw es.nx Ih j->Lq.get j=Ga.get j:=λj hj=>by (have:=hj.1);rw [Vr j (by omega),If j (by omega)]
 exact hK _ _ d a c p6 Jr (λj h1 h2 h3=>by rw [Vr j h3,If j h2,Rw.same j h1]) ((Vr A Hu.symm).trans Mt) Xv ⟨d,a,c,rfl,v1.keep kp,v2.keep kp,v3.keep kp⟩ (Q0.keep kp)
theorem C05(f n1:Nat)(Tc Ic A Vc Wc Vn U1 U2 U3 U4 U5 U6:Nat)(b:ByteArray)(v w:Nat)(d a c q0:DV)(cs:List PCell)(B5:n1<=Vn)(Fb:Tc<nx/\Ic<nx/\A<nx/\Vc<nx/\Wc<nx/\Vn<nx)(h0:TreeAt hp n1 T H nd S)(gT:hp.get Tc=some (.row U1 [.pt T 0]))(gI:hp.get Ic=some (.row U2 [sv b]))(gA:hp.get A=some (.row U3 [d,a,c]))(gV:hp.get Vc=some (.row U4 [iv (v:Nat)]))(gW:hp.get Wc=some (.row U5 [iv (w:Nat)]))(gN:hp.get Vn=some (.row U6 [q0]))(hv:1<=v/\v<=S.vers.length)(hw:1<=w/\w<=S.vers.length)(ha:AR hp (Bl nx) (.agg [d,a,c]) ⟨S.dims,S.attrs,cs⟩)(hc:Ff ⟨S.dims,S.attrs,cs⟩=0/\AOK ⟨S.dims,S.attrs,cs⟩/\cs.length<=60)(hn:S.vers.length+1<60)(hf:S.vers.length<=f)
  (hK:∀ Ap Ba Sk,nx<=Ba->(∀ j,j<nx->j≠T->j≠H->j∉nd.refs->j≠Vn->Ap.get j=hp.get j)->Ap.get Vn=some (.row U6 [iv ((S.vers.length+1:Nat):Int)])->(∀ j∈Sk.refs,nx<=j)->(∀ Db Hh,Ba<=Hh->(∀ j,j<n1\/(nx<=j/\j<Ba)->Db.get j=Ap.get j)->TreeAt Db Hh T H Sk (S.add b cs [(v:Int),(w:Int)]))->K (iv 0) Ap Ba):KW (kN (k+f+13)) (.fn 92) [.pt Tc 0,.pt Ic 0,.pt A 0,.pt Vc 0,.pt Wc 0,.pt Vn 0] hp nx K:=by
 refine Ds (Gb (by decide)) t92 (Ab rfl) λes e1 e2 he=>?_
 have a0:Ac es (.t .o)=.pt Tc 0:=he 0 _ rfl
 have a1:Ac es (.t (.l .o))=.pt Ic 0:=he 1 _ rfl
 have a2:Ac es (.t (.r .o))=.pt A 0:=he 2 _ rfl
 have a3:Ac es (.t (.l (.l .o)))=.pt Vc 0:=he 3 _ rfl
 have a4:Ac es (.t (.r (.l .o)))=.pt Wc 0:=he 4 _ rfl
 have a5:Ac es (.t (.l (.r .o)))=.pt Vn 0:=he 5 _ rfl
 unfold r92
 subst e1 e2
 have h:=h0.keep (Ba:=es.nx) ⟨by omega,λ_ _=>rfl⟩
 obtain ⟨d0,XA,z0,hT,_⟩:=h.ld
 have lA:Hk es.hp (some 3) (.pt A 0)=some (.agg [d,a,c]):=by rw [Nt gA];rfl
 simp only [Am,↓An,a0,a1,a2,a3,a4,Of gT,Of gI,lA,Of gV,Of gW]
 refine jF (fl:=[iv (v:Nat),iv (w:Nat)]) rfl (by simp only [Ao,Aq,Dh,bR,bP,Sd];rfl) λDv Dc Cr=>?_
 simp only [bR] at Dc Cr
 have aU:Al es.hp es.nx Dv (es.nx+1):=⟨by omega,λj hj=>Cr j (by omega)⟩
 have h1:=h0.keep (Ap:=Dv) (Ba:=n1) ⟨Af _,λj hj=>Cr j (by omega)⟩
 have rP:RL rInt Dv (Bl (es.nx+1)) (.ms es.nx 0 2 1) [(v:Int),(w:Int)]:=(OL.ms (R:=rInt) (p:=Bl (es.nx+1)) es.nx _ [(v:Int),(w:Int)] Dc ⟨[iv (v:Nat)],[iv (w:Nat)],rfl,rfl,[iv (w:Nat)],[],rfl,rfl,rfl⟩).rl.mono λj hj=>hj.elim id λh=>by
  have:j=es.nx:=by simpa [DV.refs] using h
  show j<es.nx+1
  omega
 simp only [Am,↓An]
 refine Dt (Cj3 k _ f n1 b _ _ cs [(v:Int),(w:Int)] (by omega) h1 (ha.fwd aU) rP ⟨by simp,by simp⟩ (λq hq=>by (have:q=(v:Int)\/q=(w:Int):=by simpa using hq);omega) hc hn hf λDb Hh Sk fr Um ht=>?_)
 have Fq:=fr.le
 have sg:Vn≠T/\Vn≠H/\Vn∉nd.refs:=⟨by have:=h0.th;omega,by have:=h0.th;omega,λh=>by have:=(h0.nr Vn h).1;omega⟩
 have j0:Fg Db (.tup [iv ((S.vers.length+1:Nat):Int),iv 0]) 0=some (iv ((S.vers.length+1:Nat):Int)):=rfl
 have j1:Fg Db (.tup [iv ((S.vers.length+1:Nat):Int),iv 0]) 1=some (iv 0):=rfl
 have gN2:=(fr.k Vn (by omega) sg.1 sg.2.1 sg.2.2).trans ((Cr Vn (by omega)).trans gN)
 simp only [Am,↓An,j0,j1]
 refine Pt (id:=Vn) (off:=0) (v:=iv ((S.vers.length+1:Nat):Int)) (by simp only [bR,a5]) gN2 (by simp only [Di,bR];rfl) ⟨rfl,rfl⟩ (by simp) λHe Lx Jh=>?_
 simp only [bR] at Lx Jh
 simp only [Am,↓An,bP]
 refine hK _ _ Sk (by omega) (λj h1 h2 h3 h4 h5=>by rw [Jh j h5,fr.k j (by omega) h2 h3 h4,Cr j (by omega)]) Lx (λj hj=>by (have:=Um j hj);omega) λHo Lb R1 Ha=>ht Ho Lb R1 λj hj=>?_
 rw [Ha j (by omega),Jh j (by omega)]
end
end Go.DD

/- Contracts: a new tree. Conditions: those that each theorem states. -/
namespace Go.DD
open Go Go.Proofs Go.Sort
theorem JA{es:ES}{t:Nat}{u v:Operand}{im ck:Nat}{es':List ME}{hs:List (ByteArray×Int)}{s:ByteArray}{n:Int}(e1:es.ds.ev (.tmp t)=.mp im)(hm:es.hp.get im=some (.mapo ck es'))(hk:Qh es' hs)(e2:es.ds.ev u=sv s)(e3:es.ds.ev v=iv n):∃ Wd By,(∀ nid,Bb nid es.ds (.mup (.p .string) (.tmp t) u v)=some (.any,.wr im (.mapo Wd By)))/\Qh By (Qa hs s n):=by
 have fin:∀ Wd By,Qm (.p .string) (.string s) (iv n) ck es'=some (Wd,By)->∀ nid,Bb nid es.ds (.mup (.p .string) (.tmp t) u v)=some (.any,.wr im (.mapo Wd By)):=by
  intro Wd By h1 nid
  simp only [Bb,e1,e2,e3]
  show (match es.hp.get im with
   | some (.mapo ck es)=>match Qm (.p .string) (.string s) (iv n) ck es with
    | some p=>some (DV.any,Upd.wr im (.mapo p.1 p.2))
    | none=>none
   | _=>none)=_
  rw [hm]
  simp only [h1]
 rcases RM s 0 hk with ⟨g1,g2,g3⟩ | ⟨v,j,e,g1,g2,g3,g4⟩
 .exact ⟨_,_,fin _ _ (by unfold Qm;rw [g2]),g3 n ck⟩
 .exact ⟨_,_,fin _ _ (by unfold Qm;rw [g2]),by rw [Er];exact g4 n e.b⟩
section
variable {call:Bf} {es:ES} {dst:Option Pa} {n0 m i:Nat} {lo an:List Nat} {ws:List Look} {pp:List Past} {r:Hold (DSt->Prop)} {ps:List Pa}
theorem jH{wide c:Bool}{x:XU}{d:DV}{o:DObj}(hx:x es (n0+i)=some (d,.lay o))(h:∀ Ap,Ap.get (n0+i)=some o->(∀ j,j≠n0+i->Ap.get j=es.hp.get j)->r.val ⟨(ES.mk es.sl Ap es.nx).putE dst d,i::lo,Gj i an wide c (refsL es ps) n0 lo ws,pp⟩):X6 (Ox i an wide c dst x ps) call n0 m es lo ws pp:=by
 show TW _ _ _ _ _ _
 rw [Cd6]
 exact ⟨d,o,hx,h _ (by rw [J7];simp) λj hj=>by rw [J7];simp [hj]⟩
theorem ZO{tgt:Nat}{x:XU}{Q:DSt->Prop} : TW (F9 i an tgt dst x ps) call n0 m ⟨es,lo,ws,pp⟩ Q↔@X6 (F9 i an tgt dst x ps) call n0 m es lo ws pp ⟨Q⟩:=Dp
theorem Cq9{tgt t:Nat}{u v:Operand}{ck:Nat}{es':List ME}{hs:List (ByteArray×Int)}{s:ByteArray}{n:Int}(Hv:lo.contains tgt=true)(Kc:an.contains tgt=true)(Kw:refsL es ps=[n0+tgt])(e1:es.ds.ev (.tmp t)=.mp (n0+tgt))(hm:es.hp.get (n0+tgt)=some (.mapo ck es'))(hk:Qh es' hs)(e2:es.ds.ev u=sv s)(e3:es.ds.ev v=iv n)
  (h:∀ Ap ck' By,Ap.get (n0+tgt)=some (.mapo ck' By)->Qh By (Qa hs s n)->(∀ j,j≠n0+tgt->Ap.get j=es.hp.get j)->r.val ⟨(ES.mk es.sl Ap es.nx).putE dst .any,lo,ws,pp⟩):X6 (F9 i an tgt dst (Bc (.mup (.p .string) (.tmp t) u v)) ps) call n0 m es lo ws pp:=by
 show TW _ _ _ _ _ _
 obtain ⟨Wd,By,hx,h2⟩:=JA e1 hm hk e2 e3
 refine ⟨_,?_,h (Kq es.hp (n0+tgt) (some (.mapo Wd By))) Wd By (by rw [J7];simp) h2 λj hj=>by rw [J7];simp [hj]⟩
 have P3:=hx (n0+i)
 obtain ⟨sl,hp,nx⟩:=es
 unfold F9 DSt.cs ES.cs
 dsimp only
 rw [Hf,P3,Kw]
 show Fo (Nat.beq (n0+tgt) (n0+tgt)&&lo.contains tgt&&an.contains tgt&&Te [n0+tgt] λr=>Nat.beq r (n0+tgt)) _ _=_
 rw [Ry,Hv,Kc,Ah (by simp [Te])]
theorem Cr0{t:Nat}{refs:List Nat}{c:Bool}(hr:∀ j∈refs,j=n0+t)(ht:t<m)(Hv:lo.contains t=true)(hp:∀ p∈pp,p.an.contains t=false)(h2:Oj n0 m ws pp=true):Oj n0 m (Gj i an true c refs n0 lo ws) pp=true:=by
 have e:Gj i an true c refs n0 lo ws=(refs.map λid=>⟨i,an,id,lo.contains (id-n0),c⟩)++ws:=by
  show Li (fY _ refs) ws=_
  rw [fN,wH]
 rw [e]
 clear e
 induction refs with
 | nil=>exact h2
 | cons j refs ih=>
  refine okl_cons.2 ⟨λp hpp=>?_,ih λj hj=>hr j (Bn _ hj)⟩
  have hj:=hr j (by simp)
  subst hj
  rw [Ae (by simp;omega),Vb,hp p hpp]
  dsimp only
  rw [Vb,Hv]
  simp
end
theorem PR{a b c d e:Value}{x y z:DV}{i j n:Nat} : Hi [DV.v a,DV.v b,DV.v c,DV.v d,DV.v e] [(0,3,.agg [x,y,z]),(3,1,.ms i 0 n 3),(4,1,.mp j)]=some [x,y,z,.ms i 0 n 3,.mp j]:=rfl
theorem DX{es:ES}{T nid:Nat}{x:EO}{cs:List DV}(h:Mz es x=.agg cs):Mj T x es nid=some (.pt nid 0,.lay (.row T cs)):=by
 have e:Mj T x es nid=X1 nid T (Mz es x):=by unfold Mj X1;rw [Ry,SZ,CI]
 rw [e,h];rfl
theorem C06{z w u:Value}{a:DV}(h1:a.okC=true/\a.cells=[a]):Hi [DV.v z,DV.v w,DV.v u] [(0,1,a)]=some [a,.v w,.v u]:=by
 simp [Hi,h1.1,h1.2]
section
variable (k:Nat) (hp:Tr DObj) (nx:Nat) (K:DV->Tr DObj->Nat->Prop)
theorem C07(n0:Nat)(dx:DV)(x:PArr)(hn:n0<=nx)(h1:AR hp (Bl n0) dx x)(hx:AOK x)(hc:x.cells.length<=60)
  (hE:∀ Ap Ba,Ff x≠0->Al hp nx Ap Ba->K (.tup [.v (.pointer none),iv 2]) Ap Ba)
  (hK:∀ Ap Ba T H nd,Ff x=0->Al hp nx Ap Ba->nx<=T->nx<=H->(∀ j∈nd.refs,nx<=j)->TreeAt Ap Ba T H nd ⟨x.dims,x.attrs,[⟨x.cells,[]⟩],[(bs [109,97,105,110],1)]⟩->K (.tup [.pt T 0,iv 0]) Ap Ba):KW (kN (k+12)) (.fn 27) [dx] hp nx K:=by
 obtain ⟨d,a,c,rfl,r1,r2,r3⟩:=h1
 refine bT (Gb (by decide)) t27 (Ab rfl) λes e1 e2 he=>?_
 have a0:Ac es (.t .o)=.agg [d,a,c]:=he 0 _ rfl
 unfold r27
 subst e1 e2
 simp only [↓An]
 refine Tm (cs:=[d,a,c]) (by rw [Di,a0];exact AR.live r1 r2 r3) λDv Dc Cr=>?_
 simp only [bR] at Dc Cr
 have aU:Al es.hp es.nx Dv (es.nx+1):=⟨by omega,λj hj=>Cr j (by omega)⟩
 have Q5:∀ {Ap Ba},Al es.hp es.nx Ap Ba->AR Ap (Bl n0) (.agg [d,a,c]) x:=λh=>⟨d,a,c,rfl,r1.ka hn h,r2.ka hn h,r3.ka hn h⟩
 obtain ⟨_,_,_,_,lA⟩:=Mh Dc
 simp only [Am,↓An,lA]
 refine Dt (Y6 (k:=k+4) n0 _ _ _ _ x (by omega) (Q5 aU) hx λDb Hh Zr=>?_)
 have Fq:=Zr.le
 have iF:=aU.trans Zr
 by_cases c1:Ff x=0
 .obtain ⟨⟨PU,PT,_⟩,JY,JX,_,_⟩:=Mh ((Zr.same es.nx (by omega)).trans Dc)
  simp only [Am,↓An,show decide (¬ Ff x=0)=false by simp [c1],PU,PT,JY,JX]
  have hz:Ff ⟨x.dims,x.attrs,[]⟩=0:=A73 (Rg c1).2.2 (Gf _) (λc hc=>by cases hc) .nil
  have oz:AOK ⟨x.dims,x.attrs,[]⟩:=⟨hx.d,hx.a,(Nat.zero_lt_succ _),λc hc=>by cases hc⟩
  refine Dt (YW (k+1) Hh _ _ _ 0 d a Bv ⟨x.dims,x.attrs,[]⟩ (Af _) ((r1.ka hn iF).bl (by omega)) ((r2.ka hn iF).bl (by omega)) .nil hz oz (Gf _) λHe Dn d3 iZ qX _=>?_)
  have Ik:=iZ.le
  have dF:=iF.trans iZ
  obtain ⟨dd,da,dc,rfl,v1,v2,v3⟩:=qX
  have x0:=Qf (e:=0) v1 v2 v3
  have x1:Fg He (.tup [.agg [dd,da,dc],iv 0]) 1=some (iv 0):=Mo
  simp only [Am,↓An,x0,x1]
  refine Oe λHo Ov Ha=>?_
  simp only [bR] at Ov Ha
  have w1:=v1.keep (Ap:=Ho) λj hj=>Ha j (by have:=hj.2;omega)
  have w2:=v2.keep (Ap:=Ho) λj hj=>Ha j (by have:=hj.2;omega)
  have w3:=v3.keep (Ap:=Ho) λj hj=>Ha j (by have:=hj.2;omega)
  simp only [Am,↓An]
  refine Oi (n:=3) (id:=Dn) (ds:=[dd,da,dc]) (by simp only [bR]) Ov (by simp only [Di,bR];exact AR.live (x:=⟨x.dims,x.attrs,[]⟩) w1 w2 w3) rfl rfl λDu Pf Hd=>?_
  simp only [bR] at Pf Hd
  have nK:Al He Dn Du (Dn+1):=⟨by omega,λj hj=>by rw [Hd j (by omega),Ha j (by omega)]⟩
  have D7:=dF.trans nK
  have y1:=w1.keep (Ap:=Du) λj hj=>Hd j (by have:=hj.2;omega)
  have y2:=w2.keep (Ap:=Du) λj hj=>Hd j (by have:=hj.2;omega)
  have y3:=w3.keep (Ap:=Du) λj hj=>Hd j (by have:=hj.2;omega)
  have k5:∀ j,j<Hh->Du.get j=Db.get j:=λj hj=>(nK.same j (by omega)).trans (iZ.same j hj)
  have PI:=(k5 es.nx (by omega)).trans ((Zr.same es.nx (by omega)).trans Dc)
  obtain ⟨⟨_,_,PS⟩,_,_,JW,_⟩:=Mh PI
  obtain ⟨_,_,_,_,lB⟩:=Mh Pf
  have q3:=r3.ka hn D7
  have bq:∀ j,j<n0->j<Dn+1:=λj hj=>by omega
  simp only [Am,↓An,lB,PS,JW,J2 q3 bq,Il (n0:=Dn+1) (m:=13) PI (show es.nx<Dn+1 by omega),Il (n0:=Dn+1) (m:=13) Pf (show Dn<Dn+1 by omega)]
  refine Ge rfl (Tf ?_)
  simp only [bR,Ao,Aq]
  refine A30 (k+5) (Dn+1+13) _ _ _ Bv c [] x.cells (Af _) .nil (q3.mono λj (hj:j<n0)=>by show j<Dn+1+13;omega) (by show 0+x.cells.length<=128;omega) (λe he=>?_) λGa Ih z6 Rw xO=>?_
  .rcases he with he | he
   .cases he
   .exact ⟨Z0 c1 e he,(hx.e e he).1,nY c1 e he,(hx.e e he).2.1⟩
  have Jr:=Rw.le
  have oz6:∀ {an:List Nat},Ib z6 (λid=>Cp (Dn+1) 13 an Ga id)↔True:=I1 xO λj hj=>by (have:=(xO.refs j hj).1.1);omega
  have sT:=C06 (z:=.slice none 0 0) (w:=.slice none 0 0) (u:=.bool false) xO.ok
  have aA:∀ an,Ib (.agg [z6,.v (.slice none 0 0),.v (.bool false)]) (λid=>Cp (Dn+1) 13 an Ga id):=λan=>xU (oz6.2 trivial) (λj hj=>by cases hj)
  simp only [Am,↓An,bP,Jr,oz6,xO.live,X9,sT,Cb,Bj (aA _)]
  have lab:Ch Ga (.agg [z6,.v (.slice none 0 0),.v (.bool false)])=.agg [z6,.v (.slice none 0 0),.v (.bool false)]:=Bf1 (λj hj=>(xO.refs j hj).2) λj hj=>by cases hj
  refine SG (fl:=[z6,Bv,bv false]) rfl (by simp only [Ao,Aq,Dh,bR,bP,lab];exact Cj2 (z:=[.slice none 0 0,.slice none 0 0,.bool false]) rfl) λIj Mt If=>?_
  simp only [bR] at Mt If
  simp only [Am,↓An]
  refine jH (o:=.mapo 0 []) (d:=.mp (Dn+1+6)) (by rw [Hf];rfl) λLq Xv Vr=>?_
  simp only [bR] at Xv Vr
  simp only [Am,↓An,↓ZO]
  refine ⟨lJ Xv rfl,?_⟩
  refine Cq9 (ck:=0) (es':=[]) (hs:=[]) (s:=bs [109,97,105,110]) (n:=1) rfl rfl (by show Li (Ug (Ac _ _)) []=_;simp only [bR];rfl) (by simp only [Dh,bR,bP,tH Xv]) Xv rfl rfl rfl λJg QN dM Pn OV Mm=>?_
  simp only [bR] at Pn Mm
  simp only [Am,↓An]
  have k9:∀ j,j<Dn+1->Jg.get j=Du.get j:=λj hj=>by rw [Mm j (by omega),Vr j (by omega),If j (by omega),Rw.same j (by omega)]
  have WI:Jg.get (Dn+1+5)=_:=(Mm _ (by omega)).trans ((Vr _ (by omega)).trans Mt)
  have up:∀ j,Bw Hh Dn j->Bl (Dn+1) j:=λj hj=>by have:=hj.2;show j<Dn+1;omega
  have u1:=(y1.keep (Ap:=Jg) λj hj=>k9 j (by have:=hj.2;omega)).mono up
  have u2:=(y2.keep (Ap:=Jg) λj hj=>k9 j (by have:=hj.2;omega)).mono up
  have u3:=(y3.keep (Ap:=Jg) λj hj=>k9 j (by have:=hj.2;omega)).mono up
  have lag:Ch Jg (.agg [dd,da,dc])=.agg [dd,da,dc]:=AR.live (x:=⟨x.dims,x.attrs,[]⟩) u1 u2 u3
  refine ⟨lJ Pn rfl,⟨AR.rox (x:=⟨x.dims,x.attrs,[]⟩) u1 u2 u3 (Af _),lJ WI rfl,lJ Pn rfl⟩,?_⟩
  simp only [Am,bP,X9,PR,lag,eK WI,tH Pn,Cb]
  have Z5:Ib (.agg [dd,da,dc,.ms (Dn+1+5) 0 1 3,.mp (Dn+1+6)]) (λid=>Cp (Dn+1) 13 [9,0,5,8,4,3,2,1,6,7] Jg id):=λid hid=>by
   have:(id∈dd.refs\/id∈da.refs\/id∈dc.refs)\/id=Dn+1+5\/id=Dn+1+6:=by simpa [DV.refs,DV.refsL,or_assoc] using hid
   rcases this with h | h | h
   .exact AR.rox (x:=⟨x.dims,x.attrs,[]⟩) u1 u2 u3 (Af _) id (by simpa [DV.refs,DV.refsL] using h)
   .rw [h];exact lJ WI rfl
   .rw [h];exact lJ Pn rfl
  refine ⟨Z5,?_⟩
  refine jH (o:=.row 140 [dd,da,dc,.ms (Dn+1+5) 0 1 3,.mp (Dn+1+6)]) (d:=.pt (Dn+1+10) 0) (DX (by simp only [Di,bR];exact Wh λid hid=>((tJ Jg id).1 (Z5 id hid)).1)) λJx Yg Kf=>?_
  simp only [bR] at Yg Kf
  simp only [Am,↓An,bP]
  have Hq:∀ c∈[dd,da,dc],Nb 6 c c=true:=AR.same (x:=⟨x.dims,x.attrs,[]⟩) y1 y2 y3
  refine ⟨lJ Yg rfl,Cr0 (t:=6) (by simp [DV.refs]) (by decide) rfl (λp hp=>by rw [Bk.1 hp];rfl) (nP (id:=Dn) (λj hj=>by simpa [DV.refs] using hj) (by omega) (λq hq=>by rw [Bk.1 hq];exact ⟨Pf,(Rw.same Dn (by omega)).trans Pf⟩) Hq rfl),?_⟩
  rw [Qv Yg]
  have kX:∀ j,j<Dn+1->Jx.get j=Du.get j:=λj hj=>(Kf j (by omega)).trans (k9 j hj)
  have ua:Jx.get (Dn+1+5)=_:=(Kf _ (by omega)).trans WI
  have VB:∀ j∈(DV.ms (Dn+1+5) 0 1 3).refs,j=Dn+1+5:=λj hj=>by simpa [DV.refs] using hj
  have pY:∀ j,Bw Hh Dn j->j<Ih/\j≠Dn+1+10/\j≠Dn+1+6/\j∉(DV.ms (Dn+1+5) 0 1 3).refs:=λj hj=>by
   have:=hj.2
   exact ⟨by omega,by omega,by omega,λh=>by have:=VB j h;omega⟩
  have pZ:∀ j,Bw (Dn+1+13) Ih j->j<Ih/\j≠Dn+1+10/\j≠Dn+1+6/\j∉(DV.ms (Dn+1+5) 0 1 3).refs:=λj hj=>by
   have:=hj.1
   exact ⟨hj.2,by omega,by omega,λh=>by have:=VB j h;omega⟩
  have ew:=(xO.keep (Ap:=Jx) λj hj=>by (have:=hj.1);rw [Kf j (by omega),Mm j (by omega),Vr j (by omega),If j (by omega)]).mono pZ
  refine hK _ _ (Dn+1+10) (Dn+1+6) (.ms (Dn+1+5) 0 1 3) c1 ⟨by omega,λj hj=>(kX j (by omega)).trans (D7.same j hj)⟩ (by omega) (by omega) (λj hj=>by (have:=VB j hj);omega) ⟨⟨by omega,by omega,by omega⟩,⟨dd,da,dc,Yg,(y1.keep λj hj=>kX j (by have:=hj.2;omega)).mono pY,(y2.keep λj hj=>kX j (by have:=hj.2;omega)).mono pY,(y3.keep λj hj=>kX j (by have:=hj.2;omega)).mono pY⟩,⟨QN,dM,(Kf _ (by omega)).trans Pn,OV⟩,?_,λj hj=>by (have:=VB j hj);omega,⟨λy hy=>?_,⟨hz,oz⟩,λi hi q hq=>?_,(by show 1<60;decide),λy hy=>?_,λy hy=>?_⟩⟩
  .exact OL.ms (R:=rNode) (Dn+1+5) _ [⟨Tb (Gc [[],x.cells]),[],false⟩] ua (Rows.one (rNode_rd.2 ⟨z6,Bv,rfl,ew,.nil⟩))
  .obtain rfl:y=⟨x.cells,[]⟩:=by simpa using hy
   exact ⟨c1,hx,hc⟩
  .obtain rfl:i=0:=by simpa using hi
   cases hq
  .obtain rfl:y=⟨x.cells,[]⟩:=by simpa using hy
   exact Nat.zero_lt_succ _
  .obtain rfl:y=(bs [109,97,105,110],1):=by simpa using hy
   exact ⟨by decide,by show (1:Int)<=((1:Nat):Int);decide⟩
 .simp only [Am,↓An,bP,show decide (¬ Ff x=0)=true by simp [c1]]
  exact hE _ _ c1 iF
end
end Go.DD

/- Contracts: two branches are merged. Conditions: those that each theorem states. -/
namespace Go.DD
open Go Go.Proofs Go.Sort
theorem B26:∀ {es:List ME} {hs:List (ByteArray×Int)},Qh es hs->Sh 6 es es=true
 | [],_,_=>rfl
 | _::_,[],h=>by cases h
 | e::es,x::hs,h=>by
  have h':(e.k,e.v)=(Value.string x.1,iv x.2)/\Qh es hs:=List.cons.inj h
  obtain ⟨h1,h2⟩:=h'
  obtain ⟨hk,hv⟩:=Prod.mk.inj h1
  show (TA e.k e.k&&Nb 6 e.v e.v&&e.b==e.b&&Sh 6 es es)=true
  rw [hk,hv,B26 h2]
  simp [TA,Pv,Nb]
theorem Cr1{n m i:Nat}{an refs lo:List Nat}{c:Bool}{ws:List Look}{ps:List Past}{id ck:Nat}{es:List ME}{hs:List (ByteArray×Int)}(hr:∀ j∈refs,j=id)(hid:id<n)(hp:∀ p∈ps,p.a.get id=some (.mapo ck es)/\p.b.get id=some (.mapo ck es))(hm:Qh es hs)(h2:Oj n m ws ps=true):Oj n m (Gj i an true c refs n lo ws) ps=true:=
 nT (λj hj=>by
  rw [hr j hj]
  refine ⟨hid,λp Ap=>.inr (.inr ?_)⟩
  obtain ⟨h3,h4⟩:=hp p Ap
  cases c with
  | true=>
   rw [Ah rfl]
   unfold sameAt
   rw [h3,h4]
   show (ck==ck&&Sh 6 es es)=true
   rw [B26 hm];simp
  | false=>rw [Ae (by simp)];simp [tD,h3,h4]) h2
theorem AR.fwd2{hp Ap:Tr DObj}{n m n':Nat}{D:DV}{X:PArr}(h:AR hp (Bw n m) D X)(hk:∀ j,n<=j->j<m->Ap.get j=hp.get j)(hn:m<=n'):AR Ap (Bl n') D X:=by
 obtain ⟨a,b,c,rfl,r1,r2,r3⟩:=h
 exact ⟨a,b,c,rfl,(r1.keep λj hj=>hk j hj.1 hj.2).mono λj hj=>Br hj.2 hn,(r2.keep λj hj=>hk j hj.1 hj.2).mono λj hj=>Br hj.2 hn,(r3.keep λj hj=>hk j hj.1 hj.2).mono λj hj=>Br hj.2 hn⟩
theorem I7{hp:Tr DObj}{f a b c:Nat}(h1:(hp.get a).isSome=true)(h2:(hp.get b).isSome=true)(h3:(hp.get c).isSome=true):Ch hp (.fn (.func f) [.tup [],.pt a 0,.pt b 0,.pt c 0])=.fn (.func f) [.tup [],.pt a 0,.pt b 0,.pt c 0]:=Wh λid hid=>by
 have:id=a\/id=b\/id=c:=by simpa [DV.refs,DV.refsL] using hid
 rcases this with e | e | e <;> (rw [e];assumption)
theorem B27{hp:Tr DObj}{f a b c d e g:Nat}(h1:(hp.get a).isSome=true)(h2:(hp.get b).isSome=true)(h3:(hp.get c).isSome=true)(h4:(hp.get d).isSome=true)(h5:(hp.get e).isSome=true)(h6:(hp.get g).isSome=true):Ch hp (.fn (.func f) [.tup [],.pt a 0,.pt b 0,.pt c 0,.pt d 0,.pt e 0,.pt g 0])=.fn (.func f) [.tup [],.pt a 0,.pt b 0,.pt c 0,.pt d 0,.pt e 0,.pt g 0]:=Wh λid hid=>by
 have:id=a\/id=b\/id=c\/id=d\/id=e\/id=g:=by simpa [DV.refs,DV.refsL] using hid
 rcases this with e | e | e | e | e | e <;> (rw [e];assumption)
theorem C08{hp:Tr DObj}{id:Nat}{o:DObj}(h:hp.get id=some o):Qp hp (.ms id 0 5 1)=some (.v (.int .i64 5)):=by
 unfold Qp fH
 simp only [h];rfl
theorem Zj{c:CE}{call:Bf}{es:ES}{k:Nat}{Q:Exit->ES->Prop}(h:EW c call es (No (λes1=>EW (cL k c) call es1 Q) Q)):EW (cL (k+1) c) call es Q:=EW.s h
theorem TJ{call:Bf}{es1:ES}{R i g U:Nat}{fl cs:List DV}{N:ES->Prop}{Q:Exit->ES->Prop}(sC:Ac es1 (.t (.r (.l (.r (.l (.r .o))))))=.ms R 0 5 1)(kQ:Ac es1 (.t (.l (.r (.r (.l (.r .o))))))=.v (.int .i64 5))(kP:Ac es1 (.t (.r (.r (.r (.l (.r .o))))))=iv (i:Nat))(hi:i<5)(hR:es1.hp.get R=some (.row U fl))(hl:fl[i]?=some (.fn (.func g) (.tup []::cs)))(lv:Ch es1.hp (.fn (.func g) (.tup []::cs))=.fn (.func g) (.tup []::cs))(h:KW call (.fn g) cs es1.hp es1.nx λd hp nx=>d=iv 0/\∀ By:ES,By.hp=hp->By.nx=nx->Ac By (.t (.r (.l (.r (.l (.r .o))))))=.ms R 0 5 1->Ac By (.t (.l (.r (.r (.l (.r .o))))))=.v (.int .i64 5)->Ac By (.t (.r (.r (.r (.l (.r .o))))))=iv ((i+1:Nat):Int)->Ac By (.t (.r (.r .o)))=Ac es1 (.t (.r (.r .o)))->Ac By (.t (.l (.l (.l .o))))=Ac es1 (.t (.l (.l (.l .o))))->N By):EW bQ call es1 (No N Q):=by
 unfold bQ
 simp only [Am,↓An,sC,kQ,kP,show decide ((i:Int)<5)=true from Ai (by omega),Za hR hi,Qz hR hl]
 obtain ⟨d,Ap,Ba,hc,rfl,hN⟩:=h
 refine bI (by simp only [Di,bR];exact lv) ⟨_,Ap,Ba,hc,?_⟩
 simp only [Am,↓An,kP,Hn (show i<_ by omega)]
 exact hN _ rfl rfl (by simp only [bR,sC]) (by simp only [bR,kQ]) (by simp only [bR]) (by simp only [bR]) (by simp only [bR])
theorem C09{call:Bf}{es1:ES}{N:ES->Prop}{Q:Exit->ES->Prop}(kQ:Ac es1 (.t (.l (.r (.r (.l (.r .o))))))=.v (.int .i64 5))(kP:Ac es1 (.t (.r (.r (.r (.l (.r .o))))))=iv ((5:Nat):Int))(h:∀ By:ES,By.hp=es1.hp->By.nx=es1.nx->Ac By (.t (.r (.r .o)))=Ac es1 (.t (.r (.r .o)))->Ac By (.t (.l (.l (.l .o))))=Ac es1 (.t (.l (.l (.l .o))))->Q (.exit 0) By):EW bQ call es1 (No N Q):=by
 unfold bQ
 simp only [Am,↓An,kQ,kP,show decide (((5:Nat):Int)<5)=false from rfl]
 exact h _ rfl rfl (by simp only [bR]) (by simp only [bR])
section
variable {hp:Tr DObj} {nx T H:Nat} {nd:DV} {S:PTree} (k:Nat) (K:DV->Tr DObj->Nat->Prop)
theorem Bc6(f:Nat)(a b:ByteArray)(v w:Nat)(cs:List PCell)(h:TreeAt hp nx T H nd S)(hv:Nw S.heads a=some ((v:Nat):Int))(hw:Nw S.heads b=some ((w:Nat):Int))(LB:1<=v/\v<=S.vers.length)(pG:1<=w/\w<=S.vers.length)(hz:Pg S v w≠0)(A2:Pg S v w≠w)(ma:Pg S v w<=S.vers.length)
  (Hq:(S.at (Pg S v w)).length+(S.at v).length+(S.at w).length<=256)
  (hmE:Rf ⟨S.dims,S.attrs,S.at (Pg S v w)⟩ ⟨S.dims,S.attrs,S.at v⟩ ⟨S.dims,S.attrs,S.at w⟩=0) (hmA:bF ⟨S.dims,S.attrs,S.at (Pg S v w)⟩ ⟨S.dims,S.attrs,S.at v⟩ ⟨S.dims,S.attrs,S.at w⟩=⟨S.dims,S.attrs,cs⟩) (hc:Ff ⟨S.dims,S.attrs,cs⟩=0/\AOK ⟨S.dims,S.attrs,cs⟩/\cs.length<=60) (hn:S.vers.length+1<60) (hf:S.vers.length<=f)
  (hK:∀ Ap Ba Sk,Fr3 hp nx T H nd Ap Ba->(∀ j∈Sk.refs,nx<=j)->TreeAt Ap Ba T H Sk (S.add a cs [(v:Int),(w:Int)])->K (.tup [iv ((S.vers.length+1:Nat):Int),Bv,iv 0]) Ap Ba):KW (kN (k+f+21)) (.fn 30) [.pt T 0,sv a,sv b] hp nx K:=by
 refine zS (Gb (by decide)) t30 (Ab rfl) λes e1 e2 he=>?_
 have a0:Ac es (.t .o)=.pt T 0:=he 0 _ rfl
 have a1:Ac es (.t (.l .o))=sv a:=he 1 _ rfl
 have a2:Ac es (.t (.r .o))=sv b:=he 2 _ rfl
 unfold r30
 subst e1 e2
 obtain ⟨d0,XA,z0,hT,_⟩:=h.ld
 obtain ⟨ck,vV,hH,hM⟩:=h.m
 simp only [↓An]
 refine DB (v:=.pt T 0) (by rw [Di,a0];exact Qv hT) ⟨rfl,rfl⟩ λDv Dc Cr=>?_
 simp only [bR] at Dc Cr
 simp only [Am,↓An]
 refine DB (v:=sv a) (by simp only [Di,bR,a1];rfl) ⟨rfl,rfl⟩ λDb Gv Fj=>?_
 simp only [bR] at Gv Fj
 simp only [Am,↓An]
 refine Oe λHe Lx Jh=>?_
 simp only [bR] at Lx Jh
 simp only [Am,↓An]
 refine Oe λHo Ov Ha=>?_
 simp only [bR] at Ov Ha
 have q1:=(Ha es.nx (by omega)).trans ((Jh es.nx (by omega)).trans ((Fj es.nx (by omega)).trans Dc))
 have q2:=(Ha (es.nx+1) (by omega)).trans ((Jh (es.nx+1) (by omega)).trans Gv)
 have q3:=(Ha (es.nx+1+1) (by omega)).trans Lx
 have X4:Al es.hp es.nx Ho (es.nx+1+1+1+1):=⟨by omega,λj hj=>by rw [Ha _ (by omega),Jh _ (by omega),Fj _ (by omega),Cr _ (by omega)]⟩
 have h4:=h.keep X4
 simp only [Am,↓An,Of q1]
 refine Dt (bS (k+f+19) _ h4 ?_)
 obtain ⟨_,_,_,hT4,⟨_,_,f4,_⟩,⟨_,_,_,l4⟩,_⟩:=h4.ld
 have BD:=(X4.same H h.th.2.2).trans hH
 simp only [Am,↓An,bP,a2,Of q1,Of q2,↓vZ,Qv hT4,Zs,f4,l4,tH BD,yT BD hM a,hv,yT BD hM b,hw,Gm,Il (n0:=es.nx+1+1+1+1) (m:=16) q1 (by omega),Il (n0:=es.nx+1+1+1+1) (m:=16) q2 (by omega),Il (n0:=es.nx+1+1+1+1) (m:=16) hT4 h4.th.2.1,Il (n0:=es.nx+1+1+1+1) (m:=16) BD h4.th.2.2]
 refine jH (o:=.row 3 [iv 0]) (d:=.pt (es.nx+1+1+1+1+12) 0) rfl λDu Pf Hd=>?_
 simp only [bR] at Pf Hd
 simp only [Am,↓An]
 refine jH (o:=.row 3 [iv 0]) (d:=.pt (es.nx+1+1+1+1+13) 0) rfl λGa aO Nk=>?_
 simp only [bR] at aO Nk
 have g56:=(Nk (es.nx+1+1+1+1+12) (by omega)).trans Pf
 simp only [Am,↓An]
 refine ⟨lJ g56 rfl,?_⟩
 refine Ge rfl (Pt (id:=es.nx+1+1+1+1+12) (off:=0) (v:=iv (v:Nat)) (by simp only [bR]) g56 (by simp only [Di,bR];rfl) ⟨rfl,rfl⟩ (by simp) λIj Mt If=>?_)
 simp only [bR] at Mt If
 have g67:=(If (es.nx+1+1+1+1+13) (by omega)).trans aO
 simp only [Am,↓An]
 refine ⟨lJ g67 rfl,?_⟩
 refine Ge rfl (Pt (id:=es.nx+1+1+1+1+13) (off:=0) (v:=iv (w:Nat)) (by simp only [bR]) g67 (by simp only [Di,bR];rfl) ⟨rfl,rfl⟩ (by simp) λLq Xv Vr=>?_)
 simp only [bR] at Xv Vr
 simp only [Am,↓An]
 have O7:∀ j,j<es.nx+1+1+1+1->Ga.get j=Ho.get j/\Ij.get j=Ho.get j/\Lq.get j=Ho.get j:=λj hj=>by
  have e6:Ga.get j=Ho.get j:=by rw [Nk j (by omega),Hd j (by omega)]
  have e7:Ij.get j=Ho.get j:=by rw [If j (by omega),e6]
  exact ⟨e6,e7,by rw [Vr j (by omega),e7]⟩
 have hP:Rc (es.nx+1+1+1+1) Ho [⟨15,[13,11,14,0,1,2,3,4,5,6,7,8,9,10,12],Ij,Lq⟩,⟨14,[12,5,0,1,2,3,4,13],Ga,Ij⟩]:=nO (λj hj=>(O7 j hj).2.1) (λj hj=>(O7 j hj).2.2) (nO (λj hj=>(O7 j hj).1) (λj hj=>(O7 j hj).2.1) XC)
 have ok:∀ {i:Nat} {an lo:List Nat} {c:Bool} {ws:List Look} {off:Nat},Oj (es.nx+1+1+1+1) 16 ws _=true->Oj (es.nx+1+1+1+1) 16 (Gj i an true c (DV.pt T off).refs (es.nx+1+1+1+1) lo ws) _=true:=λh2=>B20 h4 (Af _) hP h2
 refine ⟨Cr1 (id:=H) (λj hj=>by simpa [DV.refs] using hj) h4.th.2.2 (λq hq=>⟨((hP q hq).1 _ h4.th.2.2).trans BD,((hP q hq).2 _ h4.th.2.2).trans BD⟩) hM (ok (ok (ok (nP (id:=es.nx) (λj hj=>by simpa [DV.refs] using hj) (by omega) (λq hq=>⟨((hP q hq).1 _ (by omega)).trans q1,((hP q hq).2 _ (by omega)).trans q1⟩) (λc hc=>by rw [Bk.1 hc];simp [Nb]) rfl)))),?_⟩
 have gv8:=(Vr (es.nx+1+1+1+1+12) (by omega)).trans Mt
 have kS:Al es.hp es.nx Lq (es.nx+1+1+1+1+16):=⟨by omega,λj hj=>((O7 j (by omega)).2.2).trans (X4.same j hj)⟩
 have q18:=(O7 es.nx (by omega)).2.2.trans q1
 obtain ⟨_,_,_,hT8,_⟩:=(h.keep kS).ld
 simp only [Am,Of gv8,Of Xv,Of q18,show decide ((v:Int)=0)=false from Ad (by omega),show decide ((w:Int)=0)=false from Ad (by omega)]
 refine Dt (Cq8 (k+f+17) _ v w (h.keep kS) LB pG hz λJg Jl iY=>?_)
 have uY:=iY.le
 generalize hBV:Pg S v w=bb at *
 simp only [Am,↓An]
 refine Oe λhpA Qk Tk=>?_
 simp only [bR] at Qk Tk
 simp only [Am,↓An]
 refine Pt (id:=Jl) (off:=0) (v:=iv (bb:Nat)) (by simp only [bR]) Qk (by simp only [Di,bR];rfl) ⟨rfl,rfl⟩ (by simp) λhpB Uo Qj=>?_
 simp only [bR] at Uo Qj
 have gwB:hpB.get (es.nx+1+1+1+1+13)=_:=(Qj _ (by omega)).trans ((Tk _ (by omega)).trans ((iY.same _ (by omega)).trans Xv))
 simp only [Am,↓An,Of Uo,Of gwB,show decide (bb=w)=false from Ad A2]
 refine Oe λhpC cK Tj=>?_
 simp only [bR] at cK Tj
 simp only [Am,↓An]
 refine Oe λnF NS VG=>?_
 simp only [bR] at NS VG
 simp only [Am,↓An,bP]
 have kD:∀ j,j<Jl->nF.get j=Jg.get j:=λj hj=>by rw [VG j (by omega),Tj j (by omega),Qj j (by omega),Tk j (by omega)]
 have UH:∀ j,j<es.nx+1+1+1+1->nF.get j=Ho.get j:=λj hj=>by rw [kD j (by omega),iY.same j (by omega)];exact (O7 j hj).2.2
 have dT:=(UH es.nx (by omega)).trans q1
 have dI:=(UH (es.nx+1) (by omega)).trans q2
 have dN:=(UH (es.nx+1+1) (by omega)).trans q3
 have dA:=(UH (es.nx+1+1+1) (by omega)).trans Ov
 have dV:=(kD (es.nx+1+1+1+1+12) (by omega)).trans ((iY.same _ (by omega)).trans gv8)
 have dW:=(kD (es.nx+1+1+1+1+13) (by omega)).trans ((iY.same _ (by omega)).trans Xv)
 have dB:=(VG Jl (by omega)).trans ((Tj Jl (by omega)).trans Uo)
 have dX:=(VG (Jl+1) (by omega)).trans cK
 have s1:(nF.get es.nx).isSome=true:=by rw [dT];rfl
 have s2:(nF.get Jl).isSome=true:=by rw [dB];rfl
 have s3:(nF.get (Jl+1)).isSome=true:=by rw [dX];rfl
 have s4:(nF.get (es.nx+1+1+1+1+12)).isSome=true:=by rw [dV];rfl
 have s5:(nF.get (es.nx+1+1+1+1+13)).isSome=true:=by rw [dW];rfl
 have s6:(nF.get (Jl+1+1)).isSome=true:=by rw [NS];rfl
 have s8:(nF.get (es.nx+1)).isSome=true:=by rw [dI];rfl
 have s9:(nF.get (es.nx+1+1)).isSome=true:=by rw [dN];rfl
 have s7:(nF.get (es.nx+1+1+1)).isSome=true:=by rw [dA];rfl
 refine jF (fl:=[.fn (.func 88) [.tup [],.pt es.nx 0,.pt Jl 0,.pt (Jl+1) 0],.fn (.func 89) [.tup [],.pt es.nx 0,.pt (es.nx+1+1+1+1+12) 0,.pt (Jl+1) 0],.fn (.func 90) [.tup [],.pt es.nx 0,.pt (es.nx+1+1+1+1+13) 0,.pt (Jl+1) 0],.fn (.func 91) [.tup [],.pt (Jl+1) 0,.pt (Jl+1+1) 0,.pt (es.nx+1+1+1) 0],.fn (.func 92) [.tup [],.pt es.nx 0,.pt (es.nx+1) 0,.pt (Jl+1+1) 0,.pt (es.nx+1+1+1+1+12) 0,.pt (es.nx+1+1+1+1+13) 0,.pt (es.nx+1+1) 0]]) rfl (by simp only [Ao,Aq,Dh,bR,bP,Qv dT,Qv dB,Qv dX,Qv dV,Qv dW,Qv dA,Qv dI,Qv dN,Qv NS,I7 s1 s2 s3,I7 s1 s4 s3,I7 s1 s5 s3,I7 s3 s6 s7,B27 s1 s8 s6 s4 s5 s9];rfl) λMH AT hkE=>?_
 simp only [bR] at AT hkE
 have kE:∀ j,j<Jl+1+1+1->MH.get j=nF.get j:=λj hj=>hkE j (by omega)
 have yp:Al es.hp es.nx MH (Jl+1+1+1+1):=⟨by omega,λj hj=>by rw [kE j (by omega),kD j (by omega),iY.same j (by omega),kS.same j hj]⟩
 simp only [Am,↓An,C08 AT]
 have is:∀ {Ap:Tr DObj} {j:Nat} {o:DObj},Ap.get j=some o->(Ap.get j).isSome=true:=λh=>by rw [h];rfl
 have eT:=(kE _ (by omega)).trans dT
 have eI:=(kE _ (by omega)).trans dI
 have eN:=(kE _ (by omega)).trans dN
 have eA:=(kE _ (by omega)).trans dA
 have eV:=(kE _ (by omega)).trans dV
 have eW:=(kE _ (by omega)).trans dW
 have eB:=(kE _ (by omega)).trans dB
 have eX:=(kE _ (by omega)).trans dX
 have eD:=(kE _ (by omega)).trans NS
 clear dT dI dN dA dV dW dB dX NS s1 s2 s3 s4 s5 s6 s7 s8 s9
 refine Zj (k:=999999) (TJ (i:=0) (R:=Jl+1+1+1) (by simp only [bR]) (by simp only [bR]) (by simp only [bR];rfl) (by omega) (by simp only [];exact AT) rfl (by simp only [];exact I7 (is eT) (is eB) (is eX)) ?_)
 show KW _ _ _ MH (Jl+1+1+1+1) _
 refine C01 k _ (f+2) bb es.nx Jl (Jl+1) _ _ _ _ (h.keep yp) ma (by omega) (by omega) eT eB eX rfl λoc nxF d1 RF c1 hnF qC gXF arF=>⟨rfl,λesF e1 e2 sC kQ kP b6 b7=>?_⟩
 subst e1 e2
 simp only [bR] at b6 b7
 have alF:Al es.hp es.nx esF.hp esF.nx:=⟨by omega,λj hj=>(qC j (by omega) (by omega)).trans (yp.same j hj)⟩
 have fT:=(qC _ (by omega) (by omega)).trans eT
 have fV:=(qC _ (by omega) (by omega)).trans eV
 have fR:=(qC _ (by omega) (by omega)).trans AT
 refine Zj (k:=999998) (TJ sC kQ kP (by omega) fR rfl (I7 (is fT) (is fV) (is gXF)) ?_)
 refine C02 k _ (f+2) v es.nx (es.nx+1+1+1+1+12) (Jl+1) _ _ _ _ (h.keep alF) LB.2 (by omega) (by omega) fT fV gXF rfl λhpG nxG d2 RE c2 hnG AP gXG arG=>⟨rfl,λesG e1 e2 sC kQ kP QV QU=>?_⟩
 subst e1 e2
 rw [b6] at QV
 rw [b7] at QU
 have alG:Al es.hp es.nx esG.hp esG.nx:=⟨by omega,λj hj=>(AP j (by omega) (by omega)).trans (alF.same j hj)⟩
 have gT:=(AP _ (by omega) (by omega)).trans fT
 have gW:=(AP _ (by omega) (by omega)).trans ((qC _ (by omega) (by omega)).trans eW)
 have gR:=(AP _ (by omega) (by omega)).trans fR
 refine Zj (k:=999997) (TJ sC kQ kP (by omega) gR rfl (I7 (is gT) (is gW) (is gXG)) ?_)
 refine C03 k _ (f+2) w es.nx (es.nx+1+1+1+1+13) (Jl+1) _ _ _ _ (h.keep alG) pG.2 (by omega) (by omega) gT gW gXG rfl λhpH nxH d3 RD c3 hnH pq gXH arH=>⟨rfl,λW8 e1 e2 sC kQ kP b6 b7=>?_⟩
 subst e1 e2
 rw [QV] at b6
 rw [QU] at b7
 have UG:∀ j,j<Jl+1+1+1+1->j≠Jl+1->W8.hp.get j=MH.get j:=λj hj hx=>(pq j (by omega) hx).trans ((AP j (by omega) hx).trans (qC j hj hx))
 have hD:=(UG _ (by omega) (by omega)).trans eD
 have hA:=(UG _ (by omega) (by omega)).trans eA
 have hR:=(UG _ (by omega) (by omega)).trans AT
 have ar1:=(arF.fwd2 (Ap:=W8.hp) (n':=W8.nx) (λj h1 h2=>(pq j (by omega) (by omega)).trans (AP j h2 (by omega))) (by omega))
 have ar2:=(arG.fwd2 (Ap:=W8.hp) (n':=W8.nx) (λj h1 h2=>(pq j h2 (by omega))) (by omega))
 have ar3:=(arH.fwd2 (Ap:=W8.hp) (n':=W8.nx) (λ_ _ _=>rfl) (Af _))
 refine Zj (k:=999996) (TJ sC kQ kP (by omega) hR rfl (I7 (is gXH) (is hD) (is hA)) ?_)
 refine C04 (k+f) _ (Jl+1) (Jl+1+1) (es.nx+1+1+1) _ _ _ _ _ _ d1 RF c1 d2 RE c2 d3 RD c3 _ _ rfl ⟨by omega,by omega,by omega⟩ (by omega) gXH hD hA ar1 ar2 ar3 (h.ok.chk bb).2.1 (h.ok.chk v).2.1 (h.ok.chk w).2.1 Hq λhpI nxI d a' c q' hnI hkI gDI gAI arI rqI=>⟨by rw [hmE],λQF e1 e2 sC kQ kP QV QU=>?_⟩
 subst e1 e2
 rw [b6] at QV
 rw [b7] at QU
 rw [hmA] at arI
 have O6:∀ j,j<Jl+1+1+1+1->j≠Jl+1->j≠Jl+1+1->j≠es.nx+1+1+1->QF.hp.get j=MH.get j:=λj hj h1 h2 h3=>(hkI j (by omega) h2 h3).trans (UG j hj h1)
 have iT:=(O6 _ (by omega) (by omega) (by omega) (by omega)).trans eT
 have iI:=(O6 _ (by omega) (by omega) (by omega) (by omega)).trans eI
 have iV:=(O6 _ (by omega) (by omega) (by omega) (by omega)).trans eV
 have iW:=(O6 _ (by omega) (by omega) (by omega) (by omega)).trans eW
 have iN:=(O6 _ (by omega) (by omega) (by omega) (by omega)).trans eN
 have iR:=(O6 _ (by omega) (by omega) (by omega) (by omega)).trans AT
 have kI:∀ j,j<es.nx->QF.hp.get j=es.hp.get j:=λj hj=>(O6 j (by omega) (by omega) (by omega) (by omega)).trans (yp.same j hj)
 refine Zj (k:=999995) (TJ sC kQ kP (by omega) iR rfl (B27 (is iT) (is iI) (is gDI) (is iV) (is iW) (is iN)) ?_)
 refine C05 k _ (f+7) es.nx es.nx (es.nx+1) (Jl+1+1) (es.nx+1+1+1+1+12) (es.nx+1+1+1+1+13) (es.nx+1+1) _ _ _ _ _ _ a v w d a' c _ cs (by omega) ⟨by omega,by omega,by omega,by omega,by omega,by omega⟩ (h.keep (Ba:=es.nx) ⟨Af _,kI⟩) iT iI gDI iV iW iN LB pG (arI.fwd2 (Ap:=QF.hp) (n':=QF.nx) (λ_ _ _=>rfl) (Af _)) hc hn (by omega) λhpJ nxJ Sk hnJ po tw oo my=>⟨rfl,λesJ e1 e2 sC kQ kP b6 b7=>?_⟩
 subst e1 e2
 rw [QV] at b6
 rw [QU] at b7
 refine Zj (k:=999994) (C09 kQ kP λesZ e1 e2 c6 c7=>?_)
 rw [b6] at c6
 rw [b7] at c7
 rw [<- e1] at tw po my
 rw [<- e2] at hnJ my
 have hTH:=h.th
 have hAt:es.nx+1+1+1∉nd.refs:=λhj=>by have:=(h.nr _ hj).1;omega
 have zA:=(po (es.nx+1+1+1) (by omega) (by omega) (by omega) hAt (by omega)).trans gAI
 simp only [Am,↓An,c6,Of tw]
 refine Pt (id:=es.nx+1+1) (off:=0) (v:=iv ((S.vers.length+1:Nat):Int)) (by simp only [bR,c6]) tw (by simp only [Di,bR];rfl) ⟨rfl,rfl⟩ (by simp) λhpK hgK pn=>?_
 simp only [bR] at hgK pn
 simp only [Am,↓An]
 refine Pt (id:=es.nx+1+1+1) (off:=0) (v:=Bv) (by simp only [bR,c7]) ((pn _ (by omega)).trans zA) (by rfl) ⟨rfl,rfl⟩ (by simp) λhpL hgL pk=>?_
 simp only [bR] at hgL pk
 simp only [Am,↓An]
 have kL:∀ j,j<es.nx\/(QF.nx<=j/\j<esZ.nx)->hpL.get j=esZ.hp.get j:=λj hj=>by rw [pk j (by omega),pn j (by omega)]
 refine ⟨_,_,iv 0,I3 (by simp only [bR,bP,c6]) ((pk (es.nx+1+1) (by omega)).trans hgK),I3 (by simp only [bR,bP,c7]) hgL,by rw [X8];simp only [bR,bP,Sd],?_⟩
 exact hK _ _ Sk ⟨by omega,λj h1 h2 h3 h4=>by rw [kL j (.inl h1),po j (by omega) h2 h3 h4 (by omega),kI j h1]⟩ (λj hj=>by (have:=oo j hj);omega) (my _ _ (Af _) kL)
end
end Go.DD

/- Contracts: the changes at other coordinates. Conditions: those that each theorem states. -/
namespace Go.DD
open Go Go.Proofs Go.Sort
def Wv(la:List PCell)(c:PCell)(k:Nat):Bool:=(la.take k).any λe=>decide (Cd e.pos c.pos=0)
def Rx(la lb:List PCell):List PCell:=lb.filter λc=>!Wv la c la.length
theorem B28{la:List PCell}{c:PCell}{k:Nat}(h:k<la.length):Wv la c (k+1)=(Wv la c k||decide (Cd la[k].pos c.pos=0)):=by
 unfold Wv
 rw [Eh h,List.any_append];simp
theorem Bf3{la lb:List PCell}{i:Nat}(h:i<lb.length):Rx la (lb.take (i+1))=Rx la (lb.take i)++if Wv la lb[i] la.length then [] else [lb[i]]:=by
 unfold Rx
 rw [Eh h,List.filter_append]
 cases e:Wv la lb[i] la.length <;> simp [List.filter,e]
section
variable (k n0:Nat) (hp:Tr DObj) (nx:Nat) (K:DV->Tr DObj->Nat->Prop)
theorem C10{es:ES}{Q:Exit->ES->Prop}{hp:Tr DObj}{nx i:Nat}{a b z:DV}{la lb:List PCell}(hn:n0<=nx)(h1:RL rChange hp (Bl n0) a la)(h2:RL rChange hp (Bl n0) b lb)(hi:i<lb.length)(hl:la.length<900000)(hb:∀ c∈la,c.pos.length<900000)(g:Al hp nx es.hp es.nx)(b0:Ac es (.t .o)=a)(b1:Ac es (.t (.l .o))=b)(b5:Ac es (.t (.l (.r .o)))=z)(b6:Ac es (.t (.r (.r .o)))=iv (i:Nat))(b7:Ac es (.t (.l (.l (.l .o))))=bv false)(b8:Ac es (.t (.r (.l (.l .o))))=iv (0:Nat))
  (hQ:∀ es',es'.hp=es.hp->es.nx<=es'.nx->Ac es' (.t .o)=a->Ac es' (.t (.l .o))=b->Ac es' (.t (.l (.r .o)))=z->Ac es' (.t (.r (.r .o)))=iv (i:Nat)->Ac es' (.t (.l (.l (.l .o))))=bv (Wv la lb[i] la.length)->Q (.exit 2) es') :
  EW (cL 1000000 pD) (kN (k+4)) es Q:=by
 refine EW.up la.length (λt es1=>es1.hp=es.hp/\es.nx<=es1.nx/\Ac es1 (.t .o)=a/\Ac es1 (.t (.l .o))=b/\Ac es1 (.t (.l (.r .o)))=z/\Ac es1 (.t (.r (.r .o)))=iv (i:Nat)/\Ac es1 (.t (.l (.l (.l .o))))=bv (Wv la lb[i] t)/\Ac es1 (.t (.r (.l (.l .o))))=iv (t:Nat)) ?_ ⟨rfl,Af _,b0,b1,b5,b6,b7,b8⟩ (by omega)
 rintro t es1 ht ⟨g1,g2,b0,b1,b5,b6,b7,b8⟩
 unfold pD
 have g':Al hp nx es1.hp es1.nx:=by rw [g1];exact g.nx g2
 have hle:=g'.le
 have r1:=h1.ka hn g'
 have r2:=h2.ka hn g'
 by_cases h:t<la.length
 .obtain ⟨pA,vA,rA,_,_,lA,_⟩:=wC r1 h
  obtain ⟨pB,vB,rB,_,_,lB,_⟩:=wC r2 hi
  have hm:=B28 (c:=lb[i]) h
  cases c1:Wv la lb[i] t with
  | true=>
   rw [c1,Bool.true_or] at hm
   rw [c1] at b7
   simp only [Am,↓An,b0,b1,b5,b6,b7,b8,r1.len,h,Hn (show t<_ by omega)]
   exact ⟨g1,by omega,by rw [hm]⟩
  | false=>
   rw [c1,Gz] at hm
   rw [c1] at b7
   simp only [Am,↓An,b0,b1,b6,b7,b8,r1.len,h,Uy r1 h,Uy r2 hi,CS (k:=0) r1 h,CS (k:=0) r2 hi,lA,lB,r1.rox (m:=16) (show n0<=es1.nx by omega),r2.rox (m:=16) (show n0<=es1.nx by omega),ZA (m:=16) r1 (show n0<=es1.nx by omega),ZA (m:=16) r2 (show n0<=es1.nx by omega),YZ (m:=16) r1 (show n0<=es1.nx by omega),YZ (m:=16) r2 (show n0<=es1.nx by omega),rA.rox (m:=16) (show n0<=es1.nx by omega),rB.rox (m:=16) (show n0<=es1.nx by omega)]
   refine Ge rfl (Tf ?_)
   simp only [bR,Ao,Aq]
   refine wL k n0 _ _ _ pA pB la[t].pos lb[i].pos (by omega) rA rB (hb _ (Bd _)) ?_
   simp only [Am,↓An,b0,b1,b5,b6,b8,Hn (show t<_ by omega),Af]
   exact ⟨h,g1,by omega,by rw [hm]⟩
 .simp only [Am,↓An,b0,b8,r1.len,h]
  have bW:t=la.length:=by omega
  subst bW
  exact hQ _ (by simp only [bR,g1]) (by simpa only [bR] using g2) (by simp only [bR,b0]) (by simp only [bR,b1]) (by simp only [bR,b5]) (by simp only [bR,b6]) (by simp only [bR,b7])
theorem B99(a b:DV)(la lb:List PCell)(hn:n0<=nx)(h1:RL rChange hp (Bl n0) a la)(h2:RL rChange hp (Bl n0) b lb)(hl:la.length<900000)(Yf:lb.length<900000)(hb:∀ c∈la,c.pos.length<900000)(hK:∀ Ap Ba z,Al hp nx Ap Ba->RL rChange Ap (λj=>j<n0\/Bw nx Ba j) z (Rx la lb)->K z Ap Ba):KW (kN (k+5)) (.fn 26) [a,b] hp nx K:=by
 refine Ds (Gb (by decide)) t26 (Ab rfl) λes e1 e2 he=>?_
 have a0:Ac es (.t .o)=a:=he 0 _ rfl
 have a1:Ac es (.t (.l .o))=b:=he 1 _ rfl
 unfold r26
 subst e1 e2
 simp only [Am,↓An]
 refine EW.up lb.length (λi es1=>∃ z,Al es.hp es.nx es1.hp es1.nx/\OL rChange es1.hp (Bl n0) z (Rx la (lb.take i))/\(∀ j∈z.refs,es.nx<=j/\j<es1.nx)/\Ac es1 (.t .o)=a/\Ac es1 (.t (.l .o))=b/\Ac es1 (.t (.l (.r .o)))=z/\Ac es1 (.t (.r (.r .o)))=iv (i:Nat)) ?_ ⟨Bv,Al.refl _ _,.nil,λj hj=>(by cases hj),by simp only [bR,a0],by simp only [bR,a1],by simp only [bR];rfl,by simp only [bR];rfl⟩ (by omega)
 rintro i es1 hi ⟨z,g,ho,hz,b0,b1,b5,b6⟩
 unfold zP
 have hle:=g.le
 have r1:=h1.ka hn g
 have r2:=h2.ka hn g
 by_cases h:i<lb.length
 .simp only [Am,↓An,b1,b6,r2.len,h]
  refine C10 k n0 (hp:=es1.hp) (nx:=es1.nx) (i:=i) (a:=a) (b:=b) (z:=z) (by omega) r1 r2 h hl hb (by simpa only [bR] using Al.refl es1.hp es1.nx) (by simp only [bR,b0]) (by simp only [bR,b1]) (by simp only [bR,b5]) (by simp only [bR,b6]) (by simp only [bR]) (by simp only [bR];rfl) λBy q1 q2 c0 c1 c5 c6 c7=>?_
  simp only [bR] at q1 q2
  have hs:=Bf3 (la:=la) h
  have g2:Al es.hp es.nx By.hp By.nx:=by rw [q1];exact g.nx q2
  have o2:OL rChange By.hp (Bl n0) z (Rx la (lb.take i)):=by rw [q1];exact ho
  cases hm:Wv la lb[i] la.length with
  | true=>
   rw [hm] at c7 hs
   rw [Ah rfl,Bu] at hs
   simp only [Am,↓An,c0,c1,c5,c6,c7,Hn (show i<_ by omega)]
   exact ⟨h,z,g2,by rw [hs];exact o2,λj hj=>⟨(hz j hj).1,by have:=(hz j hj).2;omega⟩,rfl⟩
  | false=>
   rw [hm] at c7 hs
   rw [Ae (by simp)] at hs
   have r22:=h2.ka hn g2
   obtain ⟨pB,vB,rB,rV,lA,_,_⟩:=wC r22 h
   simp only [Am,↓An,c1,c5,c6,c7,Uy r22 h,lA]
   have lv2:=Kl rB rV
   have Zb:(Rx la (lb.take i)).length<=i:=Es (List.length_filter_le _ _) (by rw [Ca];omega)
   refine jF (fl:=[pB,vB]) rfl (by simp only [Ao,Aq,Dh,bR,bP,lv2];rfl) λHe Lx Jh=>?_
   simp only [bR] at Lx Jh
   have rB3:=rB.keep (Ap:=He) λj (hj:j<n0)=>Jh j (by have:=g2.le;omega)
   have rV3:=rV.keep (Ap:=He) λj (hj:j<n0)=>Jh j (by have:=g2.le;omega)
   have o3:=o2.keep (Ap:=He) λj hj=>Jh j (hj.elim (λ(h:j<n0)=>by have:=g2.le;omega) λh=>by have:=(hz j h).2;omega)
   simp only [Am,↓An]
   refine fL (R:=rChange) (p:=Bl n0) (p2:=Bl n0) (d:=z) (d2:=.ms By.nx 0 1 2) (l:=Rx la (lb.take i)) (m:=[lb[i]]) (by simp only [bR,bP]) o3 (by simp only [Dh,bR,bP];exact eK Lx) (BT (R:=rChange) (x:=lb[i]) Lx (rChange_rd.2 ⟨pB,vB,rfl,rB3,rV3⟩)) rfl rfl (by rw [Cc];omega) (by decide) λHo Ha h4=>?_
   simp only [bR] at Ha h4
   have o4:=h4 (Bl n0) λj hj=>by
    have:j<n0:=hj.elim id id
    have:=g2.le
    exact ⟨by assumption,by omega,λh=>by have:=(hz j h).1;omega⟩
   simp only [Am,↓An,c0,c1,c6,Hn (show i<_ by omega)]
   refine ⟨h,_,g2.new (by omega) λj hj=>?_,by rw [hs];exact o4,λj hj=>?_,rfl⟩
   .have:=g2.le
    rw [Ha j (by omega) (λh=>by have:=(hz j h).1;omega),Jh j (by omega)]
   .obtain rfl:j=By.nx+1:=by simpa [DV.refs] using hj
    have:=g2.le
    omega
 .simp only [Am,↓An,bP,b1,b5,b6,r2.len,h,ho.rl.live]
  have Sa:i=lb.length:=by omega
  rw [Sa,List.take_length] at ho
  exact hK _ _ _ g (ho.rl.mono λj hj=>hj.imp id (hz j))
end
end Go.DD

/- Plain: a merge of changes at different coordinates. -/
namespace Go.DD
open Go Go.Proofs Go.Sort
theorem SS{A:List PCell}{p:List Int}(h:∀ c∈A,c.pos≠p):Kv A p=[]:=by
 unfold Kv
 rw [Rl.2 λc hc=>by simpa using h c hc]
theorem A05{l cs:List PCell}(hl:Iu l)(hs:Iu cs)(hv:∀ c∈cs,c.vals≠[])(p:List Int):Kv (Fz l cs) p=if ∃ c∈l,c.pos=p then Kv l p else Kv cs p:=by
 have hr:=YU hl hs
 have hi:=BO hl hs
 by_cases h:∃ c∈l,c.pos=p
 .rw [Ah h]
  obtain ⟨c,hc,rfl⟩:=h
  rw [mX hl hc]
  by_cases cU:c.vals=[]
  .rw [cU]
   refine SS λe he hp=>?_
   rcases (hi e).1 he with ⟨h1,h2⟩ | ⟨h1,h2⟩
   .exact h2 c hc hp.symm
   .have:e=c:=by
     have:=mX hl h1
     rw [hp,mX hl hc,cU] at this
     exact absurd this.symm h2
    rw [this] at h2;exact h2 cU
  .exact mX hr ((hi c).2 (.inr ⟨hc,cU⟩))
 .rw [Ae h]
  by_cases hc:∃ e∈cs,e.pos=p
  .obtain ⟨e,he,rfl⟩:=hc
   rw [mX hs he]
   exact mX hr ((hi e).2 (.inl ⟨he,λc hc hp=>h ⟨c,hc,hp⟩⟩))
  .rw [SS (A:=cs) λc Jd hp=>hc ⟨c,Jd,hp⟩]
   refine SS λe he hp=>?_
   rcases (hi e).1 he with ⟨h1,_⟩ | ⟨h1,_⟩
   .exact hc ⟨e,h1,hp⟩
   .exact h ⟨e,h1,hp⟩
theorem Bf4{x:PArr}{l m q:List PCell}(hx:Ff x=0)(hl:Iu l)(hm:Iu m)(hq:Iu q)(pX:∀ e,e∈q↔e∈l\/e∈m)(hd:∀ c∈l,∀ e∈m,c.pos≠e.pos)(hA:Ff ⟨x.dims,x.attrs,Fz l x.cells⟩=0)(hB:Ff ⟨x.dims,x.attrs,Fz m x.cells⟩=0)(hQ:Ff ⟨x.dims,x.attrs,Fz q x.cells⟩=0) :
  Rf x ⟨x.dims,x.attrs,Fz l x.cells⟩ ⟨x.dims,x.attrs,Fz m x.cells⟩=0/\bF x ⟨x.dims,x.attrs,Fz l x.cells⟩ ⟨x.dims,x.attrs,Fz m x.cells⟩=⟨x.dims,x.attrs,Fz q x.cells⟩:=by
 obtain ⟨hX,_,_⟩:=Rg hx
 have hv:=nY hx
 have sA:=(Rg hA).1
 have sB:=(Rg hB).1
 have sQ:=(Rg hQ).1
 have hS:∀ h∈[x.cells,Fz l x.cells,Fz m x.cells],Srt h:=λh hh=>by
  simp only [Ak,Ax,or_false] at hh
  rcases hh with rfl | rfl | rfl
  .exact hX
  .exact sA
  .exact sB
 obtain ⟨w1,w2,w3⟩:=SU (n:=Pl [x.cells,Fz l x.cells,Fz m x.cells]) hS (Af _)
 have stq:∀ p,Kv q p=if ∃ c∈l,c.pos=p then Kv l p else Kv m p:=λp=>by
  by_cases h:∃ c∈l,c.pos=p
  .rw [Ah h]
   obtain ⟨c,hc,rfl⟩:=h
   rw [mX hl hc,mX hq ((pX c).2 (.inl hc))]
  .rw [Ae h]
   by_cases h2:∃ c∈m,c.pos=p
   .obtain ⟨c,hc,rfl⟩:=h2
    rw [mX hm hc,mX hq ((pX c).2 (.inr hc))]
   .rw [SS (A:=m) λc hc hp=>h2 ⟨c,hc,hp⟩]
    exact SS λc hc hp=>((pX c).1 hc).elim (λh3=>h ⟨c,h3,hp⟩) λh3=>h2 ⟨c,h3,hp⟩
 have key:∀ p,Lp [Kv x.cells p,Kv (Fz l x.cells) p,Kv (Fz m x.cells) p]=some (Kv (Fz q x.cells) p):=λp=>by
  rw [A05 hl hX hv,A05 hm hX hv,A05 hq hX hv,stq]
  have hex:(∃ c∈q,c.pos=p)↔(∃ c∈l,c.pos=p)\/∃ c∈m,c.pos=p:=by
   constructor
   .rintro ⟨c,hc,hp⟩
    exact ((pX c).1 hc).imp (λh=>⟨c,h,hp⟩) λh=>⟨c,h,hp⟩
   .rintro (⟨c,hc,hp⟩ | ⟨c,hc,hp⟩)
    .exact ⟨c,(pX c).2 (.inl hc),hp⟩
    .exact ⟨c,(pX c).2 (.inr hc),hp⟩
  by_cases h1:∃ c∈l,c.pos=p
  .have h2:¬ ∃ c∈m,c.pos=p:=λ⟨e,he,hp⟩=>by
    obtain ⟨c,hc,Ap⟩:=h1
    exact hd c hc e he (Ap.trans hp.symm)
   simp only [Ah h1,Ae h2,Ah (hex.2 (.inl h1)),Lp]
   simp
  .by_cases h2:∃ c∈m,c.pos=p
   .simp only [Ae h1,Ah h2,Ah (hex.2 (.inr h2)),Lp]
    by_cases h3:Kv x.cells p=Kv m p
    .rw [h3];simp
    .rw [Ae (by simp [h3])];simp
   .simp only [Ae h1,Ae h2,Ae (λh=>(hex.1 h).elim h1 h2),Lp]
    simp
 have hE:Rf x ⟨x.dims,x.attrs,Fz l x.cells⟩ ⟨x.dims,x.attrs,Fz m x.cells⟩=0:=by
  unfold Rf
  rw [Ae (by rw [hx,hA,hB];simp),Ae (by simp [Vx]),Ah (Az5 λw hw=>?_)]
  rw [w3 w hw]
  show Lp [_,_,_]≠none
  rw [key];simp
 refine ⟨hE,?_⟩
 unfold bF
 rw [Ah hE]
 congr 1
 have pG:∀ w∈Hw x ⟨x.dims,x.attrs,Fz l x.cells⟩ ⟨x.dims,x.attrs,Fz m x.cells⟩,Lp w.2=some (Kv (Fz q x.cells) w.1):=λw hw=>by
  rw [w3 w hw];exact key w.1
 refine A77 (XQ w1) sQ λe=>?_
 unfold Ki
 rw [Gn]
 constructor
 .rintro ⟨w,hw,he⟩
  unfold Sn at he
  rw [pG w hw] at he
  simp only at he
  split at he
  .cases he
  .rename_i Hu
   have:e=⟨w.1,Kv (Fz q x.cells) w.1⟩:=by simpa using he
   subst this
   exact YH Hu
 .intro he
  have Ro:=mX sQ he
  have Hu:=nY hQ e he
  have vE:∃ h∈[x.cells,Fz l x.cells,Fz m x.cells],∃ c∈h,c.pos=e.pos:=by
   rcases (BO hq hX e).1 he with ⟨h1,_⟩ | ⟨h1,_⟩
   .exact ⟨_,by simp,e,h1,rfl⟩
   .rcases (pX e).1 h1 with h2 | h2
    .exact ⟨Fz l x.cells,by simp,e,(BO hl hX e).2 (.inr ⟨h2,Hu⟩),rfl⟩
    .exact ⟨Fz m x.cells,by simp,e,(BO hm hX e).2 (.inr ⟨h2,Hu⟩),rfl⟩
  obtain ⟨w,hw,hwp⟩:=(w2 e.pos).2 vE
  refine ⟨w,hw,?_⟩
  unfold Sn
  rw [pG w hw,hwp,Ro]
  simp only
  rw [Ae Hu]
  simp
end Go.DD

/- Plain: the changes of two branches together. -/
namespace Go.DD
open Go Go.Proofs Go.Sort
theorem A06{la lb:List PCell}{c:PCell}(h:c∈Rx la lb):c∈lb/\∀ e∈la,e.pos≠c.pos:=by
 unfold Rx at h
 obtain ⟨h1,h2⟩:=Gh.1 h
 refine ⟨h1,λe he hp=>?_⟩
 unfold Wv at h2
 rw [List.take_length] at h2
 have:(la.any λe=>decide (Cd e.pos c.pos=0))=true:=On.2 ⟨e,he,Ai (cmpL_0.2 hp)⟩
 rw [this] at h2;cases h2
theorem Bc7(la lb:List PCell):(Rx la lb).length<=lb.length:=List.length_filter_le _ _
theorem A82{d:List PDim}{a:List PAttr}{m:List PCell} : ∀ {l:List PCell},Gx d a l=0->Gx d a m=0->Gx d a (l++m)=0
 | [],_,h=>h
 | c::l,h,h2=>by
  unfold Gx at h
  split at h
  .rename_i h3;exact absurd h h3
  .rename_i h3
   show (if Le d a c≠0 then Le d a c else Gx d a (l++m))=0
   rw [Ae h3];exact A82 h h2
theorem Bf5{x r:PArr}{l m q1 q2:List PCell}{e:Int}(hx:Ff x=0)(h1:Gx x.dims x.attrs l=0)(h2:Gx x.dims x.attrs (Rx l m)=0)(p1:q1.Perm l)(s1:Iu q1)(p2:q2.Perm (Rx l m))(s2:Iu q2)(h:ApR x (l++Rx l m) e r):e=0/\∃ q,q.Perm (l++Rx l m)/\Iu q/\r=⟨x.dims,x.attrs,Fz q x.cells⟩:=by
 have hn:((l++Rx l m).map PCell.pos).Nodup:=by
  rw [List.map_append]
  refine List.nodup_append.2 ⟨(p1.map _).nodup_iff.1 (A01 s1),(p2.map _).nodup_iff.1 (A01 s2),λa ha b hb=>?_⟩
  obtain ⟨c,hc,rfl⟩:=Ei.1 ha
  obtain ⟨c',Jd,rfl⟩:=Ei.1 hb
  exact (A06 Jd).2 c hc
 rcases h with ⟨h3,_⟩ | ⟨_,h3,_⟩ | ⟨_,_,h3,_⟩ | ⟨_,_,_,h3,q,h4,h5,h6⟩
 .exact absurd hx h3
 .exact absurd (A82 h1 h2) h3
 .exact absurd hn h3
 .exact ⟨h3,q,h4,h5,h6⟩
theorem Bp1{x:PArr}{l m q1 q2 q:List PCell}(hx:Ff x=0)(h1:Gx x.dims x.attrs l=0)(h2:Gx x.dims x.attrs (Rx l m)=0)(p1:q1.Perm l)(s1:Iu q1)(p2:q2.Perm (Rx l m))(s2:Iu q2)(p:q.Perm (l++Rx l m))(s:Iu q)(hl:x.cells.length+l.length+m.length<=128) :
  Ff ⟨x.dims,x.attrs,Fz q x.cells⟩=0/\Rf x ⟨x.dims,x.attrs,Fz q1 x.cells⟩ ⟨x.dims,x.attrs,Fz q2 x.cells⟩=0/\bF x ⟨x.dims,x.attrs,Fz q1 x.cells⟩ ⟨x.dims,x.attrs,Fz q2 x.cells⟩=⟨x.dims,x.attrs,Fz q x.cells⟩:=by
 have hm:=Bc7 l m
 have c1:=SE hx h1 p1 s1 (by omega)
 have c2:=SE hx h2 p2 s2 (by omega)
 have c3:=SE hx (A82 h1 h2) p s (by rw [Bp];omega)
 refine ⟨c3,Bf4 hx s1 s2 s (λe=>?_) (λc hc e he=>?_) c1 c2 c3⟩
 .rw [p.mem_iff,Bo,p1.mem_iff,p2.mem_iff]
 .exact (A06 (p2.mem_iff.1 he)).2 c (p1.mem_iff.1 hc)
theorem Ca0{b y:PArr}(hb:Ff b=0)(hy:Ff y=0)(ha:Vx b y=true):Rf b b y=0/\bF b b y=y:=by
 have h0:Rf b b y=0:=by
  unfold Rf
  rw [Ae (by rw [hb,hy];simp),Ae (by rw [ha,A03];simp),(SD (b:=b) (x:=b) (y:=y) hb hb hy λp=>Bf0 _ _).2,Ah rfl]
 exact ⟨h0,((Bo9 b y).2 h0).1⟩
end Go.DD

/- Contracts: a change is committed. Conditions: those that each theorem states. -/
namespace Go.DD
open Go Go.Proofs Go.Sort
section
variable {hp:Tr DObj} {nx T H:Nat} {nd:DV} {S:PTree} (k:Nat) (K:DV->Tr DObj->Nat->Prop)
theorem A07(f:Nat)(b:ByteArray)(v:Nat)(ls:DV)(l:List PCell)(h:TreeAt hp nx T H nd S)(hb:Nw S.heads b=some ((v:Nat):Int))(hv:1<=v/\v<=S.vers.length)(hL:RL rChange hp (λj=>j<nx/\j≠T/\j≠H/\j∉nd.refs) ls l)(hl:(S.at v).length+l.length<=60)(cY:∀ c∈l,c.pos.length<900000/\c.vals.length<900000/\∀ v∈c.vals,Wn v)(hn:S.vers.length+1<60)(hf:S.vers.length<=f)
  (hE:∀ Ap Ba e,e≠0->Al hp nx Ap Ba->K (.tup [iv 0,iv e]) Ap Ba)
  (hK:∀ Ap Ba Sk m,m.Perm l->Iu m->Gx S.dims S.attrs l=0->Ff ⟨S.dims,S.attrs,Fz m (S.at v)⟩=0->Fr3 hp nx T H nd Ap Ba->(∀ j∈Sk.refs,nx<=j)->TreeAt Ap Ba T H Sk (S.add b (Fz m (S.at v)) [(v:Int)])->K (.tup [iv ((S.vers.length+1:Nat):Int),iv 0]) Ap Ba) :
  KW (kN (k+f+21)) (.fn 29) [.pt T 0,sv b,iv (v:Nat),ls] hp nx K:=by
 refine bT (Gb (by decide)) t29 (Ab rfl) λes e1 e2 he=>?_
 have a0:Ac es (.t .o)=.pt T 0:=he 0 _ rfl
 have a1:Ac es (.t (.l .o))=sv b:=he 1 _ rfl
 have a2:Ac es (.t (.r .o))=iv (v:Nat):=he 2 _ rfl
 have a3:Ac es (.t (.l (.l .o)))=ls:=he 3 _ rfl
 unfold r29
 subst e1 e2
 obtain ⟨d,a,z,hT,⟨f0,f3,f4,f1⟩,⟨l0,l1,l3,l4⟩,_⟩:=h.ld
 obtain ⟨ck,vV,hH,hM⟩:=h.m
 simp only [Am,↓An,a0]
 refine Dt (bS (k+f+19) _ h ?_)
 simp only [Am,↓An,bP,a0,a1,↓fI,Qv hT,Zs,f4,l4,↓wQ]
 refine B21 (im:=H) (ck:=ck) (es':=vV) (hs:=S.heads) (s:=b) (by simp only [Dh,bR,bP,tH hH]) hH hM (by simp only [Dh,bR,bP,Sd]) ?_
 rw [hb]
 have x0:Fg es.hp (.tup [iv ((some ((v:Nat):Int)).getD 0),bv (some ((v:Nat):Int)).isSome]) 0=some (iv (v:Nat)):=rfl
 have x1:Fg es.hp (.tup [iv ((some ((v:Nat):Int)).getD 0),bv (some ((v:Nat):Int)).isSome]) 1=some (bv true):=rfl
 simp only [Am,↓An,x0,x1,a0,a2,show decide (¬ (v:Int)=(v:Int))=false by simp,show decide (¬ v=v)=false by simp]
 refine Dt (SC k _ (f+3) v h hv.2 (by omega) λHe Dn d3 iZ qX ML=>?_)
 have Ik:=iZ.le
 obtain ⟨dd,da,dc,rfl,v1,v2,v3⟩:=qX
 have z0:=Qf (e:=0) v1 v2 v3
 have z1:Fg He (.tup [.agg [dd,da,dc],iv 0]) 1=some (iv 0):=Mo
 simp only [Am,↓An,z0,z1]
 refine Oe λHo Ov Ha=>?_
 simp only [bR] at Ov Ha
 have w1:=v1.keep (Ap:=Ho) λj hj=>Ha j (by have:=hj.2;omega)
 have w2:=v2.keep (Ap:=Ho) λj hj=>Ha j (by have:=hj.2;omega)
 have w3:=v3.keep (Ap:=Ho) λj hj=>Ha j (by have:=hj.2;omega)
 simp only [Am,↓An]
 refine Oi (n:=3) (id:=Dn) (ds:=[dd,da,dc]) (by simp only [bR]) Ov (by simp only [Di,bR];exact AR.live (x:=⟨S.dims,S.attrs,S.at v⟩) w1 w2 w3) rfl rfl λDu Pf Hd=>?_
 simp only [bR] at Pf Hd
 have nK:Al He Dn Du (Dn+1):=⟨by omega,λj hj=>by rw [Hd j (by omega),Ha j (by omega)]⟩
 have D7:=iZ.trans nK
 obtain ⟨_,_,_,_,lA⟩:=Mh Pf
 have hL5:=hL.keep (Ap:=Du) λj hj=>D7.same j hj.1
 have y1:=v1.keep (Ap:=Du) λj hj=>nK.same j hj.2
 have y2:=v2.keep (Ap:=Du) λj hj=>nK.same j hj.2
 have y3:=v3.keep (Ap:=Du) λj hj=>nK.same j hj.2
 obtain ⟨sc,so,sl⟩:=h.ok.chk v
 simp only [Am,↓An,a3,lA]
 refine Dt (Bm0 (k+f+1) (Dn+1) _ _ _ _ ls ⟨S.dims,S.attrs,S.at v⟩ l (Af _) ⟨dd,da,dc,rfl,y1.mono λj hj=>by (have:=hj.2;show j<Dn+1);omega,y2.mono λj hj=>by (have:=hj.2;show j<Dn+1);omega,y3.mono λj hj=>by (have:=hj.2;show j<Dn+1);omega⟩ (hL5.mono λj hj=>by (have:=hj.1;show j<Dn+1);omega) so (by show (S.at v).length+l.length<=128;omega) cY λGa Ih d6 r6 e6 Rw Rv sf aI=>?_)
 have Jr:=Rw.le
 have ha6:=D7.trans Rw
 have g6:=(Rw.same Dn (by omega)).trans Pf
 obtain ⟨UE,UB,TZ,rfl,u1,u2,u3⟩:=Rv
 have t0:=Qf (e:=e6) u1 u2 u3
 have t1:Fg Ga (.tup [.agg [UE,UB,TZ],iv e6]) 1=some (iv e6):=Mo
 simp only [Am,↓An,t0,t1]
 refine Oe λIj Mt If=>?_
 simp only [bR] at Mt If
 have i1:=u1.keep (Ap:=Ij) λj hj=>If j (by have:=hj.2;omega)
 have i2:=u2.keep (Ap:=Ij) λj hj=>If j (by have:=hj.2;omega)
 have i3:=u3.keep (Ap:=Ij) λj hj=>If j (by have:=hj.2;omega)
 simp only [Am,↓An]
 refine Oi (n:=3) (id:=Ih) (ds:=[UE,UB,TZ]) (by simp only [bR]) Mt (by simp only [Di,bR];exact AR.live (x:=r6) i1 i2 i3) rfl rfl λLq Xv Vr=>?_
 simp only [bR] at Xv Vr
 have kS:Al Ga Ih Lq (Ih+1):=⟨by omega,λj hj=>by rw [Vr j (by omega),If j (by omega)]⟩
 have U8:=ha6.trans kS
 have g8:=(kS.same Dn (by omega)).trans g6
 obtain ⟨_,_,_,_,lA8⟩:=Mh g8
 obtain ⟨_,_,_,_,lB8⟩:=Mh Xv
 by_cases he:e6=0
 .have Ql:Gx S.dims S.attrs l=0/\∃ m,m.Perm l/\Iu m/\r6=⟨S.dims,S.attrs,Fz m (S.at v)⟩:=by
   rcases sf with ⟨_,h1,_⟩ | ⟨_,h1,h2,_⟩ | ⟨_,_,_,h1,_⟩ | ⟨_,h1,_,_,m,h2,h3,h4⟩
   .omega
   .exact absurd (h2.symm.trans he) h1
   .omega
   .exact ⟨h1,m,h2,h3,h4⟩
  obtain ⟨Uq,m,VD,AL,rfl⟩:=Ql
  have hy:=SE (x:=⟨S.dims,S.attrs,S.at v⟩) sc Uq VD AL (by show (S.at v).length+l.length<=128;omega)
  have KX:=oR (x:=⟨S.dims,S.attrs,S.at v⟩) so VD (by show (S.at v).length+l.length<=128;omega) cY
  have hol:(Fz m (S.at v)).length<=60:=by
   have h1:=I8 m (S.at v)
   have h2:=VD.length_eq
   omega
  simp only [Am,↓An,show decide (¬ e6=0)=false by simp [he],lA8,lB8]
  have c1:=y1.keep (Ap:=Lq) λj hj=>(kS.same j (by have:=hj.2;omega)).trans (Rw.same j (by have:=hj.2;omega))
  have c2:=y2.keep (Ap:=Lq) λj hj=>(kS.same j (by have:=hj.2;omega)).trans (Rw.same j (by have:=hj.2;omega))
  have c3:=y3.keep (Ap:=Lq) λj hj=>(kS.same j (by have:=hj.2;omega)).trans (Rw.same j (by have:=hj.2;omega))
  have e1:=u1.keep (Ap:=Lq) λj hj=>kS.same j hj.2
  have e2:=u2.keep (Ap:=Lq) λj hj=>kS.same j hj.2
  have e3:=u3.keep (Ap:=Lq) λj hj=>kS.same j hj.2
  refine Dt (A02 (k+f+12) (Ih+1) _ _ _ _ _ ⟨S.dims,S.attrs,S.at v⟩ ⟨S.dims,S.attrs,Fz m (S.at v)⟩ (Af _) ⟨dd,da,dc,rfl,c1.mono λj hj=>by (have:=hj.2;show j<Ih+1);omega,c2.mono λj hj=>by (have:=hj.2;show j<Ih+1);omega,c3.mono λj hj=>by (have:=hj.2;show j<Ih+1);omega⟩ ⟨UE,UB,TZ,rfl,e1.mono λj hj=>by (have:=hj.2;show j<Ih+1);omega,e2.mono λj hj=>by (have:=hj.2;show j<Ih+1);omega,e3.mono λj hj=>by (have:=hj.2;show j<Ih+1);omega⟩ so KX λJg Jl iY=>?_)
  have uY:=iY.le
  have sW:=U8.trans iY
  have g9:=(iY.same Ih (by omega)).trans Xv
  obtain ⟨_,_,_,_,kj⟩:=Mh g9
  cases hs:Yr ⟨S.dims,S.attrs,S.at v⟩ ⟨S.dims,S.attrs,Fz m (S.at v)⟩ with
  | true=>
   simp only [Am,↓An,bP]
   exact hE _ _ 6 (by decide) sW
  | false=>
   simp only [Am,↓An,a0,a1,a2,kj]
   refine jF (fl:=[iv (v:Nat)]) rfl (by simp only [Ao,Aq,Dh,bR,bP,Sd];rfl) λJx Yg Kf=>?_
   simp only [bR] at Yg Kf
   have sD:Al es.hp es.nx Jx (Jl+1):=⟨by have:=sW.le;omega,λj hj=>by rw [Kf j (by have:=sW.le;omega),sW.same j hj]⟩
   have o1:=e1.keep (Ap:=Jx) λj hj=>(Kf j (by have:=hj.2;omega)).trans (iY.same j (by have:=hj.2;omega))
   have o2:=e2.keep (Ap:=Jx) λj hj=>(Kf j (by have:=hj.2;omega)).trans (iY.same j (by have:=hj.2;omega))
   have o3:=e3.keep (Ap:=Jx) λj hj=>(Kf j (by have:=hj.2;omega)).trans (iY.same j (by have:=hj.2;omega))
   have rP:RL rInt Jx (Bl (Jl+1)) (.ms Jl 0 1 1) [(v:Int)]:=(OL.ms (R:=rInt) (p:=Bl (Jl+1)) Jl _ [(v:Int)] Yg (Rows.one rfl)).rl.mono λj hj=>hj.elim id λh=>by
    have:j=Jl:=by simpa [DV.refs] using h
    show j<Jl+1
    omega
   simp only [Am,↓An]
   refine Dt (Cj3 k _ (f+8) _ b _ _ (Fz m (S.at v)) [(v:Int)] (Af _) (h.keep sD) ⟨UE,UB,TZ,rfl,o1.mono λj hj=>by (have:=hj.2;show j<Jl+1);omega,o2.mono λj hj=>by (have:=hj.2;show j<Jl+1);omega,o3.mono λj hj=>by (have:=hj.2;show j<Jl+1);omega⟩ rP ⟨by simp,by simp⟩ (λq hq=>by (have:q=(v:Int):=by simpa using hq);omega) ⟨hy,KX,hol⟩ hn (by omega) λOu Wu Sk fr Um ht=>?_)
   have j0:Fg Ou (.tup [iv ((S.vers.length+1:Nat):Int),iv 0]) 0=some (iv ((S.vers.length+1:Nat):Int)):=rfl
   have j1:Fg Ou (.tup [iv ((S.vers.length+1:Nat):Int),iv 0]) 1=some (iv 0):=rfl
   simp only [Am,↓An,bP,j0,j1]
   exact hK _ _ Sk m VD AL Uq hy ⟨Es sD.le fr.le,λj h1 h2 h3 h4=>(fr.k j (by have:=sD.le;omega) h2 h3 h4).trans (sD.same j h1)⟩ (λj hj=>by (have:=Um j hj);have:=sD.le;omega) (ht _ _ (Af _) λ_ _=>rfl)
 .simp only [Am,↓An,bP,show decide (¬ e6=0)=true by simp [he]]
  exact hE _ _ _ he U8
end
end Go.DD

/- Chapter 08: the result of Apply is written. Conditions: those that each theorem states. -/
namespace Go.DD
open Go Go.Proofs
end Go.DD

/- Chapter 08: VersionApplies returns true: as a contract. Conditions: none. -/
namespace Go.DD
open Go Go.Proofs
def Xl(l:List PCell):DV:=.sl (l.flatMap rChange.cells) l.length
end Go.DD
