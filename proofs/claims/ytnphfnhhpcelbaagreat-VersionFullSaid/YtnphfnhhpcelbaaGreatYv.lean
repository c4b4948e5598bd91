/- A part. -/
import Derived.Test.YtnphfnhhpcelbaaGreatYs
import Derived.Test.YtnphfnhhpcelbaaGreatYu
import Derived.Test.YtnphfnhhpcelbaaGreatYf
import Derived.Test.YtnphfnhhpcelbaaGreatProg
import Derived.KernelRfl
namespace Go.DD
open Go Go.Proofs Go.Sort
theorem B93:isNil 1 (Qt (.pointer none))=some true:=rfl
theorem B94:isNil 2 (Qt (.map none))=some true:=rfl
theorem Bm8{α:Type}{R:Rep α}{hp:Tr DObj}{p:Nat->Prop}{d:DV}{l:List α}(h:RL R hp p d l)(e i:Nat):Cd hp (Ca e d i)=Ca e d i:=Wc λid hid=>(h.refs id (uS e d i id hid)).2
section
variable {hp:Tr DObj} {nx T H:Nat} {nd:DV} {S:PTree}
variable (k:Nat) (K:DV->Tr DObj->Nat->Prop)
end
end Go.DD

/- Contracts: a version's support, its cells. Conditions: those that each theorem states. -/
namespace Go.DD
open Go Go.Proofs Go.Sort
theorem wh{hp:Tr DObj}{p:Nat->Prop}{d:DV}{l:List Int}(h:RL rInt hp p d l)(hi:0<l.length):Rr hp 1 d (.v (.int .i64 0))=some (Ca 1 d 0):=h.ia hi
theorem B95{hp:Tr DObj}{p:Nat->Prop}{d:DV}{l:List PNode}(h:RL rNode hp p d l){i:Nat}(hi:i<l.length):Rr hp 3 d (.v (.int .i64 (i:Int)))=some (Ca 3 d i):=h.ia hi
theorem X3{hp:Tr DObj}{p:Nat->Prop}{d:DV}{l:List PNode}{k:Nat}(h:RL rNode hp p d l){i:Nat}(hi:i<l.length):On hp k (Ca 3 d i)=some (Gi (Ca 3 d i) k):=h.fa hi
theorem Cj8{hp:Tr DObj}{p:Nat->Prop}{d:DV}{l:List PNode}(h:OL rNode hp p d l)(hl:l≠[])(i:Nat):bF (Ca 3 d i)=some (Ca 3 d i):=by
 cases h with
 | nil=>exact absurd rfl hl
 | ms=>rfl
def Uh(n:Nat)(hp:Tr DObj)(ps:List Past):Prop:=∀ q∈ps,(∀ j,j<n->q.a.get j=hp.get j)/\∀ j,j<n->q.b.get j=hp.get j
theorem ux{n:Nat}{hp:Tr DObj} : Uh n hp []:=λq hq=>by cases hq
theorem rT{n q:Nat}{an:List Nat}{hp a b:Tr DObj}{ps:List Past}(ha:∀ j,j<n->a.get j=hp.get j)(hb:∀ j,j<n->b.get j=hp.get j)(h:Uh n hp ps):Uh n hp (⟨q,an,a,b⟩::ps):=λx hx=>by
 rcases Aq.1 hx with rfl | hx
 .exact ⟨ha,hb⟩
 .exact h x hx
theorem TR{hp:Tr DObj}{n m i:Nat}{an refs lo:List Nat}{ws:List Look}{ps:List Past}(hP:Uh n hp ps)(hr:∀ j∈refs,j<n)(h2:Qw n m ws ps=true):Qw n m (Gt i an true false refs n lo ws) ps=true:=sA (λj hj=>⟨hr j hj,λq hq=>.inr (.inr (by rw [Ad (by simp)];simp [uM,((hP q hq).2 j (hr j hj)).trans ((hP q hq).1 j (hr j hj)).symm]))⟩) h2
theorem uw{α:Type}{R:Rep α}{hp:Tr DObj}{p:Nat->Prop}{d:DV}{l:List α}{n m i:Nat}{an refs lo:List Nat}{c:Bool}{ws:List Look}{ps:List Past}(hP:Uh n hp ps)(h:RL R hp p d l)(Ng:∀ j,p j->j<n)(hr:∀ j∈refs,j∈d.refs)(h2:Qw n m ws ps=true):Qw n m (Gt i an true c refs n lo ws) ps=true:=Z4 h Ng (λq hq=>⟨λj hj=>(hP q hq).1 j (Ng j hj),λj hj=>(hP q hq).2 j (Ng j hj)⟩) hr h2
theorem Cj9{T n:Nat}(h:T<n):∀ j∈(DV.pt T 0).refs,j<n:=λj hj=>by
 have:j=T:=by simpa [DV.refs] using hj
 omega
theorem B5{α:Type}{R:Rep α}{hp:Tr DObj}{p:Nat->Prop}{d:DV}{l:List α}{n0 m:Nat}{an:List Nat}(h:RL R hp p d l)(ho:∀ j∈d.refs,n0+m<=j):Ii d (λid=>Cs n0 m an hp id)↔True:=Bn λj hj=>(sC hp j).2 ⟨(h.refs j hj).2,.inr (.inl (ho j hj))⟩
theorem uy{hp:Tr DObj}{p:Nat->Prop}{d:DV}{l:List PNode}{n0 m i:Nat}{an:List Nat}(h:RL rNode hp p d l)(ho:∀ j,p j->j<n0):Ii (Ca 3 d i) (λid=>Cs n0 m an hp id)↔True:=Bn (h.roa ho)
theorem B96{hp:Tr DObj}{p:Nat->Prop}{d:DV}{l:List Int}{n0 m i:Nat}{an:List Nat}(h:RL rInt hp p d l)(ho:∀ j,p j->j<n0):Ii (Ca 1 d i) (λid=>Cs n0 m an hp id)↔True:=Bn (h.roa ho)
theorem xk{hp:Tr DObj}{p:Nat->Prop}{d:DV}{l:List PNode}{n0 m i k:Nat}{an:List Nat}(h:RL rNode hp p d l)(ho:∀ j,p j->j<n0):Ii (Gi (Ca 3 d i) k) (λid=>Cs n0 m an hp id)↔True:=Bn (h.rof ho)
theorem rZ{α:Type}{R:Rep α}{hp:Tr DObj}{p:Nat->Prop}{d:DV}{l:List α}{n0 m:Nat}{an:List Nat}(h:RL R hp p d l)(ho:∀ j,p j->j<n0):Ii d (λid=>Cs n0 m an hp id)↔True:=Bn (h.ro ho)
section
variable {hp:Tr DObj} {nx T H:Nat} {nd:DV} {S:PTree}
variable (k:Nat) (K:DV->Tr DObj->Nat->Prop)
end
end Go.DD

/- Maps from names to numbers: what is found, what is put. Conditions: those that each theorem states. -/
namespace Go.DD
open Go Go.Proofs Go.Sort
def Iy:List (ByteArray×Int)->ByteArray->Option Int
 | [],_=>none
 | x::l,s=>if s=x.1 then some x.2 else Iy l s
def Ny:List (ByteArray×Int)->ByteArray->Int->List (ByteArray×Int)
 | [],s,v=>[(s,v)]
 | x::l,s,v=>if s=x.1 then (s,v)::l else x::Ny l s v
def Mv(es:List ME)(hs:List (ByteArray×Int)):Prop:=es.map (λe=>(e.k,e.v))=hs.map λx=>(Value.string x.1,iv x.2)
theorem B13(a b:ByteArray):Xr .string (.string a) (.string b)=some (decide (a=b)):=by
 show some (a.data.toList==b.data.toList)=_
 rw [<- Lw]
 congr 1
 rw [ByteArray.toList_eq,ByteArray.toList_eq]
theorem RU(s:ByteArray):∀ {es:List ME} {hs:List (ByteArray×Int)} (i:Nat),Mv es hs->(Iy hs s=none/\findD (.p .string) (.string s) es i=some none/\∀ v b,Mv (es ++ [⟨.string s,iv v,b⟩]) (Ny hs s v))\/∃ v j e,Iy hs s=some v/\findD (.p .string) (.string s) es i=some (some (i+j,e))/\e.v=iv v/\∀ v' b,Mv (es.set j ⟨.string s,iv v',b⟩) (Ny hs s v')
 | [],[],_,_=>.inl ⟨rfl,rfl,λv b=>rfl⟩
 | [],_::_,_,h=>by cases h
 | _::_,[],_,h=>by cases h
 | e::es,x::hs,i,h=>by
  have h':(e.k,e.v)=(Value.string x.1,iv x.2)/\Mv es hs:=List.cons.inj h
  obtain ⟨h1,h2⟩:=h'
  obtain ⟨hk,hv⟩:=Prod.mk.inj h1
  have hf:findD (.p .string) (.string s) (e::es) i=if s=x.1 then some (some (i,e)) else findD (.p .string) (.string s) es (i+1):=by
   show (match Nc (.p .string) (.string s) e.k with
    | some true=>some (some (i,e))
    | some false=>findD (.p .string) (.string s) es (i+1)
    | none=>none)=_
   rw [hk,show Nc (.p .string) (.string s) (.string x.1)=some (decide (s=x.1)) from B13 _ _]
   by_cases hs:s=x.1
   .rw [Ar hs,Af hs]
   .rw [Aj hs,Ad hs]
  by_cases hx:s=x.1
  .refine .inr ⟨x.2,0,e,by unfold Iy;rw [Af hx],by rw [hf,Af hx];rfl,hv,λv' b=>?_⟩
   unfold Ny
   rw [Af hx]
   show (Value.string s,iv v')::es.map (λe=>(e.k,e.v))=(Value.string s,iv v')::hs.map _
   rw [show es.map (λe=>(e.k,e.v))=_ from h2]
  .rcases RU s (i+1) h2 with ⟨g1,g2,g3⟩ | ⟨v,j,e',g1,g2,g3,g4⟩
   .refine .inl ⟨by unfold Iy;rw [Ad hx,g1],by rw [hf,Ad hx,g2],λv b=>?_⟩
    unfold Ny
    rw [Ad hx]
    show (e.k,e.v)::(es ++ [(⟨.string s,iv v,b⟩:ME)]).map (λe=>(e.k,e.v))=_::(Ny hs s v).map _
    rw [h1];exact Mq _ (g3 v b)
   .refine .inr ⟨v,j+1,e',by unfold Iy;rw [Ad hx,g1],by rw [hf,Ad hx,g2];congr 3;omega,g3,λv' b=>?_⟩
    unfold Ny
    rw [Ad hx]
    show (e.k,e.v)::(es.set j ⟨.string s,iv v',b⟩).map (λe=>(e.k,e.v))=_::(Ny hs s v').map _
    rw [h1];exact Mq _ (g4 v' b)
section
variable {call:Bg} {es:ES} {dst:Option Pa} {q:Hold (ES->Prop)}
theorem Xm{Q:ES->Prop}{kd:KD}{z:Value}{x k:Operand} : SW (sU dst (Bd (.lkp kd z x k true))) call es Q↔@Nr (sU dst (Bd (.lkp kd z x k true))) call es ⟨Q⟩:=Da
theorem ON{t u im ck:Nat}{es':List ME}{hs:List (ByteArray×Int)}{s:ByteArray}(e1:es.ds.ev (.tmp t)=.mp im)(hm:es.hp.get im=some (.mapo ck es'))(hk:Mv es' hs)(e2:es.ds.ev (.tmp u)=sv s)
  (h:q.val (es.putE dst (.tup [iv ((Iy hs s).getD 0),bv (Iy hs s).isSome]))):Nr (sU dst (Bd (.lkp (.p .string) (.int .i64 0) (.tmp t) (.tmp u) true))) call es:=by
 show SW _ _ _ _
 rw [sw_u,Fi]
 refine ⟨_,.keep,?_,h⟩
 simp only [Ay,e1,e2]
 show (match es.hp.get im with
  | some (.mapo _ es)=>match findD (.p .string) (.string s) es 0 with
   | some (some p)=>some (Gj true p.2.v true,Upd.keep)
   | some none=>some (Gj true (.v (.int .i64 0)) false,Upd.keep)
   | none=>none
  | _=>none)=_
 rw [hm]
 rcases RU s 0 hk with ⟨g1,g2,_⟩ | ⟨v,j,e,g1,g2,g3,_⟩
 .simp only [g2,g1];rfl
 .simp only [g2,g1,g3];rfl
end
end Go.DD

/- The tree of versions, some of which are reclaimed: what it reads as. Conditions: those that each theorem states. -/
namespace Go.DD
open Go Go.Proofs Go.Sort
def StO(ck:Nat)(es:List ME):Prop:=(∀ e∈es,e.b<ck)/\(es.map ME.b).Nodup
theorem Bc0{kd:KD}{k:Value} : ∀ {es:List ME} {i j:Nat} {e:ME},findD kd k es i=some (some (j,e))->∃ t,j=i+t/\es[t]?=some e
 | [],i,j,e,h=>by cases h
 | a::es,i,j,e,h=>by
  unfold findD at h
  split at h
  .cases h;exact ⟨0,rfl,rfl⟩
  .obtain ⟨t,h1,h2⟩:=Bc0 h
   exact ⟨t+1,by omega,h2⟩
  .cases h
theorem StO.put{k:Value}{v:DV}{ck Up:Nat}{es Cb:List ME}{kd:KD}(h:Nd kd k v ck es=some (Up,Cb))(hs:StO ck es):StO Up Cb:=by
 unfold Nd at h
 split at h
 .rename_i i e hf
  cases h
  obtain ⟨t,ht,h2⟩:=Bc0 hf
  rw [Cp] at ht
  subst ht
  have e1:(es.set i ⟨k,v,e.b⟩).map ME.b=es.map ME.b:=by
   rw [List.map_set]
   obtain ⟨h3,h4⟩:=As.1 h2
   refine Jj (by simp) λn h5 h6=>?_
   rw [Pu]
   split
   .rename_i hn;subst hn;rw [Fs,h4]
   .rfl
  refine ⟨λx hx=>?_,by rw [e1];exact hs.2⟩
  have:x.b∈es.map ME.b:=by rw [<- e1];exact Bm.2 ⟨x,hx,rfl⟩
  obtain ⟨y,hy,h5⟩:=Bm.1 this
  rw [<- h5];exact hs.1 y hy
 .cases h
  refine ⟨λx hx=>?_,?_⟩
  .rcases Aw.1 hx with hx | hx
   .have:=hs.1 x hx;omega
   .rw [Am.1 hx];exact Fq ck
  .rw [Cw]
   refine Iq.2 ⟨hs.2,by simp,λa ha b hb=>?_⟩
   obtain ⟨x,hx,rfl⟩:=Bm.1 ha
   have Ht:b=ck:=by simpa using hb
   have:=hs.1 x hx
   omega
 .cases h
section
variable {call:Bg} {es:ES} {dst:Option Pa} {q:Hold (ES->Prop)}
theorem B14{t:Nat}{u v:Operand}{im ck:Nat}{es':List ME}{hs:List (ByteArray×Int)}{s:ByteArray}{n:Int}(e1:es.ds.ev (.tmp t)=.mp im)(hm:es.hp.get im=some (.mapo ck es'))(hk:Mv es' hs)(If:StO ck es')(e2:es.ds.ev u=sv s)(e3:es.ds.ev v=iv n)
  (h:∀ Ao ck' Cb,Ao.get im=some (.mapo ck' Cb)->Mv Cb (Ny hs s n)/\StO ck' Cb->(∀ j,j≠im->Ao.get j=es.hp.get j)->q.val ((ES.mk es.sl Ao es.nx).putE dst .any)) :
  Nr (sU dst (Bd (.mup (.p .string) (.tmp t) u v))) call es:=by
 show SW _ _ _ _
 rw [sw_u,Fi]
 have fin:∀ Up Cb,Nd (.p .string) (.string s) (iv n) ck es'=some (Up,Cb)->Mv Cb (Ny hs s n)->UW (Ay es.nx es.ds (.mup (.p .string) (.tmp t) u v)) λd u=>q.val ((es.up u).putE dst d):=by
  intro Up Cb h1 h2
  refine ⟨.any,.wr im (.mapo Up Cb),?_,h (es.up (.wr im (.mapo Up Cb))).hp Up Cb (by rw [Kh,get_set,Af rfl]) ⟨h2,StO.put h1 If⟩ λj hj=>by rw [Kh,get_set,Ad hj]⟩
  simp only [Ay,e1,e2,e3]
  show (match es.hp.get im with
   | some (.mapo ck es)=>match Nd (.p .string) (.string s) (iv n) ck es with
    | some p=>some (DV.any,Upd.wr im (.mapo p.1 p.2))
    | none=>none
   | _=>none)=_
  rw [hm]
  simp only [h1]
 rcases RU s 0 hk with ⟨g1,g2,g3⟩ | ⟨v,j,e,g1,g2,g3,g4⟩
 .exact fin _ _ (by unfold Nd;rw [g2]) (g3 n ck)
 .exact fin _ _ (by unfold Nd;rw [g2]) (by rw [Cp];exact g4 n e.b)
end
structure GVer where
 cells:List PCell
 par:List Int
 gone:Bool
 deriving Inhabited
structure GTree where
 dims:List PDim
 attrs:List PAttr
 vers:List GVer
 heads:List (ByteArray×Int)
namespace GTree
def at'(S:GTree)(v:Nat):List PCell:=match v with
 | 0=>[]
 | v+1=>match S.vers[v]? with
  | some x=>x.cells
  | none=>[]
def parG(S:GTree)(v:Nat):List Int:=match v with
 | 0=>[]
 | v+1=>match S.vers[v]? with
  | some x=>x.par
  | none=>[]
def isG(S:GTree)(v:Nat):Bool:=match v with
 | 0=>false
 | v+1=>match S.vers[v]? with
  | some x=>x.gone
  | none=>false
def supF(S:GTree):Nat->Nat->Nat
 | 0,_=>0
 | n+1,v=>match S.parG v with
  | []=>0
  | p::_=>if S.isG p.toNat=true then supF S n p.toNat else p.toNat
def sup(S:GTree)(v:Nat):Nat:=S.supF v v
def nodeAt(S:GTree)(i:Nat):PNode:=⟨if S.isG (i+1)=true then [] else Sj (Hy [S.at' (S.sup (i+1)),S.at' (i+1)]),S.parG (i+1),S.isG (i+1)⟩
def nodes(S:GTree):List PNode:=(List.range S.vers.length).map S.nodeAt
structure OK (S:GTree):Prop where
 c:∀ x∈S.vers,Mo ⟨S.dims,S.attrs,x.cells⟩=0/\AOK ⟨S.dims,S.attrs,x.cells⟩/\x.cells.length<=255
 z:Mo ⟨S.dims,S.attrs,[]⟩=0/\AOK ⟨S.dims,S.attrs,[]⟩
 p:∀ v,1<=v->v<=S.vers.length->∀ q∈S.parG v,1<=q/\q<(v:Nat)
 n:S.vers.length<200
 l:∀ x∈S.vers,x.par.length<10
 h:∀ x∈S.heads,1<=x.2/\x.2<=(S.vers.length:Nat)/\S.isG x.2.toNat=false
theorem nodes_len(S:GTree):S.nodes.length=S.vers.length:=by unfold nodes;rw [Br,Fz]
theorem nodes_get{S:GTree}{i:Nat}(h:i<S.nodes.length):S.nodes[i]=S.nodeAt i:=by
 have h2:i<((List.range S.vers.length).map S.nodeAt).length:=h
 have:((List.range S.vers.length).map S.nodeAt)[i]=S.nodeAt i:=by rw [Fs,Ic]
 exact this
theorem Bc1{S:GTree}(h:S.OK):∀ {n v:Nat},v<=S.vers.length->v<=n->S.supF n v=S.supF v v
 | n,0,_,_=>by cases n <;> rfl
 | 0,v+1,_,h2=>by omega
 | n+1,v+1,h1,h2=>by
  have key:∀ m,v<=m->S.supF (m+1) (v+1)=match S.parG (v+1) with
   | []=>0
   | p::_=>if S.isG p.toNat=true then S.supF p.toNat p.toNat else p.toNat:=λm hm=>by
   show (match S.parG (v+1) with
    | []=>0
    | p::_=>if S.isG p.toNat=true then S.supF m p.toNat else p.toNat)=_
   cases hp:S.parG (v+1) with
   | nil=>rfl
   | cons q l=>
    have:=h.p (v+1) (by omega) h1 q (by rw [hp];simp)
    show (if S.isG q.toNat=true then S.supF m q.toNat else q.toNat)=if S.isG q.toNat=true then S.supF q.toNat q.toNat else q.toNat
    rw [Bc1 h (n:=m) (v:=q.toNat) (by omega) (by omega)]
  rw [key n (by omega),key v (Ai _)]
theorem sup_eq{S:GTree}(h:S.OK){v:Nat}(h1:1<=v)(h2:v<=S.vers.length):S.sup v=match S.parG v with
  | []=>0
  | p::_=>if S.isG p.toNat=true then S.sup p.toNat else p.toNat:=by
 obtain ⟨w,rfl⟩:∃ w,v=w+1:=⟨v-1,by omega⟩
 show (match S.parG (w+1) with
  | []=>0
  | p::_=>if S.isG p.toNat=true then S.supF w p.toNat else p.toNat)=_
 cases hp:S.parG (w+1) with
 | nil=>rfl
 | cons q l=>
  have:=h.p (w+1) (by omega) h2 q (by rw [hp];simp)
  show (if S.isG q.toNat=true then S.supF w q.toNat else q.toNat)=if S.isG q.toNat=true then S.sup q.toNat else q.toNat
  rw [Bc1 h (by omega) (by omega)]
  rfl
theorem sup_lt{S:GTree}(h:S.OK):∀ {v:Nat},1<=v->v<=S.vers.length->S.sup v<v/\S.isG (S.sup v)=false:=by
 intro v
 induction v using Nat.strongRecOn with
 | _ v ih=>
  intro h1 h2
  rw [sup_eq h h1 h2]
  cases hp:S.parG v with
  | nil=>exact ⟨by show 0<v;omega,rfl⟩
  | cons q l=>
   have hq:=h.p v h1 h2 q (by rw [hp];simp)
   show (if S.isG q.toNat=true then S.sup q.toNat else q.toNat)<v/\S.isG (if S.isG q.toNat=true then S.sup q.toNat else q.toNat)=false
   by_cases hg:S.isG q.toNat=true
   .rw [Af hg]
    have:=ih q.toNat (by omega) (by omega) (by omega)
    exact ⟨by omega,this.2⟩
   .rw [Ad hg]
    exact ⟨by omega,by simpa using hg⟩
end GTree
structure TreeG (hp:Tr DObj) (nx T H:Nat) (nd:DV) (S:GTree):Prop where
 th:T≠H/\T<nx/\H<nx
 r:∃ d a z,hp.get T=some (.row 140 [d,a,z,nd,.mp H])/\RL rDim hp (λj=>j<nx/\j≠T/\j≠H/\j∉nd.refs) d S.dims/\RL rAttr hp (λj=>j<nx/\j≠T/\j≠H/\j∉nd.refs) a S.attrs/\RL rCell hp (λj=>j<nx/\j≠T/\j≠H/\j∉nd.refs) z []
 m:∃ ck es,hp.get H=some (.mapo ck es)/\Mv es S.heads/\StO ck es
 n:OL rNode hp (λj=>j<nx/\j≠T/\j≠H/\j∉nd.refs) nd S.nodes
 nr:∀ j∈nd.refs,j<nx/\j≠T/\j≠H
 ok:S.OK
section
variable {hp Ao:Tr DObj} {nx Bk T H:Nat} {nd:DV} {S:GTree}
theorem TreeG.keep(h:TreeG hp nx T H nd S)(a:Al hp nx Ao Bk):TreeG Ao Bk T H nd S:=by
 have hle:=a.le
 obtain ⟨d,aa,z,h1,h2,h3,h4⟩:=h.r
 obtain ⟨ck,es,g1,g2⟩:=h.m
 have up:∀ j,(j<nx/\j≠T/\j≠H/\j∉nd.refs)->(j<Bk/\j≠T/\j≠H/\j∉nd.refs):=λj hj=>⟨by omega,hj.2⟩
 have kp:∀ j,(j<nx/\j≠T/\j≠H/\j∉nd.refs)->Ao.get j=hp.get j:=λj hj=>a.same j hj.1
 exact ⟨⟨h.th.1,by have:=h.th.2.1;omega,by have:=h.th.2.2;omega⟩,⟨d,aa,z,(a.same _ h.th.2.1).trans h1,(h2.keep kp).mono up,(h3.keep kp).mono up,(h4.keep kp).mono up⟩,⟨ck,es,(a.same _ h.th.2.2).trans g1,g2⟩,(h.n.keep λj hj=>hj.elim (kp j) λhj=>a.same j (h.nr j hj).1).mono up,λj hj=>⟨by have:=(h.nr j hj).1;omega,(h.nr j hj).2⟩,h.ok⟩
theorem TreeG.ld(h:TreeG hp nx T H nd S):∃ d a z,hp.get T=some (.row 140 [d,a,z,nd,.mp H])/\(On hp 0 (.pt T 0)=some (.pt T 0)/\On hp 3 (.pt T 0)=some (.pt T 3)/\On hp 4 (.pt T 0)=some (.pt T 4)/\On hp 1 (.pt T 0)=some (.pt T 1))/\(Gl hp none (.pt T 0)=some d/\Gl hp none (.pt T 1)=some a/\Gl hp none (.pt T 3)=some nd/\Gl hp none (.pt T 4)=some (.mp H))/\RL rDim hp (λj=>j<nx/\j≠T/\j≠H/\j∉nd.refs) d S.dims/\RL rAttr hp (λj=>j<nx/\j≠T/\j≠H/\j∉nd.refs) a S.attrs:=by
 obtain ⟨d,a,z,h1,h2,h3,_⟩:=h.r
 exact ⟨d,a,z,h1,⟨lF h1,lF h1,lF h1,lF h1⟩,⟨Qi h1 rfl,Qi h1 rfl,Qi h1 rfl,Qi h1 rfl⟩,h2,h3⟩
theorem TreeG.nl(h:TreeG hp nx T H nd S):RL rNode hp (λj=>j<nx/\j≠T/\j≠H) nd S.nodes:=h.n.rl.mono λj hj=>hj.elim (λh=>⟨h.1,h.2.1,h.2.2.1⟩) λhj=>h.nr j hj
theorem TreeG.ver(h:TreeG hp nx T H nd S){v:Nat}(hv:1<=v/\v<=S.vers.length):∃ (a b:DV),RL rChange hp (λj=>j<nx/\j≠T/\j≠H) a (if S.isG v=true then [] else Sj (Hy [S.at' (S.sup v),S.at' v]))/\RL rInt hp (λj=>j<nx/\j≠T/\j≠H) b (S.parG v)/\(Cd hp (Ca 3 nd (v-1))=Ca 3 nd (v-1)/\bF (Ca 3 nd (v-1))=some (Ca 3 nd (v-1)))/\(On hp 0 (Ca 3 nd (v-1))=some (Gi (Ca 3 nd (v-1)) 0)/\On hp 1 (Ca 3 nd (v-1))=some (Gi (Ca 3 nd (v-1)) 1)/\On hp 2 (Ca 3 nd (v-1))=some (Gi (Ca 3 nd (v-1)) 2))/\Gl hp none (Gi (Ca 3 nd (v-1)) 0)=some a/\Gl hp none (Gi (Ca 3 nd (v-1)) 1)=some b/\Gl hp none (Gi (Ca 3 nd (v-1)) 2)=some (bv (S.isG v)):=by
 have r:=h.nl
 have Ez:v-1<S.nodes.length:=by rw [S.nodes_len];omega
 obtain ⟨a,b,ra,rb,_,_,l0,l1,l2⟩:=wi r Ez
 rw [GTree.nodes_get Ez] at ra rb l2
 have e:v-1+1=v:=by omega
 unfold GTree.nodeAt at ra rb l2
 rw [e] at ra rb l2
 exact ⟨a,b,ra,rb,⟨Bm8 r 3 _,Cj8 h.n (λe=>by rw [e] at Ez;cases Ez) _⟩,⟨X3 r Ez,X3 r Ez,X3 r Ez⟩,l0,l1,l2⟩
variable (k:Nat) (K:DV->Tr DObj->Nat->Prop)
theorem Xw(h:TreeG hp nx T H nd S)(hK:K (bv true) hp nx):KW (kN (k+1)) (.fn 82) [.pt T 0] hp nx K:=by
 refine En (Hm (by decide)) t82 (Ab rfl) λes e1 e2 he=>?_
 have a0:Ae es (.t .o)=.pt T 0:=he 0 _ rfl
 unfold zd
 subst e1 e2
 obtain ⟨d,a,z,hT,⟨_,_,f4,_⟩,⟨_,_,_,l4⟩,_⟩:=h.ld
 obtain ⟨ck,bV,hH,_⟩:=h.m
 simp only [Ax,↓Ba,a0]
 refine iJ false (by simp only [Cg,bR,bP,Rk hT];rfl) B93 ?_
 simp only [Ax,↓Ba,bP,a0,↓Ut,Rk hT,Xg,f4,l4]
 refine iJ false (by simp only [Cg,bR,bP,Yq hH];rfl) B94 ?_
 simp only [Ax,↓Ba,bP]
 exact hK
structure TreeC (hp:Tr DObj) (B:Nat->Prop) (T H:Nat) (nd:DV) (S:GTree) (ch:Nat->List PCell):Prop where
 th:T≠H/\B T/\B H
 r:∃ d a z,hp.get T=some (.row 140 [d,a,z,nd,.mp H])/\RL rDim hp (λj=>B j/\j≠T/\j≠H/\j∉nd.refs) d S.dims/\RL rAttr hp (λj=>B j/\j≠T/\j≠H/\j∉nd.refs) a S.attrs/\RL rCell hp (λj=>B j/\j≠T/\j≠H/\j∉nd.refs) z []
 m:∃ ck es,hp.get H=some (.mapo ck es)/\Mv es S.heads/\StO ck es
 n:OL rNode hp (λj=>B j/\j≠T/\j≠H/\j∉nd.refs) nd ((List.range S.vers.length).map λi=>⟨ch i,S.parG (i+1),S.isG (i+1)⟩)
 nr:∀ j∈nd.refs,B j/\j≠T/\j≠H
 ok:S.OK
def GTree.chg(S:GTree)(i:Nat):List PCell:=if S.isG (i+1)=true then [] else Sj (Hy [S.at' (S.sup (i+1)),S.at' (i+1)])
theorem TreeG.toC(h:TreeG hp nx T H nd S):TreeC hp (Bl nx) T H nd S S.chg:=⟨h.th,h.r,h.m,h.n,h.nr,h.ok⟩
theorem TreeC.toG{ch:Nat->List PCell}(h:TreeC hp (Bl nx) T H nd S ch)(hc:∀ i,i<S.vers.length->ch i=S.chg i):TreeG hp nx T H nd S:=by
 have e:(List.range S.vers.length).map (λi=>(⟨ch i,S.parG (i+1),S.isG (i+1)⟩:PNode))=S.nodes:=Ea λi hi=>by rw [hc i (aS.1 hi)];rfl
 have hn:=h.n
 rw [e] at hn
 exact ⟨h.th,h.r,h.m,hn,h.nr,h.ok⟩
section
variable {ch:Nat->List PCell}
theorem TreeC.keep{B B':Nat->Prop}(h:TreeC hp B T H nd S ch)(hk:∀ j,B j->Ao.get j=hp.get j)(hb:∀ j,B j->B' j):TreeC Ao B' T H nd S ch:=by
 obtain ⟨d,aa,z,h1,h2,h3,h4⟩:=h.r
 obtain ⟨ck,es,g1,g2⟩:=h.m
 have up:∀ j,(B j/\j≠T/\j≠H/\j∉nd.refs)->(B' j/\j≠T/\j≠H/\j∉nd.refs):=λj hj=>⟨hb j hj.1,hj.2⟩
 have kp:∀ j,(B j/\j≠T/\j≠H/\j∉nd.refs)->Ao.get j=hp.get j:=λj hj=>hk j hj.1
 exact ⟨⟨h.th.1,hb _ h.th.2.1,hb _ h.th.2.2⟩,⟨d,aa,z,(hk _ h.th.2.1).trans h1,(h2.keep kp).mono up,(h3.keep kp).mono up,(h4.keep kp).mono up⟩,⟨ck,es,(hk _ h.th.2.2).trans g1,g2⟩,(h.n.keep λj hj=>hj.elim (kp j) λhj=>hk j (h.nr j hj).1).mono up,λj hj=>⟨hb j (h.nr j hj).1,(h.nr j hj).2⟩,h.ok⟩
theorem TreeC.nl{B:Nat->Prop}(h:TreeC hp B T H nd S ch):RL rNode hp (λj=>B j/\j≠T/\j≠H) nd ((List.range S.vers.length).map λi=>⟨ch i,S.parG (i+1),S.isG (i+1)⟩):=h.n.rl.mono λj hj=>hj.elim (λh=>⟨h.1,h.2.1,h.2.2.1⟩) λhj=>h.nr j hj
theorem TreeC.ver{B:Nat->Prop}(h:TreeC hp B T H nd S ch){i:Nat}(hi:i<S.vers.length):∃ (a b:DV),RL rChange hp (λj=>B j/\j≠T/\j≠H) a (ch i)/\RL rInt hp (λj=>B j/\j≠T/\j≠H) b (S.parG (i+1))/\(Cd hp (Ca 3 nd i)=Ca 3 nd i/\bF (Ca 3 nd i)=some (Ca 3 nd i))/\(On hp 0 (Ca 3 nd i)=some (Gi (Ca 3 nd i) 0)/\On hp 1 (Ca 3 nd i)=some (Gi (Ca 3 nd i) 1)/\On hp 2 (Ca 3 nd i)=some (Gi (Ca 3 nd i) 2))/\Gl hp none (Gi (Ca 3 nd i) 0)=some a/\Gl hp none (Gi (Ca 3 nd i) 1)=some b/\Gl hp none (Gi (Ca 3 nd i) 2)=some (bv (S.isG (i+1)))/\Rr hp 3 nd (.v (.int .i64 (i:Int)))=some (Ca 3 nd i)/\Gl hp (some 3) (Ca 3 nd i)=some (.agg [a,b,bv (S.isG (i+1))]):=by
 have r:=h.nl
 have Ez:i<((List.range S.vers.length).map λi=>(⟨ch i,S.parG (i+1),S.isG (i+1)⟩:PNode)).length:=by rw [Br,Fz];exact hi
 obtain ⟨a,b,ra,rb,l9,_,l0,l1,l2⟩:=wi r Ez
 rw [Fs,Ic] at ra rb l2 l9
 exact ⟨a,b,ra,rb,⟨Bm8 r 3 _,Cj8 h.n (λe=>by rw [e] at Ez;cases Ez) _⟩,⟨X3 r Ez,X3 r Ez,X3 r Ez⟩,l0,l1,l2,r.ia Ez,l9⟩
theorem TreeC.verV{B:Nat->Prop}(h:TreeC hp B T H nd S ch){v:Nat}(hv:1<=v/\v<=S.vers.length):∃ (b:DV),RL rInt hp (λj=>B j/\j≠T/\j≠H) b (S.parG v)/\(Cd hp (Ca 3 nd (v-1))=Ca 3 nd (v-1)/\bF (Ca 3 nd (v-1))=some (Ca 3 nd (v-1)))/\(On hp 0 (Ca 3 nd (v-1))=some (Gi (Ca 3 nd (v-1)) 0)/\On hp 1 (Ca 3 nd (v-1))=some (Gi (Ca 3 nd (v-1)) 1)/\On hp 2 (Ca 3 nd (v-1))=some (Gi (Ca 3 nd (v-1)) 2))/\Gl hp none (Gi (Ca 3 nd (v-1)) 1)=some b/\Gl hp none (Gi (Ca 3 nd (v-1)) 2)=some (bv (S.isG v))/\Rr hp 3 nd (.v (.int .i64 ((v-1:Nat):Int)))=some (Ca 3 nd (v-1)):=by
 obtain ⟨i,rfl⟩:∃ i,v=i+1:=⟨v-1,by omega⟩
 obtain ⟨_,b,_,rb,lv,f,_,l1,l2,ia,_⟩:=h.ver (i:=i) (by omega)
 exact ⟨b,rb,lv,f,l1,l2,ia⟩
variable (k:Nat) (K:DV->Tr DObj->Nat->Prop)
theorem MR(v:Nat){B:Nat->Prop}(h:TreeC hp B T H nd S ch)(hv:1<=v/\v<=S.vers.length)(hK:K (Ca 3 nd (v-1)) hp nx):KW (kN (k+1)) (.fn 99) [.pt T 0,iv (v:Nat)] hp nx K:=by
 refine En (Hm (by decide)) t99 (Ab rfl) λes e1 e2 he=>?_
 have a0:Ae es (.t .o)=.pt T 0:=he 0 _ rfl
 have a1:Ae es (.t (.l .o))=iv (v:Nat):=he 1 _ rfl
 unfold yr
 subst e1 e2
 obtain ⟨d,a,z,hT,_⟩:=h.r
 have hn:=h.ok.n
 obtain ⟨_,_,⟨lv,_⟩,_,_,_,eH⟩:=h.verV hv
 simp only [Ax,↓Ba,bP,a0,a1,↓Ut,Rk hT,Xg,lF (k:=3) hT,show Gl es.hp none (.pt T 3)=some nd from Qi hT rfl,Y7 v (by omega) (by omega),eH,lv]
 exact hK
theorem uv(v:Nat)(h:TreeG hp nx T H nd S)(hv:1<=v/\v<=S.vers.length)(hK:K (Ca 3 nd (v-1)) hp nx):KW (kN (k+1)) (.fn 99) [.pt T 0,iv (v:Nat)] hp nx K:=MR k K v h.toC hv hK
end
end
end Go.DD

/- Contracts: a version's support and its cells, where some are reclaimed. Conditions: those that each theorem states. -/
namespace Go.DD
open Go Go.Proofs Go.Sort
theorem GTree.OK.chk{S:GTree}(h:S.OK)(v:Nat):Mo ⟨S.dims,S.attrs,S.at' v⟩=0/\AOK ⟨S.dims,S.attrs,S.at' v⟩/\(S.at' v).length<=255:=by
 cases v with
 | zero=>exact ⟨h.z.1,h.z.2,Gu _⟩
 | succ v=>
  have e:S.at' (v+1)=match S.vers[v]? with
   | some x=>x.cells
   | none=>[]:=rfl
  rw [e]
  cases hx:S.vers[v]? with
  | none=>exact ⟨h.z.1,h.z.2,Gu _⟩
  | some x=>exact h.c x (Au hx)
theorem TreeG.chgQ{hp:Tr DObj}{nx T H:Nat}{nd:DV}{S:GTree}(h:TreeG hp nx T H nd S){v:Nat}(hv:1<=v/\v<=S.vers.length){a:DV}(ha:Gl hp none (Gi (Ca 3 nd (v-1)) 0)=some a):RL rChange hp (λj=>j<nx/\j≠T/\j≠H/\j∉nd.refs) a (if S.isG v=true then [] else Sj (Hy [S.at' (S.sup v),S.at' v])):=by
 have Ez:v-1<S.nodes.length:=by rw [S.nodes_len];omega
 have e:v-1+1=v:=by omega
 have key:∀ {p:Nat->Prop} {l:List PNode} (_:OL rNode hp p nd l) (Ez:v-1<l.length),∃ a,RL rChange hp p a l[v-1].chg/\Gl hp none (Gi (Ca 3 nd (v-1)) 0)=some a:=by
  intro p l hn Ez
  cases hn with
  | nil=>simp at Ez
  | ms id fl l hg hr=>
   obtain ⟨rest,e1,h2⟩:=hr.at Ez
   obtain ⟨a,b,e2,h3,_⟩:=rNode_rd.1 h2
   refine ⟨a,h3,?_⟩
   show Gl hp none (.pt id (0+(v-1)*3+0))=_
   rw [e2] at e1
   have lG:fl.drop ((v-1)*3)=a::b::bv _::rest:=e1
   rw [Ro hg,Cp,Oq,lG]
   rfl
 obtain ⟨a',h1,h2⟩:=key h.n Ez
 rw [h2] at ha
 cases ha
 rw [GTree.nodes_get Ez] at h1
 unfold GTree.nodeAt at h1
 rw [e] at h1
 exact h1
section
variable {hp:Tr DObj} {nx T H:Nat} {nd:DV} {S:GTree} (k:Nat) (K:DV->Tr DObj->Nat->Prop)
theorem A28{ch:Nat->List PCell}{B:Nat->Prop}(v:Nat)(h:TreeC hp B T H nd S ch)(hv:1<=v/\v<=S.vers.length)(hK:K (iv (S.sup v:Nat)) hp nx):KW (kN (k+2)) (.fn 98) [.pt T 0,iv (v:Nat)] hp nx K:=by
 refine En (Hm (by decide)) t98 (Ab rfl) λes e1 e2 he=>?_
 have a0:Ae es (.t .o)=.pt T 0:=he 0 _ rfl
 have a1:Ae es (.t (.l .o))=iv (v:Nat):=he 1 _ rfl
 unfold yu
 subst e1 e2
 obtain ⟨b,rb,⟨lv,nc⟩,⟨_,f1,_⟩,l1,_,_⟩:=h.verV hv
 have hn:=h.ok.n
 simp only [Ax,↓Ba,a0,a1]
 refine Fl (MR k _ v h hv ?_)
 simp only [Ax,↓Ba,bP,↓Ut,lv,nc,f1,l1]
 refine EW.l (λm An=>An.hp=es.hp/\An.nx=es.nx/\Ae An (.t .o)=.pt T 0/\∃ u b,m=u/\(1<=u/\u<=S.vers.length)/\S.sup u=S.sup v/\RL rInt es.hp (λj=>B j/\j≠T/\j≠H) b (S.parG u)/\Ae An (.t (.l (.r .o)))=b) ?_ v 1000000 _ ⟨rfl,rfl,by simp only [bR,a0],v,b,rfl,hv,rfl,rb,by simp only [bR]⟩ (by omega)
 rintro m An ⟨g1,g2,b0,u,b,rfl,hu,hs,rb,b5⟩
 unfold xG
 have h1:TreeC An.hp B T H nd S ch:=by rw [g1];exact h
 rw [<- g1,<- g2] at hK
 rw [<- g1] at rb
 have HO:=GTree.sup_eq h.ok hu.1 hu.2
 cases bJ:S.parG m with
 | nil=>
  rw [bJ] at rb HO
  rw [<- hs,HO] at hK
  simp only [Ax,↓Ba,bP,b5,rb.len,My,show decide ((0:Int)<0)=false from rfl]
  exact hK
 | cons q ps=>
  have hq:=h.ok.p m hu.1 hu.2 q (by rw [bJ];simp)
  obtain ⟨n,rfl⟩:=Wm (show 0<=q by omega)
  rw [bJ] at rb HO
  obtain ⟨b',rb',⟨ZZ,ZX⟩,⟨_,mo,f2'⟩,l1',S4,_⟩:=h1.verV (v:=n) ⟨by omega,by omega⟩
  have hlen:(0:Nat)<((n:Int)::ps).length:=by simp
  have li:=ints_at rb hlen
  have ia:=wh rb hlen
  simp only [Ax,↓Ba,b0,b5,rb.len,show decide ((0:Int)<((((n:Int)::ps).length:Nat):Int))=true from Ar (by omega),ia,li,Ho]
  refine Fl (MR k _ n h1 ⟨by omega,by omega⟩ ?_)
  cases hg:S.isG n with
  | false=>
   rw [hg] at S4
   have e:S.sup v=n:=by
    rw [<- hs,HO]
    show (if S.isG n=true then S.sup n else n)=n
    rw [hg,Ad (by simp)]
   rw [e] at hK
   simp only [Ax,↓Ba,bP,b5,↓Ut,ZZ,ZX,f2',S4,ia,li,Ho]
   exact hK
  | true=>
   rw [hg] at S4
   have e:S.sup n=S.sup v:=by
    rw [<- hs,HO]
    show _=(if S.isG n=true then S.sup n else n)
    rw [hg,Af rfl]
   simp only [Ax,↓Ba,bP,b0,b5,↓Ut,ZZ,ZX,f2',S4,ia,li,Ho]
   refine Fl (MR k _ n h1 ⟨by omega,by omega⟩ ?_)
   simp only [Ax,↓Ba,bP,b0,↓Ut,ZZ,ZX,mo,l1']
   exact ⟨n,by omega,g1,g2,n,b',rfl,⟨by omega,by omega⟩,e,by rw [<- g1];exact rb',rfl⟩
theorem Bq3(v:Nat)(h:TreeG hp nx T H nd S)(hv:1<=v/\v<=S.vers.length)(hK:K (iv (S.sup v:Nat)) hp nx):KW (kN (k+2)) (.fn 98) [.pt T 0,iv (v:Nat)] hp nx K:=A28 k K v h.toC hv hK
theorem xj{n1:Nat} : ∀ (n k v:Nat) (hp:Tr DObj) (nx:Nat) (K:DV->Tr DObj->Nat->Prop),v<=n->v<=S.vers.length->S.isG v=false->n1<=nx->TreeG hp n1 T H nd S->(∀ Ao Bk z,Al hp nx Ao Bk->RL rCell Ao (λj=>(j<n1/\j≠T/\j≠H/\j∉nd.refs)\/(nx<=j/\j<Bk)) z (S.at' v)->(∀ j∈z.refs,nx<=j)->K z Ao Bk)->KW (kN (k+n+8)) (.fn 97) [.pt T 0,iv (v:Nat)] hp nx K
 | 0,k,v,hp,nx,K,hv,I5,hg,oT,h0,hK=>by
  obtain rfl:v=0:=by omega
  refine En (Hm (by decide)) VR (Ab rfl) λes e1 e2 he=>?_
  have a0:Ae es (.t .o)=.pt T 0:=he 0 _ rfl
  have a1:Ae es (.t (.l .o))=iv ((0:Nat)):=he 1 _ rfl
  unfold OZ
  subst e1 e2
  simp only [Ax,↓Ba,bP,a1]
  exact hK _ _ Cl (Al.refl _ _) .nil λj hj=>by cases hj
 | n+1,k,v,hp,nx,K,hv,I5,hg,oT,ke,hK=>by
  by_cases h0:v=0
  .subst h0
   refine En (Hm (by decide)) VR (Ab rfl) λes e1 e2 he=>?_
   have a0:Ae es (.t .o)=.pt T 0:=he 0 _ rfl
   have a1:Ae es (.t (.l .o))=iv ((0:Nat)):=he 1 _ rfl
   unfold OZ
   subst e1 e2
   simp only [Ax,↓Ba,bP,a1]
   exact hK _ _ Cl (Al.refl _ _) .nil λj hj=>by cases hj
  refine En (Hm (by decide)) VR (Ab rfl) λes e1 e2 he=>?_
  have a0:Ae es (.t .o)=.pt T 0:=he 0 _ rfl
  have a1:Ae es (.t (.l .o))=iv (v:Nat):=he 1 _ rfl
  unfold OZ
  subst e1 e2
  have T0:1<=v/\v<=S.vers.length:=by omega
  have h:TreeG es.hp es.nx T H nd S:=ke.keep ⟨oT,λ_ _=>rfl⟩
  obtain ⟨a,b,ra,_,⟨lv,nc⟩,⟨f0,_,_⟩,l0,_,_⟩:=h.ver T0
  rw [hg,Ad (by simp)] at ra
  have yp:=ke.chgQ T0 l0
  rw [hg,Ad (by simp)] at yp
  obtain ⟨d,aa,z,hT,_⟩:=h.ld
  simp only [Ax,↓Ba,a0,a1,show decide ((v:Int)=0)=false from Aj (by omega),Mp (n0:=es.nx) (m:=13) hT h.th.2.1]
  refine Nt rfl (Xi ?_)
  simp only [bR,Ag,Ak]
  refine uv _ _ v (h.keep (Al.ini es.hp (by omega:es.nx<=es.nx+13))) T0 ?_
  have r:=h.nl
  have b3:∀ j,(j<es.nx/\j≠T/\j≠H)->j<es.nx:=λj hj=>hj.1
  have ld:=ra.live
  simp only [Ax,↓Ba,bP,a0,a1,↓Y8,lv,nc,f0,l0,uy r b3,xk r b3,Mp (n0:=es.nx) (m:=13) hT h.th.2.1]
  refine Nt rfl (Xi ?_)
  simp only [bR,Ag,Ak]
  refine Bq3 _ _ v (h.keep (Al.ini es.hp (by omega:es.nx<=es.nx+13))) T0 ?_
  simp only [Ax,↓Ba,Mp (n0:=es.nx) (m:=13) hT h.th.2.1]
  refine Nt rfl (Xi ?_)
  simp only [bR,Ag,Ak]
  obtain ⟨HM,L3⟩:=GTree.sup_lt h.ok T0.1 T0.2
  refine xj n k (S.sup v) _ _ _ (by omega) (by omega) L3 (by omega) ke λDb Hz z Xf rz XN=>?_
  have Hj:=Xf.le
  have k2:∀ j,j<es.nx->Db.get j=es.hp.get j:=λj hj=>Xf.same j (by omega)
  obtain ⟨xc,xo,xl⟩:=h.ok.chk v
  obtain ⟨sc,so,sl⟩:=h.ok.chk (S.sup v)
  have ond:=B92 (x:=⟨S.dims,S.attrs,S.at' (S.sup v)⟩) (y:=⟨S.dims,S.attrs,S.at' v⟩) sc xc
  have Mt:=By0 (Hy [S.at' (S.sup v),S.at' v])
  have oA:(Hy [S.at' (S.sup v),S.at' v]).length<=Za [S.at' (S.sup v),S.at' v]:=Bb0
  have rD:Za [S.at' (S.sup v),S.at' v]=(S.at' (S.sup v)).length+(S.at' v).length:=by simp [Za]
  have r2:=r.keep (Ao:=Db) λj hj=>k2 j hj.1
  have wF:=ra.keep (Ao:=Db) λj hj=>k2 j hj.1
  have oz:∀ {an:List Nat},Ii z (λid=>Cs es.nx 13 an Db id)↔True:=B5 rz XN
  simp only [Ax,↓Ba,Hj,rZ wF b3,oz]
  refine Nt rfl (Xi ?_)
  simp only [bR,Ag,Ak]
  have ra8:=yp.keep (Ao:=Db) λj hj=>k2 j (by omega)
  refine Cj5 _ _ _ _ (λj=>(j<n1/\j≠T/\j≠H/\j∉nd.refs)\/(es.nx<=j/\j<Hz)) a z _ _ (λj hj=>by omega) (ra8.mono λ_ hj=>.inl hj) (rz.mono λj hj=>hj.imp id λh=>⟨by omega,h.2⟩) (by omega) (iK sc).1 (λc hc=>(so.e c hc).1) λGr Dx z3 Uq nD OY=>?_
  have Jb:=Uq.le
  have ZR:∀ {an:List Nat},Ii z3 (λid=>Cs es.nx 13 an Gr id)↔True:=B5 nD λj hj=>by have:=OY j hj;omega
  rw [ond] at nD
  simp only [Ax,↓Ba,bP,Jb,ZR,nD.live]
  have k3:∀ j,j<es.nx->Gr.get j=es.hp.get j:=λj hj=>(Uq.same j (by omega)).trans (k2 j hj)
  have hP:Uh es.nx es.hp [⟨11,[5,10,4,3,2,0,1,6,9,7,8],Db,Gr⟩,⟨10,[6,9,7,8,2,0,1],es.hp,Db⟩,⟨9,[7,8,2,0,1],es.hp,es.hp⟩,⟨2,[0,1],es.hp,es.hp⟩]:=rT k2 k3 (rT (λ_ _=>rfl) k2 (rT (λ_ _=>rfl) (λ_ _=>rfl) (rT (λ_ _=>rfl) (λ_ _=>rfl) ux)))
  exact ⟨TR hP (Cj9 h.th.2.1) (TR hP (Cj9 h.th.2.1) (uw hP r b3 (λj hj=>uS _ _ _ _ (Bl2 _ _ _ hj)) (uw hP r b3 (uS _ _ _) (uw hP r b3 (uS _ _ _) rfl)))),hK _ _ _ ((Al.ini es.hp (by omega:es.nx<=es.nx+13)).trans (Xf.trans Uq)) (nD.mono λj hj=>hj.elim (λhj=>hj.imp id λh=>⟨h.1,by omega⟩) λhj=>.inr ⟨by omega,hj.2⟩) λj hj=>by (have:=OY j hj);omega⟩
theorem Bn0(n k v:Nat)(hp:Tr DObj)(nx:Nat)(K:DV->Tr DObj->Nat->Prop)(hv:v<=n)(I5:v<=S.vers.length)(hg:S.isG v=false)(h:TreeG hp nx T H nd S)(hK:∀ Ao Bk z,Al hp nx Ao Bk->RL rCell Ao (Bl Bk) z (S.at' v)->(∀ j∈z.refs,nx<=j)->K z Ao Bk):KW (kN (k+n+8)) (.fn 97) [.pt T 0,iv (v:Nat)] hp nx K:=
 xj n k v hp nx K hv I5 hg (Ai _) h λAo Bk z al rz=>hK Ao Bk z al (rz.mono λ_ hj=>hj.elim (λh=>Bp h.1 al.le) λh=>h.2)
end
end Go.DD

/- Contracts: a version's array. Conditions: those that each theorem states. -/
namespace Go.DD
open Go Go.Proofs Go.Sort
section
variable {T H:Nat} {nd:DV} {S:PTree}
end
end Go.DD

/- Contracts: a version as an array of its own. Conditions: those that each theorem states. -/
namespace Go.DD
open Go Go.Proofs Go.Sort
section
variable {hp:Tr DObj} {nx T H:Nat} {nd:DV} {S:PTree}
variable (k:Nat) (K:DV->Tr DObj->Nat->Prop)
end
end Go.DD

/- Contracts: the present versions; which numbers are versions. Conditions: those that each theorem states. -/
namespace Go.DD
open Go Go.Proofs Go.Sort
theorem tn{hp:Tr DObj}{a b:DV}{x:Bool}(ha:∀ id∈a.refs,(hp.get id).isSome=true)(hb:∀ id∈b.refs,(hp.get id).isSome=true):Cd hp (.agg [a,b,bv x])=.agg [a,b,bv x]:=Wc λid hid=>by
 have:id∈a.refs\/id∈b.refs:=by simpa [DV.refs,DV.refsL,bv] using hid
 exact this.elim (ha id) (hb id)
section
variable {hp:Tr DObj} {nx T H:Nat} {nd:DV} {S:PTree} (k:Nat) (K:DV->Tr DObj->Nat->Prop)
end
end Go.DD

/- Contracts: a version as an array of its own; the present versions; where some are reclaimed. Conditions: those that each theorem states. -/
namespace Go.DD
open Go Go.Proofs Go.Sort
section
variable {hp:Tr DObj} {nx T H:Nat} {nd:DV} {S:GTree}
theorem TreeG.sz(h:TreeG hp nx T H nd S){U:Nat}{cs:List DV}(g:hp.get T=some (.row U cs)):∀ c∈cs,Oz 6 c c=true:=by
 obtain ⟨d,a,z,h1,h2,h3,h4⟩:=h.r
 rw [h1] at g
 cases g
 intro c hc
 simp only [Aq,Ci,or_false] at hc
 rcases hc with rfl | rfl | rfl | rfl | rfl
 .exact h2.same (by decide)
 .exact h3.same (by decide)
 .exact h4.same (by decide)
 .exact h.n.rl.same (by decide)
 .simp [Oz]
theorem Ck0{n m i:Nat}{an lo:List Nat}{c:Bool}{ws:List Look}{ps:List Past}{off:Nat}(h:TreeG hp nx T H nd S)(hn:nx<=n)(hP:Uh nx hp ps)(h2:Qw n m ws ps=true):Qw n m (Gt i an true c (DV.pt T off).refs n lo ws) ps=true:=by
 obtain ⟨d,a,z,g,_⟩:=h.r
 exact qS (λj hj=>by simpa [DV.refs] using hj) (Bp h.th.2.1 hn) (λq hq=>⟨((hP q hq).1 _ h.th.2.1).trans g,((hP q hq).2 _ h.th.2.1).trans g⟩) (h.sz g) h2
variable (k:Nat) (K:DV->Tr DObj->Nat->Prop)
theorem B97(f v:Nat)(h:TreeG hp nx T H nd S)(hv:v<=S.vers.length)(hg:S.isG v=false)(hf:v<=f)
  (hK:∀ Ao Bk d',Al hp nx Ao Bk->AR Ao (Bw nx Bk) d' ⟨S.dims,S.attrs,S.at' v⟩->AOw Ao d'->K (.tup [d',iv 0]) Ao Bk):KW (kN (k+f+19)) (.fn 85) [.pt T 0,iv (v:Nat)] hp nx K:=by
 refine nX (Hm (by decide)) t85 (Ab rfl) λes e1 e2 he=>?_
 have a0:Ae es (.t .o)=.pt T 0:=he 0 _ rfl
 have a1:Ae es (.t (.l .o))=iv (v:Nat):=he 1 _ rfl
 unfold yz
 subst e1 e2
 simp only [↓Ba]
 refine Vr λEi Dm Cv=>?_
 simp only [bR] at Dm Cv
 have cY:Al es.hp es.nx Ei (es.nx+1):=⟨by omega,λj hj=>Cv j (by omega)⟩
 have h1:=h.keep cY
 obtain ⟨d,a,z,hT,⟨f0,_,_,f1⟩,⟨l0,l1,_,_⟩,rd,ra⟩:=h1.ld
 have b3:∀ j,(j<es.nx+1/\j≠T/\j≠H/\j∉nd.refs)->j<es.nx+1:=λj hj=>hj.1
 simp only [Ax,↓Ba,bP,a0,a1,↓Y8,Rk hT,Xg,f0,f1,l0,l1,Mp (n0:=es.nx+1) (m:=18) hT h1.th.2.1]
 refine Nt rfl (Xi ?_)
 simp only [bR,Ag,Ak]
 refine Bn0 (f+10) k v _ _ _ (by omega) hv hg (h1.keep (Al.ini Ei (by omega:es.nx+1<=es.nx+1+18))) λDb Hz z2 Xf rz XN=>?_
 have Hj:=Xf.le
 have k2:∀ j,j<es.nx+1->Db.get j=Ei.get j:=λj hj=>Xf.same j (by omega)
 have OX:=rd.keep (Ao:=Db) λj hj=>k2 j hj.1
 have wF:=ra.keep (Ao:=Db) λj hj=>k2 j hj.1
 have oz:∀ {an:List Nat},Ii z2 (λid=>Cs (es.nx+1) 18 an Db id)↔True:=B5 rz XN
 simp only [Ax,↓Ba,Hj,rZ OX b3,rZ wF b3,oz]
 refine Nt rfl (Xi ?_)
 simp only [bR,Ag,Ak]
 obtain ⟨sc,so,sl⟩:=h.ok.chk v
 refine tv (k+f) Hz _ _ _ 8 d a z2 ⟨S.dims,S.attrs,S.at' v⟩ (Ai _) (OX.mono λj hj=>by (have:=hj.1;show j<Hz);omega) (wF.mono λj hj=>by (have:=hj.1;show j<Hz);omega) rz sc so (by show (S.at' v).length<=2 ^ 8;omega) λJf Kw d6 Sz pK tO=>?_
 have Vj:=Sz.le
 obtain ⟨dd,da,cX,rfl,v1,v2,v3⟩:=pK
 have x0:Fv Jf (.tup [.agg [dd,da,cX],iv 0]) 0=some (.agg [dd,da,cX]):=jI v1 v2 v3
 have x1:Fv Jf (.tup [.agg [dd,da,cX],iv 0]) 1=some (iv 0):=Yk
 have LC:=(Sz.same es.nx (by omega)).trans ((k2 es.nx (by omega)).trans Dm)
 have CD:∀ an,Ii (.agg [dd,da,cX]) (λid=>Cs (es.nx+1) 18 an Jf id):=λan id hid=>by
  have:id∈dd.refs\/id∈da.refs\/id∈cX.refs:=by simpa [DV.refs,DV.refsL] using hid
  have w1:=v1.ro' (n:=es.nx+1) (m:=18) (an:=an) λj hj=>.inr (by have:=hj.1;omega)
  have w2:=v2.ro' (n:=es.nx+1) (m:=18) (an:=an) λj hj=>.inr (by have:=hj.1;omega)
  have w3:=v3.ro' (n:=es.nx+1) (m:=18) (an:=an) λj hj=>.inr (by have:=hj.1;omega)
  exact this.elim (w1 id) λh=>h.elim (w2 id) (w3 id)
 have S0:∀ an,Ii (.tup [.agg [dd,da,cX],iv 0]) (λid=>Cs (es.nx+1) 18 an Jf id):=λan id hid=>CD an id (by simpa [DV.refs,DV.refsL,iv] using hid)
 simp only [Ax,↓Ba,Vj,x0,x1,Bn (CD _),Bn (S0 _),Mp (n0:=es.nx+1) (m:=18) LC (show es.nx<es.nx+1 by omega)]
 refine Nt rfl (Uu (n:=3) (id:=es.nx) (ds:=[dd,da,cX]) (by simp only [bR]) LC (by simp only [Hl,bR];exact AR.live (x:=⟨S.dims,S.attrs,S.at' v⟩) v1 v2 v3) rfl rfl λNz Td Md=>?_)
 simp only [bR] at Td Md
 simp only [Ax,↓Ba]
 have k6:∀ j,j<es.nx->Jf.get j=es.hp.get j:=λj hj=>(Sz.same j (by omega)).trans ((k2 j (by omega)).trans (cY.same j hj))
 have k7:∀ j,j<es.nx->Nz.get j=es.hp.get j:=λj hj=>(Md j (by omega)).trans (k6 j hj)
 have hP:Uh es.nx es.hp [⟨16,[14,13,0,1,2,3,4,5,6,7,8,9,10,11,12,15],Jf,Nz⟩,⟨13,[4,9,12,3,2,1,0,8,7,6,5,10,11],Db,Jf⟩,⟨12,[10,11],Ei,Db⟩]:=rT k6 k7 (rT (λj hj=>(k2 j (by omega)).trans (cY.same j hj)) k6 (rT (λj hj=>cY.same j hj) (λj hj=>(k2 j (by omega)).trans (cY.same j hj)) ux))
 have ok:∀ {i:Nat} {an lo:List Nat} {c:Bool} {ws:List Look} {off:Nat},Qw (es.nx+1) 18 ws _=true->Qw (es.nx+1) 18 (Gt i an true c (DV.pt T off).refs (es.nx+1) lo ws) _=true:=λh2=>Ck0 h (Nat.le_succ _) hP h2
 have up:∀ j,Bw Hz Kw j->Bw es.nx Kw j:=λj hj=>⟨by have:=hj.1;omega,hj.2⟩
 have kp:∀ j,Bw Hz Kw j->Nz.get j=Jf.get j:=λj hj=>Md j (by have:=hj.1;omega)
 exact ⟨ok (ok (ok (ok (ok (ok (ok (ok (ok (ok rfl))))))))),_,_,B6 (by simp only [bR,bP]) Td rfl,by rw [MV];simp only [bR,bP,Ns],hK _ _ _ ⟨by omega,k7⟩ ⟨dd,da,cX,rfl,(v1.keep kp).mono up,(v2.keep kp).mono up,(v3.keep kp).mono up⟩ (.of ((tO _ _ _ rfl).keep λj hj=>kp j (v3.refs j hj).1))⟩
end
section
variable {hp:Tr DObj} {nx T H:Nat} {nd:DV} {S:GTree} (k:Nat) (K:DV->Tr DObj->Nat->Prop)
theorem vp(v:Nat)(h:TreeG hp nx T H nd S)(hv:1<=v/\v<=S.vers.length)(hK:K (iv (if S.isG v=true then 23 else 0)) hp nx):KW (kN (k+2)) (.fn 84) [.pt T 0,iv (v:Nat)] hp nx K:=by
 refine En (Hm (by decide)) t84 (Ab rfl) λes e1 e2 he=>?_
 have a0:Ae es (.t .o)=.pt T 0:=he 0 _ rfl
 have a1:Ae es (.t (.l .o))=iv (v:Nat):=he 1 _ rfl
 unfold za
 subst e1 e2
 obtain ⟨d,aa,z,hT,⟨_,f3,_,_⟩,⟨_,_,l3,_⟩,_⟩:=h.ld
 obtain ⟨a,b,_,rb,⟨lv,nc⟩,⟨_,_,f2⟩,_,_,l2⟩:=h.ver hv
 have r:=h.nl
 have hlen:Qo es.hp nd=some (.v (.int .i64 (S.vers.length:Int))):=by rw [r.len,S.nodes_len]
 simp only [Ax,↓Ba,bP,a0,a1,show decide ((v:Int)<1)=false from Aj (by omega),↓Ut,Rk hT,Xg,f3,l3,hlen,show decide (S.vers.length<v)=false from Aj (by omega)]
 refine Fl (uv k _ v h hv ?_)
 cases hg:S.isG v with
 | false=>
  rw [hg] at l2 hK
  simp only [Ax,↓Ba,bP,↓Ut,lv,nc,f2,l2]
  exact hK
 | true=>
  rw [hg] at l2 hK
  simp only [Ax,↓Ba,bP,↓Ut,lv,nc,f2,l2]
  exact hK
def Je(S:GTree)(i:Nat):List Int:=((List.range i).filter λj=>!S.isG (j+1)).map λj=>((j+1:Nat):Int)
theorem TI{S:GTree}{i:Nat} : Je S (i+1)=Je S i++if S.isG (i+1)=true then [] else [((i+1:Nat):Int)]:=by
 unfold Je
 rw [Mw,Na,Cw]
 cases h:S.isG (i+1) <;> simp [List.filter,h]
theorem B16{S:GTree}{i:Nat} : (Je S i).length<=i:=by
 unfold Je
 rw [Br]
 exact Ep (List.length_filter_le _ _) (by rw [Fz];exact Ai _)
theorem vx(h:TreeG hp nx T H nd S)(hK:∀ Ao Bk z,Al hp nx Ao Bk->RL rInt Ao (Bl Bk) z (Je S S.vers.length)->K z Ao Bk):KW (kN (k+2)) (.fn 37) [.pt T 0] hp nx K:=by
 refine En (Hm (by decide)) t37 (Ab rfl) λes e1 e2 he=>?_
 have a0:Ae es (.t .o)=.pt T 0:=he 0 _ rfl
 unfold zw
 subst e1 e2
 obtain ⟨d,aa,z,hT,⟨_,f3,_,_⟩,⟨_,_,l3,_⟩,_⟩:=h.ld
 have r:=h.nl
 have hlen:Qo es.hp nd=some (.v (.int .i64 (S.vers.length:Int))):=by rw [r.len,S.nodes_len]
 have IQ:=h.ok.n
 simp only [Ax,↓Ba,a0]
 refine Fl (Xw k _ h ?_)
 simp only [Ax,↓Ba,bP,a0,↓Ut,Rk hT,Xg,f3,l3,hlen]
 refine EW.up S.vers.length (λi An=>∃ z,Al es.hp es.nx An.hp An.nx/\OL rInt An.hp (λ_=>False) z (Je S i)/\(∀ j∈z.refs,es.nx<=j/\j<An.nx)/\Ae An (.t (.l (.l .o)))=z/\Ae An (.t (.r (.l (.r .o))))=nd/\Ae An (.t (.l (.r (.r .o))))=iv S.vers.length/\Ae An (.t (.r (.r (.r .o))))=iv (i:Nat)) ?_ ?_ (by omega)
 .rintro i An hi ⟨z,g,ho,hz,b3,Qe,Ta,b14⟩
  unfold xV
  have h1:=h.keep g
  have hle:=g.le
  by_cases Nv:i<S.vers.length
  .have oK:=B16 (S:=S) (i:=i)
   have r1:=h1.nl
   have Ez:i<S.nodes.length:=by rw [S.nodes_len];exact Nv
   obtain ⟨a,b,ra,rb,GG,_⟩:=wi r1 Ez
   have hgn:S.nodes[i].gone=S.isG (i+1):=by rw [GTree.nodes_get Ez];rfl
   rw [hgn] at GG
   have Gy:=TI (S:=S) (i:=i)
   simp only [Ax,↓Ba,Qe,Ta,b14,Nv,B95 r1 Ez,GG]
   refine Vr λDb Ft Et=>?_
   simp only [bR] at Ft Et
   have k2:∀ j,j<An.nx->Db.get j=An.hp.get j:=λj hj=>Et j (by omega)
   have wF:=ra.keep (Ao:=Db) λj hj=>k2 j hj.1
   have F8:=rb.keep (Ao:=Db) λj hj=>k2 j hj.1
   simp only [Ax,↓Ba]
   refine Uu (n:=3) (id:=An.nx) (ds:=[a,b,bv (S.isG (i+1))]) (by simp only [bR]) Ft (by simp only [Hl,bR];exact tn (λid h=>(wF.refs id h).2) (λid h=>(F8.refs id h).2)) rfl rfl λGr Ni Iz=>?_
   simp only [bR] at Ni Iz
   have k3:∀ j,j<An.nx->Gr.get j=An.hp.get j:=λj hj=>by rw [Iz j (by omega),k2 j hj]
   have PI:Gl Gr none (.pt An.nx 2)=some (bv (S.isG (i+1))):=Qi Ni rfl
   have PW:=ho.keep (Ao:=Gr) λj hj=>k3 j (hj.elim False.elim λh=>(hz j h).2)
   cases kU:S.isG (i+1) with
   | true=>
    rw [kU] at PI Gy
    rw [Af rfl,Dh] at Gy
    simp only [Ax,↓Ba,b3,Qe,Ta,b14,lF (k:=2) Ni,PI,Jx (show i<_ by omega)]
    refine ⟨Nv,z,g.new (by omega) λj hj=>?_,by rw [Gy];exact PW,λj hj=>⟨(hz j hj).1,by have:=(hz j hj).2;omega⟩,rfl⟩
    exact k3 j (by omega)
   | false=>
    rw [kU] at PI Gy
    rw [Ad (by simp)] at Gy
    simp only [Ax,↓Ba,b3,lF (k:=2) Ni,PI,Jx (show i<_ by omega)]
    refine Vt (fl:=[iv ((i+1:Nat))]) rfl (by simp only [Ag,Ak,Cg,bR,bP,Ns];rfl) λGz Mf Fp=>?_
    simp only [bR] at Mf Fp
    have yR:=PW.keep (Ao:=Gz) λj hj=>Fp j (hj.elim False.elim λh=>by have:=(hz j h).2;omega)
    simp only [Ax,↓Ba]
    refine jT (R:=rInt) (p:=λ_=>False) (p2:=λ_=>False) (d:=z) (d2:=.ms (An.nx+1) 0 1 1) (l:=Je S i) (m:=[((i+1:Nat):Int)]) (by simp only [bR,bP]) yR (by simp only [Cg,bR,bP];exact Rl Mf) (NB (R:=rInt) (x:=((i+1:Nat):Int)) Mf rfl) rfl rfl (by rw [Bf];omega) (by decide) λHp Io h5=>?_
    simp only [bR] at Io h5
    have o5:=h5 (λ_=>False) λj hj=>(hj.elim False.elim False.elim:False).elim
    simp only [Ax,↓Ba,Qe,Ta,b14,Jx (show i<_ by omega)]
    refine ⟨Nv,_,g.new (by omega) λj hj=>?_,by rw [Gy];exact o5,λj hj=>?_,rfl⟩
    .rw [Io j (by omega) (λhjz=>by have:=(hz j hjz).1;omega),Fp j (by omega),k3 j (by omega)]
    .obtain rfl:j=An.nx+1+1:=by simpa [DV.refs] using hj
     omega
  .simp only [Ax,↓Ba,bP,b3,Ta,b14,Nv,(ho.rl).live]
   have JJ:i=S.vers.length:=by omega
   rw [JJ] at ho
   exact hK _ _ _ g (ho.rl.mono λj hj=>hj.elim False.elim λh=>(hz j h).2)
 .simp only [Ax]
  exact ⟨Cl,.nil,λj hj=>(by cases hj),rfl⟩
end
end Go.DD

/- Contracts: a version is added. Conditions: those that each theorem states. -/
namespace Go.DD
open Go Go.Proofs Go.Sort
structure Fr3 (hp:Tr DObj) (nx T H:Nat) (nd:DV) (Ao:Tr DObj) (Bk:Nat):Prop where
 le:nx<=Bk
 k:∀ j,j<nx->j≠T->j≠H->j∉nd.refs->Ao.get j=hp.get j
theorem wg:∀ {hs:List (ByteArray×Int)} {s:ByteArray} {v:Int} {x:ByteArray×Int},x∈Ny hs s v->x∈hs\/x.2=v
 | [],s,v,x,h=>by
  have:x=(s,v):=by simpa [Ny] using h
  exact .inr (by rw [this])
 | y::hs,s,v,x,h=>by
  unfold Ny at h
  split at h
  .rcases Aq.1 h with rfl | h
   .exact .inr rfl
   .exact .inl (Be _ h)
  .rcases Aq.1 h with rfl | h
   .exact .inl (by simp)
   .exact (wg h).imp (Be _) id
theorem Ck1{n m:Nat}{ws:List Look}{p:Past}{ps:List Past}(h1:Qw n m ws [p]=true)(h2:Qw n m ws ps=true):Qw n m ws (p::ps)=true:=by
 unfold Qw at *
 rw [Bi] at *
 intro w hw
 have a:=h1 w hw
 have b:=h2 w hw
 rw [List.all_cons,List.all_nil,Bool.and_true] at a
 rw [List.all_cons,a,b];rfl
theorem iG{n m i q:Nat}{an qv refs lo:List Nat}{c:Bool}{ws:List Look}{a b:Tr DObj}(hr:∀ j∈refs,j<n)(hi:qv.contains i=true)(h2:Qw n m ws [⟨q,qv,a,b⟩]=true):Qw n m (Gt i an true c refs n lo ws) [⟨q,qv,a,b⟩]=true:=sA (λj hj=>⟨hr j hj,λp hp=>.inl (by rw [Am.1 hp];exact hi)⟩) h2
theorem C20{z w u:Value}{a b:DV}(h1:a.okC=true/\a.cells=[a])(h2:b.okC=true/\b.cells=[b]):Ia [DV.v z,DV.v w,DV.v u] [(0,1,a),(1,1,b)]=some [a,b,.v u]:=by
 simp [Ia,h1.1,h1.2,h2.1,h2.2]
theorem Ck2{z:List Value}{a b c:DV}(hz:z.length=3):Ia (List.replicate 1 (z.map DV.v)).flatten [(0,3,.agg [a,b,c])]=some [a,b,c]:=by
 match z,hz with
 | [u,v,w],_=>rfl
theorem wA{a b:DV}{x:Bool}{f:Nat->Bool}(h1:Ii a f)(h2:Ii b f):Ii (.agg [a,b,bv x]) f:=λid hid=>by
 have:id∈a.refs\/id∈b.refs:=by simpa [DV.refs,DV.refsL,bv] using hid
 exact this.elim (h1 id) (h2 id)
section
variable {hp:Tr DObj} {nx T H:Nat} {nd:DV} {S:PTree} (k:Nat) (K:DV->Tr DObj->Nat->Prop)
end
end Go.DD

/- Contracts: a version is added, where some are reclaimed. Conditions: those that each theorem states. -/
namespace Go.DD
open Go Go.Proofs Go.Sort
namespace GTree
def add(S:GTree)(b:ByteArray)(c:List PCell)(ps:List Int):GTree:={ S with vers:=S.vers ++ [⟨c,ps,false⟩],heads:=Ny S.heads b ((S.vers.length+1:Nat):Int) }
section
variable {S:GTree} {b:ByteArray} {c:List PCell} {ps:List Int}
theorem Cr5{v:Nat}(hv:v<S.vers.length):(S.add b c ps).vers[v]?=S.vers[v]?:=Cz hv
theorem Cr6:(S.add b c ps).vers[S.vers.length]?=some ⟨c,ps,false⟩:=by
 show (S.vers ++ [(⟨c,ps,false⟩:GVer)])[S.vers.length]?=_
 rw [List.getElem?_append_right (Ai _),Nat.sub_self];rfl
theorem at_add{v:Nat}(hv:v<=S.vers.length):(S.add b c ps).at' v=S.at' v/\(S.add b c ps).parG v=S.parG v/\(S.add b c ps).isG v=S.isG v:=by
 cases v with
 | zero=>exact ⟨rfl,rfl,rfl⟩
 | succ v=>
  have e:=Cr5 (S:=S) (b:=b) (c:=c) (ps:=ps) (v:=v) (by omega)
  refine ⟨?_,?_,?_⟩
  .show (match (S.add b c ps).vers[v]? with
    | some x=>x.cells
    | none=>[])=_
   rw [e];rfl
  .show (match (S.add b c ps).vers[v]? with
    | some x=>x.par
    | none=>[])=_
   rw [e];rfl
  .show (match (S.add b c ps).vers[v]? with
    | some x=>x.gone
    | none=>false)=_
   rw [e];rfl
theorem at_new:(S.add b c ps).at' (S.vers.length+1)=c/\(S.add b c ps).parG (S.vers.length+1)=ps/\(S.add b c ps).isG (S.vers.length+1)=false:=by
 have e:=Cr6 (S:=S) (b:=b) (c:=c) (ps:=ps)
 refine ⟨?_,?_,?_⟩
 .show (match (S.add b c ps).vers[S.vers.length]? with
   | some x=>x.cells
   | none=>[])=_
  rw [e]
 .show (match (S.add b c ps).vers[S.vers.length]? with
   | some x=>x.par
   | none=>[])=_
  rw [e]
 .show (match (S.add b c ps).vers[S.vers.length]? with
   | some x=>x.gone
   | none=>false)=_
  rw [e]
theorem Bn1(h:S.OK):∀ {m v:Nat},v<=S.vers.length->(S.add b c ps).supF m v=S.supF m v
 | 0,_,_=>rfl
 | m+1,v,hv=>by
  obtain ⟨_,e2,_⟩:=at_add (S:=S) (b:=b) (c:=c) (ps:=ps) hv
  show (match (S.add b c ps).parG v with
   | []=>0
   | p::_=>if (S.add b c ps).isG p.toNat=true then (S.add b c ps).supF m p.toNat else p.toNat)=match S.parG v with
   | []=>0
   | p::_=>if S.isG p.toNat=true then S.supF m p.toNat else p.toNat
  rw [e2]
  cases hp:S.parG v with
  | nil=>rfl
  | cons q l=>
   have tI:1<=v:=by
    cases v with
    | zero=>cases hp
    | succ v=>omega
   have hq:=h.p v tI hv q (by rw [hp];simp)
   show (if (S.add b c ps).isG q.toNat=true then (S.add b c ps).supF m q.toNat else q.toNat)=if S.isG q.toNat=true then S.supF m q.toNat else q.toNat
   rw [(at_add (S:=S) (b:=b) (c:=c) (ps:=ps) (v:=q.toNat) (by omega)).2.2,Bn1 h (by omega)]
theorem nodes_add(h:S.OK)(hp:∀ q∈ps,1<=q/\q<=(S.vers.length:Nat))(hg:S.isG (ps.headD 0).toNat=false):(S.add b c ps).nodes=S.nodes ++ [⟨Sj (Hy [S.at' (ps.headD 0).toNat,c]),ps,false⟩]:=by
 have hl:(S.add b c ps).vers.length=S.vers.length+1:=by
  show (S.vers ++ [(⟨c,ps,false⟩:GVer)]).length=_
  rw [Ap];rfl
 unfold nodes
 rw [hl,Mw,Cw]
 congr 1
 .refine Ea λi hi=>?_
  have Nv:i<S.vers.length:=aS.1 hi
  obtain ⟨e1,e2,e3⟩:=at_add (S:=S) (b:=b) (c:=c) (ps:=ps) (v:=i+1) (by omega)
  have e4:(S.add b c ps).sup (i+1)=S.sup (i+1):=Bn1 h (by omega)
  have e5:=(at_add (S:=S) (b:=b) (c:=c) (ps:=ps) (v:=S.sup (i+1)) (by have:=sup_lt h (v:=i+1) (by omega) (by omega);omega)).1
  unfold nodeAt
  rw [e1,e2,e3,e4,e5]
 .obtain ⟨e1,e2,e3⟩:=at_new (S:=S) (b:=b) (c:=c) (ps:=ps)
  have e4:(S.add b c ps).sup (S.vers.length+1)=(ps.headD 0).toNat:=by
   show (match (S.add b c ps).parG (S.vers.length+1) with
    | []=>0
    | p::_=>if (S.add b c ps).isG p.toNat=true then (S.add b c ps).supF S.vers.length p.toNat else p.toNat)=_
   rw [e2]
   cases ps with
   | nil=>rfl
   | cons q l=>
    have hq:=hp q (by simp)
    show (if (S.add b c (q::l)).isG q.toNat=true then _ else q.toNat)=q.toNat
    rw [(at_add (v:=q.toNat) (by omega)).2.2,Ad (by rw [show S.isG q.toNat=false from hg];simp)]
  have hle:(ps.headD 0).toNat<=S.vers.length:=by
   cases ps with
   | nil=>exact Gu _
   | cons q l=>have hq:=hp q (by simp);show q.toNat<=_;omega
  show [nodeAt _ _]=_
  unfold nodeAt
  rw [e1,e2,e3,e4,(at_add hle).1,Ad (by simp)]
theorem OK.add(h:S.OK)(hc:Mo ⟨S.dims,S.attrs,c⟩=0/\AOK ⟨S.dims,S.attrs,c⟩/\c.length<=255)(hp:∀ q∈ps,1<=q/\q<=(S.vers.length:Nat))(hn:S.vers.length+1<200)(hl:ps.length<10):(S.add b c ps).OK:=by
 have hlen:(S.add b c ps).vers.length=S.vers.length+1:=by
  show (S.vers ++ [(⟨c,ps,false⟩:GVer)]).length=_
  rw [Ap];rfl
 have Lr:∀ x∈(S.add b c ps).vers,x∈S.vers\/x=⟨c,ps,false⟩:=λx hx=>by
  rcases Aw.1 (show x∈S.vers ++ [(⟨c,ps,false⟩:GVer)] from hx) with hx | hx
  .exact .inl hx
  .exact .inr (by simpa using hx)
 refine ⟨λx hx=>?_,h.z,λv h1 h2 q hq=>?_,by rw [hlen];exact hn,λx hx=>?_,λx hx=>?_⟩
 .rcases Lr x hx with hx | rfl
  .exact h.c x hx
  .exact hc
 .by_cases h3:v<=S.vers.length
  .rw [(at_add h3).2.1] at hq
   exact h.p v h1 h3 q hq
  .have:v=S.vers.length+1:=by omega
   subst this
   rw [at_new.2.1] at hq
   have:=hp q hq
   omega
 .rcases Lr x hx with hx | rfl
  .exact h.l x hx
  .exact hl
 .rcases wg hx with h1 | h1
  .have:=h.h x h1
   refine ⟨this.1,by rw [hlen];omega,?_⟩
   rw [(at_add (v:=x.2.toNat) (by omega)).2.2];exact this.2.2
  .rw [h1,hlen]
   refine ⟨by omega,by omega,?_⟩
   rw [show ((S.vers.length+1:Nat):Int).toNat=S.vers.length+1 by omega]
   exact at_new.2.2
end
end GTree
section
variable {hp:Tr DObj} {nx T H:Nat} {nd:DV} {S:GTree} (k:Nat) (K:DV->Tr DObj->Nat->Prop)
theorem C21(f n1:Nat)(b:ByteArray)(da dp:DV)(c:List PCell)(ps:List Int)(oT:n1<=nx)(h0:TreeG hp n1 T H nd S)(ha:AR hp (Bl nx) da ⟨S.dims,S.attrs,c⟩)(Gy:RL rInt hp (Bl nx) dp ps)(oI:ps≠[]/\ps.length<10)(rG:∀ q∈ps,1<=q/\q<=(S.vers.length:Nat))(hc:Mo ⟨S.dims,S.attrs,c⟩=0/\AOK ⟨S.dims,S.attrs,c⟩/\c.length<=255)(hn:S.vers.length+1<200)(kH:S.isG (ps.headD 0).toNat=false)(hf:S.vers.length<=f)
  (hF:∀ Ao Bk,100<=(Je S S.vers.length).length->Al hp nx Ao Bk->K (.tup [iv 0,iv 18]) Ao Bk)
  (hK:∀ Ao Bk cF,(Je S S.vers.length).length<100->Fr3 hp nx T H nd Ao Bk->(∀ j∈cF.refs,nx<=j)->(∀ Db Hz,Bk<=Hz->(∀ j,j<n1\/(nx<=j/\j<Bk)->Db.get j=Ao.get j)->TreeG Db Hz T H cF (S.add b c ps))->K (.tup [iv ((S.vers.length+1:Nat):Int),iv 0]) Ao Bk):KW (kN (k+f+12)) (.fn 86) [.pt T 0,sv b,da,dp] hp nx K:=by
 obtain ⟨d,a,cc,rfl,r1,r2,r3⟩:=ha
 refine nZ (Hm (by decide)) t86 (Ab rfl) λes e1 e2 he=>?_
 have a0:Ae es (.t .o)=.pt T 0:=he 0 _ rfl
 have a1:Ae es (.t (.l .o))=sv b:=he 1 _ rfl
 have a2:Ae es (.t (.r .o))=.agg [d,a,cc]:=he 2 _ rfl
 have a3:Ae es (.t (.l (.l .o)))=dp:=he 3 _ rfl
 unfold yy
 subst e1 e2
 have h:=h0.keep (Bk:=es.nx) ⟨oT,λ_ _=>rfl⟩
 simp only [↓Ba]
 refine Zo (cs:=[d,a,cc]) (by rw [Hl,a2];exact AR.live r1 r2 r3) λEi Dm Cv=>?_
 simp only [bR] at Dm Cv
 have cY:Al es.hp es.nx Ei (es.nx+1):=⟨by omega,λj hj=>Cv j (by omega)⟩
 simp only [Ax,↓Ba,a0]
 refine Fl (vx (k+f+9) _ (h.keep cY) λDb Hz z2 Xf yo=>?_)
 have Hj:=Xf.le
 have Dj:=cY.trans Xf
 have h2:=h.keep Dj
 have g2:=(Xf.same es.nx (by omega)).trans Dm
 obtain ⟨_,_,_,_,lA⟩:=Uw g2
 obtain ⟨dd,aa,zz,hT,⟨f0,f3,f4,f1⟩,⟨l0,l1,l3,l4⟩,rd,ra⟩:=h2.ld
 have q1:=r3.ka (Ai _) Dj
 have qp:=Gy.ka (Ai _) Dj
 have bL:0<ps.length:=Rh.2 oI.1
 have bq:∀ j,j<es.nx->j<Hz:=λj hj=>by omega
 have b3:∀ j,(j<Hz/\j≠T/\j≠H)->j<Hz:=λj hj=>hj.1
 have r:=h2.nl
 by_cases rI:100<=(Je S S.vers.length).length
 .simp only [Ax,↓Ba,bP,yo.len,show decide ((100:Int)<=((Je S S.vers.length).length:Int))=true from Ar (by omega)]
  exact hF _ _ rI Dj
 simp only [Ax,↓Ba,bP,a0,a3,yo.len,show decide ((100:Int)<=((Je S S.vers.length).length:Int))=false from Aj (by omega),↓Y8,Rk hT,Xg,f3,l3,wh qp bL,ints_at qp bL,rZ qp bq,B96 qp bq,Mp (n0:=Hz) (m:=21) hT h2.th.2.1]
 have hq0:1<=ps[0]/\ps[0]<=(S.vers.length:Nat):=rG _ (Bh bL)
 obtain ⟨n,T7⟩:=Wm (show 0<=ps[0] by omega)
 refine Nt rfl (Xi ?_)
 simp only [bR,Ag,Ak,T7]
 have hN:ps.headD 0=ps[0]:=by cases ps with
  | nil=>exact absurd rfl oI.1
  | cons q l=>rfl
 have kO:(ps.headD 0).toNat=n:=by rw [hN,T7];rfl
 rw [kO] at kH
 refine Bn0 (f+3) k n _ _ _ (by omega) (by omega) kH (h2.keep (Al.ini Db (by omega:Hz<=Hz+21))) λGr Dx z3 Uq nD OY=>?_
 have Jb:=Uq.le
 have Eu:=Dj.trans ((Al.ini Db (by omega:Hz<=Hz+21)).trans Uq)
 have h3:=h.keep Eu
 have g3:=(Uq.same es.nx (by omega)).trans g2
 obtain ⟨⟨_,_,LI⟩,_,_,GH,_⟩:=Uw g3
 have k3:∀ j,j<Hz->Gr.get j=Db.get j:=λj hj=>Uq.same j (by omega)
 have ZR:∀ {an:List Nat},Ii z3 (λid=>Cs Hz 21 an Gr id)↔True:=B5 nD OY
 have q3:=r3.ka (Ai _) Eu
 have bq2:∀ j,j<es.nx->j<Hz:=λj hj=>by omega
 simp only [Ax,↓Ba,Jb,ZR,LI,GH,rZ q3 bq2,Mp (n0:=Hz) (m:=21) g3 (show es.nx<Hz by omega)]
 refine Nt rfl (Xi ?_)
 simp only [bR,Ag,Ak]
 obtain ⟨sc,so,sl⟩:=h.ok.chk n
 obtain ⟨mG,Yg,hc3⟩:=hc
 refine vq (k+f+5) Dx _ _ _ z3 cc (S.at' n) c (Ai _) nD (q3.mono λj (hj:j<es.nx)=>by show j<Dx;omega) (by omega) (λe he=>?_) λGz Mj z4 mM vU=>?_
 .rcases he with he | he
  .exact ⟨Y0 sc e he,(so.e e he).1,C9 sc e he,(so.e e he).2.1⟩
  .exact ⟨Y0 mG e he,(Yg.e e he).1,C9 mG e he,(Yg.e e he).2.1⟩
 have bM:=mM.le
 have Ob:=Eu.trans mM
 have k4:∀ j,j<Hz->Gz.get j=Db.get j:=λj hj=>(mM.same j (by omega)).trans (k3 j hj)
 have qp4:=Gy.ka (Ai _) Ob
 have oz4:∀ {an:List Nat},Ii z4 (λid=>Cs Hz 21 an Gz id)↔True:=B5 vU λj hj=>by (have:=(vU.refs j hj).1.1);omega
 simp only [Ax,↓Ba,a3,bM,rZ qp4 bq2]
 refine Nt rfl (Xi ?_)
 simp only [bR,Ag,Ak]
 refine vb (k+f+10) es.nx _ _ _ dp ps (by omega) qp4 (.inl oI.1) (by omega) λHp Jp z5 fQ rz5 yn _=>?_
 have Su:=fQ.le
 have Kr:=Ob.trans fQ
 have k5:∀ j,j<Hz->Hp.get j=Db.get j:=λj hj=>(fQ.same j (by omega)).trans (k4 j hj)
 have CH:RL rInt Hp (λj=>Mj<=j/\j<Jp) z5 ps:=by
  rcases rz5 with ho | ⟨e,_⟩
  .exact ho.rl.mono λj hj=>hj.elim False.elim λh=>yn j h
  .exact absurd e oI.1
 have oz5:∀ {an:List Nat},Ii z5 (λid=>Cs Hz 21 an Hp id)↔True:=B5 CH λj hj=>by have:=(yn j hj).1;omega
 have jZ:=vU.keep (Ao:=Hp) λj hj=>fQ.same j hj.2
 have EN:∀ {an:List Nat},Ii z4 (λid=>Cs Hz 21 an Hp id)↔True:=B5 jZ λj hj=>by (have:=(jZ.refs j hj).1.1);omega
 have zF:=C20 (z:=.slice none 0 0) (w:=.slice none 0 0) (u:=.bool false) jZ.ok CH.ok
 have bB:∀ an,Ii (.agg [z4,z5,bv false]) (λid=>Cs Hz 21 an Hp id):=λan=>wA (EN.2 trivial) (oz5.2 trivial)
 simp only [Ax,↓Ba,bP,Su,oz5,EN,CH.live,jZ.live,MW,zF,Cf,Bn (bB _)]
 refine SK (fl:=[z4,z5,bv false]) rfl (by simp only [Ag,Ak,Cg,bR,bP,tn (x:=false) (λj hj=>(jZ.refs j hj).2) (λj hj=>(CH.refs j hj).2)];exact Ck2 (z:=[.slice none 0 0,.slice none 0 0,.bool false]) rfl) λJf Yu Py=>?_
 simp only [bR] at Yu Py
 have k6:∀ j,j<Hz->Jf.get j=Db.get j:=λj hj=>(Py j (by omega)).trans (k5 j hj)
 have vT:=jZ.keep (Ao:=Jf) λj hj=>Py j (by have:=hj.1;omega)
 have rl6:=CH.keep (Ao:=Jf) λj hj=>Py j (by have:=hj.1;omega)
 have k60:∀ j,j<n1->Jf.get j=es.hp.get j:=λj hj=>(k6 j (by omega)).trans (Dj.same j (by omega))
 have on6:=h0.n.keep (Ao:=Jf) λj hj=>hj.elim (λh=>k60 j h.1) λh=>k60 j (h0.nr j h).1
 have r6:RL rNode Jf (λj=>j<Hz/\j≠T/\j≠H) nd (S.nodes):=on6.rl.mono λj hj=>hj.elim (λh=>⟨by have:=h.1;omega,h.2.1,h.2.2.1⟩) λhj=>h2.nr j hj
 simp only [Ax,↓Ba,rZ r6 b3]
 refine ⟨sB Yu rfl,?_⟩
 have hr:rNode.rd Jf (Bw Dx Jp) [z4,z5,bv false] ⟨Sj (Hy [S.at' n,c]),ps,false⟩:=rNode_rd.2 ⟨z4,z5,rfl,vT.mono λj hj=>⟨hj.1,by have:=hj.2;omega⟩,rl6.mono λj hj=>⟨by have:=hj.1;omega,hj.2⟩⟩
 have U0:S.nodes.length=S.vers.length:=S.nodes_len
 refine Nt rfl (jT (R:=rNode) (p:=λj=>j<n1/\j≠T/\j≠H/\j∉nd.refs) (p2:=Bw Dx Jp) (d:=nd) (d2:=.ms (Hz+16) 0 1 3) (l:=S.nodes) (m:=[⟨Sj (Hy [S.at' n,c]),ps,false⟩]) (by simp only [bR,bP]) on6 (by simp only [Cg,bR,bP];exact Rl Yu) ⟨_,SL (R:=rNode) Yu hr,Rows.one hr⟩ rfl rfl (by rw [Bf];omega) (by decide) λNz Md h7=>?_)
 simp only [bR] at Md h7
 have N9:=h2.th
 have o7:=h7 (λj=>(j<n1\/(es.nx<=j/\j<Jp))/\j≠T/\j≠H/\j∉nd.refs) λj hj=>by
  rcases hj with hj | hj
  .exact ⟨⟨.inl hj.1,hj.2⟩,by omega,hj.2.2.2⟩
  .have h1:=hj.1
   have zM:=hj.2
   have Tx:j∉nd.refs:=λh=>by have:=(h2.nr j h).1;omega
   exact ⟨⟨.inr ⟨by omega,zM⟩,by omega,by omega,Tx⟩,by omega,Tx⟩
 have k7:∀ j,j<Hz->j∉nd.refs->Nz.get j=Db.get j:=λj hj JG=>(Md j (by omega) JG).trans (k6 j hj)
 have hTn:T∉nd.refs:=λh=>(h2.nr T h).2.1 rfl
 have hHn:H∉nd.refs:=λh=>(h2.nr H h).2.2 rfl
 have LB:=(k7 T N9.2.1 hTn).trans hT
 obtain ⟨_,_,_,gR,_⟩:=o7.get
 simp only [Ax,↓Ba,bP,↓Y8,Rk LB,Xg,lF (k:=3) LB,Mp (n0:=Hz) (m:=21) LB N9.2.1]
 refine ⟨by omega,(sC Nz Jp).2 ⟨by rw [gR];rfl,.inr (.inl (by omega))⟩,?_⟩
 refine Nt rfl (mN (id:=T) (off:=3) (by simp only [bR]) LB (by simp only [Hl,bR];exact Rl gR) (dK _ _ _ _) (by simp) λOl bO Ru=>?_)
 simp only [bR] at bO Ru
 simp only [Ax,↓Ba]
 have jk:∀ j∈dp.refs,j<Hz:=λj hj=>by (have:=(Gy.refs j hj).1;have:j<es.nx:=this);omega
 have fO:∀ off,∀ j∈(DV.pt es.nx off).refs,j<Hz:=λoff j hj=>by (have:j=es.nx:=by simpa [DV.refs] using hj);omega
 have jH:∀ off,∀ j∈(DV.pt T off).refs,j<Hz:=λoff j hj=>by (have:j=T:=by simpa [DV.refs] using hj);omega
 have hP:Uh Hz Db [⟨14,[13,12,9,11,5,8,7,6,10],Gz,Hp⟩,⟨12,[9,11,5,8,7,6,10],Gr,Gz⟩,⟨9,[5,8,7,6],Db,Gr⟩]:=rT k4 k5 (rT k3 k4 (rT (λ_ _=>rfl) k3 ux))
 have ok:∀ {i:Nat} {an lo:List Nat} {c:Bool} {ws:List Look} {off:Nat},Qw Hz 21 ws _=true->Qw Hz 21 (Gt i an true c (DV.pt T off).refs Hz lo ws) _=true:=λh=>Ck0 h2 (Ai _) hP h
 refine ⟨Ck1 (iG jk rfl (iG (fO _) rfl (iG (fO _) rfl (iG (jH _) rfl (iG (jH _) rfl (iG (jH _) rfl (iG (jH _) rfl (iG (jH _) rfl rfl)))))))) (Ck1 (iG jk rfl (iG (fO _) rfl (iG (fO _) rfl (iG (jH _) rfl (iG (jH _) rfl (iG (jH _) rfl (iG (jH _) rfl ?_))))))) (TR hP jk (qS (id:=es.nx) (λj hj=>by simpa [DV.refs] using hj) (by omega) (λq hq=>⟨((hP q hq).1 _ (by omega)).trans g2,((hP q hq).2 _ (by omega)).trans g2⟩) (AR.same r1 r2 r3) (TR hP (fO _) (ok (ok (ok (ok (ok rfl))))))))),?_⟩
 .exact sA (λj hj=>⟨jH _ j hj,λq hq=>.inr (.inr (by
   have fy:j=T:=by simpa [DV.refs] using hj
   rw [fy,Am.1 hq,Ad (by simp)]
   simp [uM,LB,(k6 T N9.2.1).trans hT]))⟩) rfl
 generalize Vg:DV.ms Jp 0 (S.nodes ++ [(⟨Sj (Hy [S.at' n,c]),ps,false⟩:PNode)]).length rNode.e=cF at *
 have O7:Ol.get T=some (.row _ [dd,aa,zz,cF,.mp H]):=bO
 have k8:∀ j,j<Hz->j≠T->j∉nd.refs->Ol.get j=Db.get j:=λj hj fy JG=>(Ru j fy).trans (k7 j hj JG)
 obtain ⟨ck,bV,hH,hM,uC⟩:=h2.m
 have lu:=(k8 H N9.2.2 (λe=>N9.1 e.symm) hHn).trans hH
 have lT4:Gl Ol none (.pt T 4)=some (.mp H):=Qi O7 rfl
 have lT3:Gl Ol none (.pt T 3)=some cF:=Qi O7 rfl
 have o8:=o7.keep (Ao:=Ol) λj hj=>Ru j (by
  rcases hj with hj | hj
  .exact hj.2.1
  .have:j=Jp:=by rw [<- Vg] at hj;simpa [DV.refs] using hj
   omega)
 have IZ:=o8.rl.len
 simp only [Ax,bP,a0,a1,↓Y8,Rk O7,Xg,lF (k:=3) O7,lF (k:=4) O7,lT3,lT4,IZ,Mp (n0:=Jp+1) (m:=11) O7 (show T<Jp+1 by omega),Mp (n0:=Jp+1) (m:=11) lu (show H<Jp+1 by omega)]
 have gQ:∀ j∈cF.refs,j=Jp:=λj hj=>by rw [<- Vg] at hj;simpa [DV.refs] using hj
 refine ⟨λj hj=>(sC Ol j).2 ⟨(o8.rl.refs j hj).2,.inl (by have:=gQ j hj;omega)⟩,?_⟩
 refine Nt rfl (B14 (im:=H) (ck:=ck) (es':=bV) (hs:=S.heads) (s:=b) (n:=((S.vers.length+1:Nat):Int)) (by simp only [Cg,bR,bP,Yq lu]) lu hM uC (by simp only [Cg,bR,bP,Ns]) (by simp only [Cg,bR,bP,Ns,Ap,Bf,U0]) λMk MA O9 Qa O2 Ju=>?_)
 simp only [bR] at Qa Ju
 have QU:Mk.get T=some (.row _ [dd,aa,zz,cF,.mp H]):=(Ju T N9.1).trans O7
 have ae:Gl Mk none (.pt T 3)=some cF:=Qi QU rfl
 have o9:=o8.keep (Ao:=Mk) λj hj=>Ju j (by
  rcases hj with hj | hj
  .exact hj.2.2.1
  .have:=gQ j hj;omega)
 have IY:=o9.rl.len
 simp only [Ax,↓Ba,bP,a0,↓Ut,Rk QU,Xg,lF (k:=3) QU,ae,IY,Ap,Bf,U0]
 have k9:∀ j,j<Hz->j≠T->j≠H->j∉nd.refs->Mk.get j=Db.get j:=λj h1 h2 h3 h4=>(Ju j h3).trans (k8 j h1 h2 h4)
 obtain ⟨d',a',OO,e1,rd0,ra0,rzz⟩:=h0.r
 rw [<- Dj.same T h.th.2.1,hT] at e1
 cases e1
 refine hK Mk (Jp+1+11) cF (by omega) ⟨by omega,λj hj h1 h2 h3=>(k9 j (by omega) h1 h2 h3).trans (Dj.same j hj)⟩ (λj hj=>by (have:=gQ j hj);omega) λIC nxF hnF yY=>?_
 have kk:∀ j,(j<n1/\j≠T/\j≠H/\j∉nd.refs)->IC.get j=es.hp.get j:=λj hj=>(yY j (.inl hj.1)).trans ((k9 j (by omega) hj.2.1 hj.2.2.1 hj.2.2.2).trans (Dj.same j (by omega)))
 have up:∀ j,(j<n1/\j≠T/\j≠H/\j∉nd.refs)->(j<nxF/\j≠T/\j≠H/\j∉cF.refs):=λj hj=>⟨by have:=hj.1;omega,hj.2.1,hj.2.2.1,λh=>by (have:=gQ j h);have:=hj.1;omega⟩
 have hT0:=h0.th
 refine ⟨⟨N9.1,by omega,by omega⟩,⟨dd,aa,zz,(yY T (.inl hT0.2.1)).trans QU,(rd0.keep kk).mono up,(ra0.keep kk).mono up,(rzz.keep kk).mono up⟩,⟨MA,O9,(yY H (.inl hT0.2.2)).trans Qa,O2⟩,?_,λj hj=>by (have:=gQ j hj);omega,h.ok.add ⟨mG,Yg,hc3⟩ rG hn oI.2⟩
 rw [GTree.nodes_add h.ok rG (by rw [kO];exact kH),kO]
 exact (o9.keep (Ao:=IC) λj hj=>yY j (hj.elim (λh=>h.1.imp id λh=>⟨h.1,by omega⟩) λh=>.inr (by (have:=gQ j h);omega))).mono λj hj=>⟨by (have:=hj.1);omega,hj.2.1,hj.2.2.1,λh=>by (have:=gQ j h);have:=hj.1;omega⟩
end
end Go.DD

/- Contracts: a branch is made. Conditions: those that each theorem states. -/
namespace Go.DD
open Go Go.Proofs Go.Sort
section
variable {call:Bg} {es:ES} {dst:Option Pa} {q:Hold (ES->Prop)}
theorem mS{Q:ES->Prop}{x:Operand} : SW (sU dst (Bd (.lnm x))) call es Q↔@Nr (sU dst (Bd (.lnm x))) call es ⟨Q⟩:=Da
theorem tm{t im ck:Nat}{es':List ME}{hs:List (ByteArray×Int)}(e1:es.ds.ev (.tmp t)=.mp im)(hm:es.hp.get im=some (.mapo ck es'))(hk:Mv es' hs)
  (h:q.val (es.putE dst (iv (hs.length:Nat)))):Nr (sU dst (Bd (.lnm (.tmp t)))) call es:=by
 show SW _ _ _ _
 rw [sw_u,Fi]
 refine ⟨_,.keep,?_,h⟩
 simp only [Ay,e1]
 show (match es.hp.get im with
  | some (.mapo _ es)=>some (DV.v (.int .i64 es.length),Upd.keep)
  | _=>none)=_
 rw [hm]
 have:es'.length=hs.length:=by have:=Mq List.length hk;simpa using this
 simp only [this]
end
section
variable {hp:Tr DObj} {nx T H:Nat} {nd:DV} {S:PTree} (k:Nat) (K:DV->Tr DObj->Nat->Prop)
end
end Go.DD

/- Contracts: a version is given. Conditions: those that each theorem states. -/
namespace Go.DD
open Go Go.Proofs Go.Sort
section
variable {hp:Tr DObj} {nx T H:Nat} {nd:DV} {S:PTree} (k:Nat) (K:DV->Tr DObj->Nat->Prop)
end
end Go.DD

/- Contracts: a change is committed. Conditions: those that each theorem states. -/
namespace Go.DD
open Go Go.Proofs Go.Sort
section
variable {hp:Tr DObj} {nx T H:Nat} {nd:DV} {S:PTree} (k:Nat) (K:DV->Tr DObj->Nat->Prop)
end
end Go.DD

/- Contracts: a branch, a commit, a version that is given; where some are reclaimed. Conditions: those that each theorem states. -/
namespace Go.DD
open Go Go.Proofs Go.Sort
theorem GTree.get_congr{S S':GTree}(h:S'.vers=S.vers)(v:Nat):S'.at' v=S.at' v/\S'.parG v=S.parG v/\S'.isG v=S.isG v:=by
 cases v with
 | zero=>exact ⟨rfl,rfl,rfl⟩
 | succ v=>
  unfold GTree.at' GTree.parG GTree.isG
  rw [h]
  exact ⟨rfl,rfl,rfl⟩
theorem GTree.supF_congr{S S':GTree}(h:S'.vers=S.vers):∀ n v,S'.supF n v=S.supF n v
 | 0,_=>rfl
 | n+1,v=>by
  show (match S'.parG v with
   | []=>0
   | p::_=>if S'.isG p.toNat=true then S'.supF n p.toNat else p.toNat)=match S.parG v with
   | []=>0
   | p::_=>if S.isG p.toNat=true then S.supF n p.toNat else p.toNat
  rw [(GTree.get_congr h v).2.1]
  cases S.parG v with
  | nil=>rfl
  | cons q l=>
   show (if S'.isG q.toNat=true then S'.supF n q.toNat else q.toNat)=if S.isG q.toNat=true then S.supF n q.toNat else q.toNat
   rw [(GTree.get_congr h q.toNat).2.2,GTree.supF_congr h n]
theorem GTree.nodes_congr{S S':GTree}(h:S'.vers=S.vers):S'.nodes=S.nodes:=by
 unfold GTree.nodes
 rw [h]
 refine Ea λi _=>?_
 unfold GTree.nodeAt
 rw [show S'.sup (i+1)=S.sup (i+1) from GTree.supF_congr h _ _,(GTree.get_congr h (i+1)).1,(GTree.get_congr h (i+1)).2.1,(GTree.get_congr h (i+1)).2.2,(GTree.get_congr h (S.sup (i+1))).1]
def GTree.head(S:GTree)(b:ByteArray)(v:Nat):GTree:={ S with heads:=Ny S.heads b (v:Nat) }
theorem GTree.OK.head{S:GTree}(h:S.OK){b:ByteArray}{v:Nat}(hv:1<=v/\v<=S.vers.length)(hg:S.isG v=false):(S.head b v).OK:=⟨h.c,h.z,h.p,h.n,h.l,λx hx=>by
 rcases wg hx with h1 | h1
 .exact h.h x h1
 .have hl:(S.head b v).vers.length=S.vers.length:=rfl
  have e:((v:Nat):Int).toNat=v:=by omega
  rw [h1]
  exact ⟨by omega,by omega,by rw [e];exact hg⟩⟩
section
variable {hp:Tr DObj} {nx T H:Nat} {nd:DV} {S:GTree} (k:Nat) (K:DV->Tr DObj->Nat->Prop)
theorem Bc3(b:ByteArray)(v:Nat)(h:TreeG hp nx T H nd S)(hb:Kx b=true)(Ww:Iy S.heads b=none)(hv:1<=v/\v<=S.vers.length)(hg:S.isG v=false)(hh:S.heads.length<8)
  (hK:∀ Ao,(∀ j,j≠H->Ao.get j=hp.get j)->TreeG Ao nx T H nd (S.head b v)->K (iv 0) Ao nx):KW (kN (k+3)) (.fn 28) [.pt T 0,sv b,iv (v:Nat)] hp nx K:=by
 refine En (Hm (by decide)) VS (Ab rfl) λes e1 e2 he=>?_
 have a0:Ae es (.t .o)=.pt T 0:=he 0 _ rfl
 have a1:Ae es (.t (.l .o))=sv b:=he 1 _ rfl
 have a2:Ae es (.t (.r .o))=iv (v:Nat):=he 2 _ rfl
 unfold PA
 subst e1 e2
 obtain ⟨d,a,z,hT,⟨f0,f3,f4,f1⟩,⟨l0,l1,l3,l4⟩,_⟩:=h.ld
 obtain ⟨ck,bV,hH,hM,uC⟩:=h.m
 simp only [Ax,↓Ba,a0]
 refine Fl (Xw (k+1) _ h ?_)
 simp only [Ax,↓Ba,a1]
 refine Fl (NA (k+1) _ _ _ b ?_)
 simp only [Ax,↓Ba,bP,a0,a1,hb,↓Ut,Rk hT,Xg,f4,l4,↓Xm]
 refine ON (im:=H) (ck:=ck) (es':=bV) (hs:=S.heads) (s:=b) (by simp only [Cg,bR,bP,Yq hH]) hH hM (by simp only [Cg,bR,bP,Ns]) ?_
 rw [Ww]
 have x0:Fv es.hp (.tup [iv ((none:Option Int).getD 0),bv (none:Option Int).isSome]) 0=some (iv 0):=rfl
 have x1:Fv es.hp (.tup [iv ((none:Option Int).getD 0),bv (none:Option Int).isSome]) 1=some (bv false):=rfl
 simp only [Ax,↓Ba,x0,x1,a0,a2]
 refine Fl (vp k _ v h hv ?_)
 rw [hg,Ad (by simp)]
 simp only [Ax,↓Ba,bP,a0,↓Ut,Rk hT,Xg,f4,l4,↓mS]
 refine tm (im:=H) (ck:=ck) (es':=bV) (hs:=S.heads) (by simp only [Cg,bR,bP,Yq hH]) hH hM ?_
 simp only [Ax,↓Ba,bP,a0,a1,a2,↓Ut,Rk hT,Xg,f4,l4,show decide ((8:Int)<=(S.heads.length:Int))=false from Aj (by omega)]
 refine B14 (im:=H) (ck:=ck) (es':=bV) (hs:=S.heads) (s:=b) (n:=(v:Nat)) (by simp only [Cg,bR,bP,Yq hH]) hH hM uC (by simp only [Cg,bR,bP,Ns]) (by simp only [Cg,bR,bP,Ns]) λMk MA O9 Qa O2 Ju=>?_
 simp only [bR] at Qa Ju
 simp only [Ax,↓Ba,bP]
 obtain ⟨d',a',OO,e1,r1,r2,r3⟩:=h.r
 have kk:∀ j,(j<es.nx/\j≠T/\j≠H/\j∉nd.refs)->Mk.get j=es.hp.get j:=λj hj=>Ju j hj.2.2.1
 exact hK Mk Ju ⟨h.th,⟨d',a',OO,(Ju T h.th.1).trans e1,r1.keep kk,r2.keep kk,r3.keep kk⟩,⟨MA,O9,Qa,O2⟩,(by rw [GTree.nodes_congr (S:=S) (S':=S.head b v) rfl];exact h.n.keep λj hj=>hj.elim (kk j) λhj=>Ju j (h.nr j hj).2.2),h.nr,h.ok.head hv hg⟩
end
section
variable {hp:Tr DObj} {nx T H:Nat} {nd:DV} {S:GTree} (k:Nat) (K:DV->Tr DObj->Nat->Prop)
end
end Go.DD

/- Contracts: a commit, where some versions are reclaimed. Conditions: those that each theorem states. -/
namespace Go.DD
open Go Go.Proofs Go.Sort
section
variable {hp:Tr DObj} {nx T H:Nat} {nd:DV} {S:GTree} (k:Nat) (K:DV->Tr DObj->Nat->Prop)
theorem Bc4(f:Nat)(b:ByteArray)(v:Nat)(ls:DV)(l:List PCell)(h:TreeG hp nx T H nd S)(hb:Iy S.heads b=some ((v:Nat):Int))(hv:1<=v/\v<=S.vers.length)(hL:RL rChange hp (λj=>j<nx/\j≠T/\j≠H/\j∉nd.refs) ls l)(hl:(S.at' v).length+l.length<=255/\l.length<gD)(Zi:∀ c∈l,c.pos.length<900000/\c.vals.length<900000/\∀ v∈c.vals,dI v)(hn:S.vers.length+1<200)(hg:S.isG v=false)(hf:S.vers.length<=f)
  (hE:∀ Ao Bk e r,uN ⟨S.dims,S.attrs,S.at' v⟩ l e r->e≠0->Al hp nx Ao Bk->K (.tup [iv 0,iv e]) Ao Bk)
  (hS:∀ Ao Bk r,uN ⟨S.dims,S.attrs,S.at' v⟩ l 0 r->Tn ⟨S.dims,S.attrs,S.at' v⟩ r=true->Al hp nx Ao Bk->K (.tup [iv 0,iv 6]) Ao Bk)
  (hF:∀ Ao Bk r,uN ⟨S.dims,S.attrs,S.at' v⟩ l 0 r->Tn ⟨S.dims,S.attrs,S.at' v⟩ r=false->100<=(Je S S.vers.length).length->Al hp nx Ao Bk->K (.tup [iv 0,iv 18]) Ao Bk)
  (hK:∀ Ao Bk cF cs,(Je S S.vers.length).length<100->uN ⟨S.dims,S.attrs,S.at' v⟩ l 0 ⟨S.dims,S.attrs,cs⟩->Tn ⟨S.dims,S.attrs,S.at' v⟩ ⟨S.dims,S.attrs,cs⟩=false->Mo ⟨S.dims,S.attrs,cs⟩=0->AOK ⟨S.dims,S.attrs,cs⟩->Fr3 hp nx T H nd Ao Bk->(∀ j∈cF.refs,nx<=j)->TreeG Ao Bk T H cF (S.add b cs [(v:Int)])->K (.tup [iv ((S.vers.length+1:Nat):Int),iv 0]) Ao Bk) :
  KW (kN (k+f+21)) (.fn 29) [.pt T 0,sv b,iv (v:Nat),ls] hp nx K:=by
 obtain ⟨hl,U0⟩:=hl
 refine nZ (Hm (by decide)) t29 (Ab rfl) λes e1 e2 he=>?_
 have a0:Ae es (.t .o)=.pt T 0:=he 0 _ rfl
 have a1:Ae es (.t (.l .o))=sv b:=he 1 _ rfl
 have a2:Ae es (.t (.r .o))=iv (v:Nat):=he 2 _ rfl
 have a3:Ae es (.t (.l (.l .o)))=ls:=he 3 _ rfl
 unfold zx
 subst e1 e2
 obtain ⟨d,a,z,hT,⟨f0,f3,f4,f1⟩,⟨l0,l1,l3,l4⟩,_⟩:=h.ld
 obtain ⟨ck,bV,hH,hM,_⟩:=h.m
 simp only [Ax,↓Ba,a0]
 refine Fl (Xw (k+f+19) _ h ?_)
 simp only [Ax,↓Ba,bP,a0,a1,↓Ut,Rk hT,Xg,f4,l4,↓Xm]
 refine ON (im:=H) (ck:=ck) (es':=bV) (hs:=S.heads) (s:=b) (by simp only [Cg,bR,bP,Yq hH]) hH hM (by simp only [Cg,bR,bP,Ns]) ?_
 rw [hb]
 have x0:Fv es.hp (.tup [iv ((some ((v:Nat):Int)).getD 0),bv (some ((v:Nat):Int)).isSome]) 0=some (iv (v:Nat)):=rfl
 have x1:Fv es.hp (.tup [iv ((some ((v:Nat):Int)).getD 0),bv (some ((v:Nat):Int)).isSome]) 1=some (bv true):=rfl
 simp only [Ax,↓Ba,x0,x1,a0,a2,show decide (¬ (v:Int)=(v:Int))=false by simp,show decide (¬ v=v)=false by simp]
 refine Fl (B97 k _ (f+1) v h hv.2 hg (by omega) λGr Dx d3 Uq pL IE=>?_)
 have Jb:=Uq.le
 obtain ⟨dd,da,dc,rfl,v1,v2,v3⟩:=pL
 have z0:=jI (e:=0) v1 v2 v3
 have z1:Fv Gr (.tup [.agg [dd,da,dc],iv 0]) 1=some (iv 0):=Yk
 simp only [Ax,↓Ba,z0,z1]
 refine Vr λGz Mf Fp=>?_
 simp only [bR] at Mf Fp
 have w1:=v1.keep (Ao:=Gz) λj hj=>Fp j (by have:=hj.2;omega)
 have w2:=v2.keep (Ao:=Gz) λj hj=>Fp j (by have:=hj.2;omega)
 have w3:=v3.keep (Ao:=Gz) λj hj=>Fp j (by have:=hj.2;omega)
 simp only [Ax,↓Ba]
 refine Uu (n:=3) (id:=Dx) (ds:=[dd,da,dc]) (by simp only [bR]) Mf (by simp only [Hl,bR];exact AR.live (x:=⟨S.dims,S.attrs,S.at' v⟩) w1 w2 w3) rfl rfl λHp Qb Io=>?_
 simp only [bR] at Qb Io
 have fQ:Al Gr Dx Hp (Dx+1):=⟨by omega,λj hj=>by rw [Io j (by omega),Fp j (by omega)]⟩
 have zL:=Uq.trans fQ
 obtain ⟨_,_,_,_,lA⟩:=Uw Qb
 have hL5:=hL.keep (Ao:=Hp) λj hj=>zL.same j hj.1
 have y1:=v1.keep (Ao:=Hp) λj hj=>fQ.same j hj.2
 have y2:=v2.keep (Ao:=Hp) λj hj=>fQ.same j hj.2
 have y3:=v3.keep (Ao:=Hp) λj hj=>fQ.same j hj.2
 obtain ⟨sc,so,sl⟩:=h.ok.chk v
 simp only [Ax,↓Ba,a3,lA]
 refine Fl (B90 (k+f+1) (Dx+1) _ _ _ _ ls ⟨S.dims,S.attrs,S.at' v⟩ l (Ai _) ⟨dd,da,dc,rfl,y1.mono λj hj=>by (have:=hj.2;show j<Dx+1);omega,y2.mono λj hj=>by (have:=hj.2;show j<Dx+1);omega,y3.mono λj hj=>by (have:=hj.2;show j<Dx+1);omega⟩ (hL5.mono λj hj=>by (have:=hj.1;show j<Dx+1);omega) so ⟨by show _+l.length<=_;(have:(⟨S.dims,S.attrs,S.at' v⟩:PArr).cells.length=(S.at' v).length:=rfl);omega,U0⟩ Zi λJf Kw d6 r6 e6 lK pK N8 tO=>?_)
 have Vj:=lK.le
 have ha6:=zL.trans lK
 have g6:=(lK.same Dx (by omega)).trans Qb
 obtain ⟨PF,PD,PB,rfl,u1,u2,u3⟩:=pK
 have t0:=jI (e:=e6) u1 u2 u3
 have t1:Fv Jf (.tup [.agg [PF,PD,PB],iv e6]) 1=some (iv e6):=Yk
 simp only [Ax,↓Ba,t0,t1]
 refine Vr λNz Td Md=>?_
 simp only [bR] at Td Md
 have i1:=u1.keep (Ao:=Nz) λj hj=>Md j (by have:=hj.2;omega)
 have i2:=u2.keep (Ao:=Nz) λj hj=>Md j (by have:=hj.2;omega)
 have i3:=u3.keep (Ao:=Nz) λj hj=>Md j (by have:=hj.2;omega)
 simp only [Ax,↓Ba]
 refine Uu (n:=3) (id:=Kw) (ds:=[PF,PD,PB]) (by simp only [bR]) Td (by simp only [Hl,bR];exact AR.live (x:=r6) i1 i2 i3) rfl rfl λOl bO Ru=>?_
 simp only [bR] at bO Ru
 have qK:Al Jf Kw Ol (Kw+1):=⟨by omega,λj hj=>by rw [Ru j (by omega),Md j (by omega)]⟩
 have ha8:=ha6.trans qK
 have g8:=(qK.same Dx (by omega)).trans g6
 obtain ⟨_,_,_,_,lA8⟩:=Uw g8
 obtain ⟨_,_,_,_,lB8⟩:=Uw bO
 by_cases he:e6=0
 .have pM:uN ⟨S.dims,S.attrs,S.at' v⟩ l 0 r6:=he ▸ N8
  have Rj:Jh S.dims S.attrs l=0/\∃ m,m.Perm l/\Ly m/\r6=⟨S.dims,S.attrs,Po m (S.at' v)⟩:=by
   rcases N8 with ⟨_,h1,_⟩ | ⟨_,h1,h2,_⟩ | ⟨_,_,_,h1,_⟩ | ⟨_,h1,_,_,m,h2,h3,h4⟩
   .omega
   .exact absurd (h2.symm.trans he) h1
   .omega
   .exact ⟨h1,m,h2,h3,h4⟩
  obtain ⟨Yf,m,eu,eo,rfl⟩:=Rj
  have hy:=Bm6 (x:=⟨S.dims,S.attrs,S.at' v⟩) sc Yf eu eo (by show _+l.length<=_;(have:(⟨S.dims,S.attrs,S.at' v⟩:PArr).cells.length=(S.at' v).length:=rfl);omega)
  have S7:=wI (x:=⟨S.dims,S.attrs,S.at' v⟩) so eu (by show _+l.length<=_;(have:(⟨S.dims,S.attrs,S.at' v⟩:PArr).cells.length=(S.at' v).length:=rfl);omega) Zi
  have hol:(Po m (S.at' v)).length<=255:=by
   have h1:=W1 m (S.at' v)
   have h2:=eu.length_eq
   omega
  simp only [Ax,↓Ba,show decide (¬ e6=0)=false by simp [he],lA8,lB8]
  have c1:=y1.keep (Ao:=Ol) λj hj=>(qK.same j (by have:=hj.2;omega)).trans (lK.same j (by have:=hj.2;omega))
  have c2:=y2.keep (Ao:=Ol) λj hj=>(qK.same j (by have:=hj.2;omega)).trans (lK.same j (by have:=hj.2;omega))
  have c3:=y3.keep (Ao:=Ol) λj hj=>(qK.same j (by have:=hj.2;omega)).trans (lK.same j (by have:=hj.2;omega))
  have e1:=u1.keep (Ao:=Ol) λj hj=>qK.same j hj.2
  have e2:=u2.keep (Ao:=Ol) λj hj=>qK.same j hj.2
  have e3:=u3.keep (Ao:=Ol) λj hj=>qK.same j hj.2
  refine Fl (B10 (k+f+12) (Kw+1) _ _ _ _ _ ⟨S.dims,S.attrs,S.at' v⟩ ⟨S.dims,S.attrs,Po m (S.at' v)⟩ (Ai _) ⟨dd,da,dc,rfl,c1.mono λj hj=>by (have:=hj.2;show j<Kw+1);omega,c2.mono λj hj=>by (have:=hj.2;show j<Kw+1);omega,c3.mono λj hj=>by (have:=hj.2;show j<Kw+1);omega⟩ ⟨PF,PD,PB,rfl,e1.mono λj hj=>by (have:=hj.2;show j<Kw+1);omega,e2.mono λj hj=>by (have:=hj.2;show j<Kw+1);omega,e3.mono λj hj=>by (have:=hj.2;show j<Kw+1);omega⟩ so S7 λMk nL V8=>?_)
  have aQp:=V8.le
  have QN:=ha8.trans V8
  have g9:=(V8.same Kw (by omega)).trans bO
  obtain ⟨_,_,_,_,lB9⟩:=Uw g9
  cases hs:Tn ⟨S.dims,S.attrs,S.at' v⟩ ⟨S.dims,S.attrs,Po m (S.at' v)⟩ with
  | true=>
   simp only [Ax,↓Ba,bP]
   exact hS _ _ _ pM hs QN
  | false=>
   simp only [Ax,↓Ba,a0,a1,a2,lB9]
   refine Vt (fl:=[iv (v:Nat)]) rfl (by simp only [Ag,Ak,Cg,bR,bP,Ns];rfl) λIx Wv Hq=>?_
   simp only [bR] at Wv Hq
   have fE:Al es.hp es.nx Ix (nL+1):=⟨by have:=QN.le;omega,λj hj=>by rw [Hq j (by have:=QN.le;omega),QN.same j hj]⟩
   have o1:=e1.keep (Ao:=Ix) λj hj=>(Hq j (by have:=hj.2;omega)).trans (V8.same j (by have:=hj.2;omega))
   have o2:=e2.keep (Ao:=Ix) λj hj=>(Hq j (by have:=hj.2;omega)).trans (V8.same j (by have:=hj.2;omega))
   have o3:=e3.keep (Ao:=Ix) λj hj=>(Hq j (by have:=hj.2;omega)).trans (V8.same j (by have:=hj.2;omega))
   have rP:RL rInt Ix (Bl (nL+1)) (.ms nL 0 1 1) [(v:Int)]:=(OL.ms (R:=rInt) (p:=Bl (nL+1)) nL _ [(v:Int)] Wv (Rows.one rfl)).rl.mono λj hj=>hj.elim id λh=>by
    have:j=nL:=by simpa [DV.refs] using h
    show j<nL+1
    omega
   simp only [Ax,↓Ba]
   refine Fl (C21 k _ (f+8) _ b _ _ (Po m (S.at' v)) [(v:Int)] (Ai _) (h.keep fE) ⟨PF,PD,PB,rfl,o1.mono λj hj=>by (have:=hj.2;show j<nL+1);omega,o2.mono λj hj=>by (have:=hj.2;show j<nL+1);omega,o3.mono λj hj=>by (have:=hj.2;show j<nL+1);omega⟩ rP ⟨by simp,by simp⟩ (λq hq=>by (have:q=(v:Int):=by simpa using hq);omega) ⟨hy,S7,hol⟩ hn (by rw [show ([(v:Int)].headD 0).toNat=v from Hc v];exact hg) (by omega) (λLp ZW rI qx=>?_) λLp ZW cF Ez fr Vg ht=>?_)
   .have j0:Fv Lp (.tup [iv 0,iv 18]) 0=some (iv 0):=rfl
    have j1:Fv Lp (.tup [iv 0,iv 18]) 1=some (iv 18):=rfl
    simp only [Ax,↓Ba,bP,j0,j1]
    exact hF _ _ _ pM hs rI (fE.trans qx)
   have j0:Fv Lp (.tup [iv ((S.vers.length+1:Nat):Int),iv 0]) 0=some (iv ((S.vers.length+1:Nat):Int)):=rfl
   have j1:Fv Lp (.tup [iv ((S.vers.length+1:Nat):Int),iv 0]) 1=some (iv 0):=rfl
   simp only [Ax,↓Ba,bP,j0,j1]
   exact hK _ _ cF (Po m (S.at' v)) Ez pM hs hy S7 ⟨Ep fE.le fr.le,λj h1 h2 h3 h4=>(fr.k j (by have:=fE.le;omega) h2 h3 h4).trans (fE.same j h1)⟩ (λj hj=>by (have:=Vg j hj);have:=fE.le;omega) (ht _ _ (Ai _) λ_ _=>rfl)
 .simp only [Ax,↓Ba,bP,show decide (¬ e6=0)=true by simp [he]]
  exact hE _ _ _ _ N8 he ha8
end
end Go.DD

/- The code of functions, as it is run (part 1): printed by a program out of the translation. -/
namespace Go.DD
noncomputable section
open Pa
instance RM : Coe Pa EO := ⟨EO.t⟩
open Go
set_option maxRecDepth 100000
def zu:CE:=(cT [(sU o (Rz 26 [.v (.slice none 0 0),.v (.slice none 0 0),.v (.slice none 0 0)]))] (cT [(sM o.l (.c (.fn (.func 100) [.tup []])))] (cT [(sU o.r (Bd (.bld [.string (bs []),.int .i64 0,.int .i64 0] [(0,1,.const (.string (bs [120]))),(2,1,.const (.int .i64 3))]))),(sU ">" (Bd (.bld [.string (bs []),.int .i64 0,.int .i64 0] [(0,1,.const (.string (bs [121]))),(2,1,.const (.int .i64
 1))]))),(sU "!" (Bd (.bsl 129 2 3 [.string (bs []),.int .i64 0,.int .i64 0] [(0,3,.tmp 2),(3,3,.tmp 3)]))),(sU ")" (Bd (.bld [.string (bs []),.int .i64 0] [(0,1,.const (.string (bs [118]))),(1,1,.const (.int .i64 2))]))),(sU "$" (Bd (.bsl 131 1 2 [.string (bs []),.int .i64 0] [(0,2,.tmp 5)]))),(sU "(" (Bd (.bsl 3 2 1 [.int .i64 0] [(0,1,.const (.int .i64 0)),(1,1,.const (.int .i64
 0))]))),(sM "%" o.l),(aZ none "%" [(5:Int)] "&"),(sU "*" (Bd (.bld [.slice none 0 0,.slice none 0 0] [(0,1,.tmp 7),(1,1,.tmp 9)]))),(sU "," (Bd (.bsl 3 2 1 [.int .i64 0] [(0,1,.const (.int .i64 1)),(1,1,.const (.int .i64 0))]))),(sM "." o.l),(aZ none "." [(7:Int)] "+"),(sU "1" (Bd (.bld [.slice none 0 0,.slice none 0 0] [(0,1,.tmp
 11),(1,1,.tmp 13)]))),(sU "4" (Bd (.bsl 3 2 1 [.int .i64 0] [(0,1,.const (.int .i64 1)),(1,1,.const (.int .i64 1))]))),(sU "2" (Bd (.bld [.int .i64 0,.int .i64 0,.int .i64 0,.string (bs [])] [(1,1,.const (.int .i64 1))]))),(sU "3" (Bd (.bsl 41 1 4 [.int .i64 0,.int .i64 0,.int .i64 0,.string (bs [])] [(0,4,.tmp 16)]))),(sU "6" (Bd (.bld [.slice none 0 0,.slice none 0
 0] [(0,1,.tmp 15),(1,1,.tmp 17)]))),(sU "7" (Bd (.bsl 3 2 1 [.int .i64 0] [(0,1,.const (.int .i64 3)),(1,1,.const (.int .i64 1))]))),(sM "8" o.l),(aZ none "8" [(2:Int)] "0"),(sU "<" (Bd (.bld [.slice none 0 0,.slice none 0 0] [(0,1,.tmp 19),(1,1,.tmp 21)]))),(sU ":" (Bd (.bsl 39 4 2 [.slice none 0 0,.slice none 0 0] [(0,2,.tmp 10),(2,2,.tmp
 14),(4,2,.tmp 18),(6,2,.tmp 22)]))),(sU "5" (Bd (.bld [.slice none 0 0,.slice none 0 0,.slice none 0 0] [(0,1,.tmp 4),(1,1,.tmp 6),(2,1,.tmp 23)]))),(sU none (Jr 3 o "5"))] (cE .ret))))
def e38:FE:=⟨zu,[(0,some (some 3))],25⟩
def zt:CE:=(cT [(sM "$" (.c (.v (.slice none 0 0))))] (cT [(sM "(" o),(sM "%" o.l),(sU "&" (Bd (.bsl 3 2 1 [.int .i64 0] [(0,1,.tmp 7),(1,1,.tmp 8)]))),(sM "*" o.r),(sU "," (Bd (.bld [.slice none 0 0,.slice none 0 0] [(0,1,.tmp 9),(1,1,.tmp 10)]))),(sU "." (Bd (.bsl 62 1 2 [.slice none 0 0,.slice none 0 0] [(0,2,.tmp 11)]))),(sM "$" ".")] (cE .ret)))
def e39:FE:=⟨zt,[(6,none)],13⟩
def zs:CE:=(cT [(sM o.r (.c (.v (.slice none 0 0))))] (cT [(sM ">" o),(sU "!" (Bd (.bld [.int .i64 0,.int .i64 0,.int .i64 0,.string (bs [])] [(0,1,.const (.int .i64 2)),(1,1,.tmp 3),(2,1,.const (.int .i64 1))]))),(sU ")" (Bd (.bsl 41 1 4 [.int .i64 0,.int .i64 0,.int .i64 0,.string (bs [])] [(0,4,.tmp 4)]))),(sM o.r ")")] (cE .ret)))
def e40:FE:=⟨zs,[(2,none)],6⟩
def EH:CE:=(cT [(sM o.r (.c (.v (.slice none 0 0))))] (cT [(sM ">" o),(sU "!" (Bd (.bld [.int .i64 0,.int .i64 0,.int .i64 0,.string (bs [])] [(0,1,.const (.int .i64 2)),(1,1,.tmp 3),(2,1,.const (.int .i64 1))]))),(sU ")" (Bd (.bsl 41 1 4 [.int .i64 0,.int .i64 0,.int .i64 0,.string (bs [])] [(0,4,.tmp 4)]))),(sM o.r ")")] (cE .ret)))
def pz:FE:=⟨EH,[(2,none)],6⟩
def EG:CE:=(cT [(sM "!" (0:Int))] (cS (cT [(sM "(" o),(Bj 82 ["("] "%"),(sX "&" (Qs .not "%"))] (cC "&" (cT [(sM "!" (1:Int))] (cE .ret)) (cE .normal))) (cS (cT [(sM "," o),(sU "." (Bd (.nck (.tmp 11)))),(sX "+" (Eg 4 ".")),(sX "1" (Cj none "+")),(sM "4" o.l),(sU "2" (Bd (.lkp (.p .string) (.int
 .i64 0) (.tmp 14) (.tmp 15) true))),(sM "*" "2"),(sX "3" (Ga "*" 0)),(sX "6" (Ga "*" 1)),(sM ")" "3"),(sM "$" "6")] (cT [(sM "7" "$"),(sX "8" (Qs .not "7"))] (cC "8" (cT [(sM "!" (11:Int))] (cE .ret)) (cE .normal)))) (cS (cT [(sM "0" o),(sU "<" (Bd (.nck (.tmp 21)))),(sX ":" (Eg 4 "<")),(sX
 "5" (Cj none ":")),(sU ";" (Bd (.lnm (.tmp 24)))),(sX "9" (Av .eql ";" (1:Int)))] (cC "9" (cT [(sM "!" (6:Int))] (cE .ret)) (cE .normal))) (cT [(sM "=" o),(sU "?" (Bd (.nck (.tmp 27)))),(sX "@" (Eg 4 "?")),(sX "A" (Cj none "@")),(sM "B" o.l),(sU none (Bd (.mdl (.p .string) (.tmp
 30) (.tmp 31))))] (cT [(sM "!" (0:Int))] (cE .ret)))))))
def pw:FE:=⟨EG,[(4,none)],32⟩
end
end Go.DD

/- The code of functions, as it is run (part 1): printed by a program out of the translation. -/
namespace Go.DD
noncomputable section
open Pa
instance RN : Coe Pa EO := ⟨EO.t⟩
open Go
set_option maxRecDepth 100000
def xI:CE:=(cT [(sX "." (Av .lss "," "*"))] (cS (cC "." (cE .normal) (cE (.exit 0))) (cS (cB 1 (cT [(sX "+" (Gf 1 "&" ",")),(sX "1" (Cj none "+")),(sM ")" "1")] (cT [(sM "4" ">"),(sM "2" ")"),(sX "3" (Dp "2")),(sX "6" (Av .add "4" "3")),(sM ">" "6")] (cT [(sM "7" ">"),(sX "8" (Av
 .lss "7" (0:Int)))] (cC "8" (cN (sL [(sU "0" (Bd (.mki 9 (.const (.string (bs [108,101,110,32,111,117,116,32,111,102,32,114,97,110,103,101])))))),(sU none (Bd (.bad)))])) (cE .normal)))))) (cN (sL [(sX "<" (Av .add "," (1:Int))),(sM "," "<")])))))
def xH:CE:=(cT [(sX "?" (Av .lss "=" "9"))] (cS (cC "?" (cE .normal) (cE (.exit 2))) (cS (cB 3 (cT [(sX "@" (Gf 1 ";" "=")),(sX "A" (Cj none "@")),(sM "%" "A")] (cN (sL [(sM "B" "$"),(sM "C" "%"),(sU "D" (Bd (.app 3 1 8 (.tmp 31) (.tmp 32)))),(sM "$" "D")])))) (cN (sL [(sX "F" (Av
 .add "=" (1:Int))),(sM "=" "F")])))))
def yw:CE:=(cT [(sM o.r (.c (.v (.slice none 0 0))))] (cT [(sM ">" (0:Int))] (cS (cT [(sM "&" o),(sX "*" (Dp "&")),(sM "," (0:Int))] (cB 0 (cL 1000000 xI))) (cT [(sM ":" ">"),(Bj 144 [(.c (.v (.slice none 0 0))),":"] "5"),(sM "$" "5")] (cS (cT [(sM ";" o),(sX "9" (Dp ";")),(sM "=" (.c (.v
 (.int .i64 0))))] (cB 2 (cL 1000000 xH))) (cT [(sM "G" "$"),(sM o.r "G")] (cE .ret)))))))
def e94:FE:=⟨yw,[(2,none)],36⟩
def DM:CE:=(cT [(sM "!" (.c (.v (.slice none 0 0))))] (cS (cT [(sM ")" o.l),(sX "$" (Av .lss ")" (0:Int)))] (cC "$" (cN (sL [(sU "(" (Bd (.mki 9 (.const (.string (bs [99,97,110,110,111,116,32,98,101,32,110,101,103,97,116,105,118,101])))))),(sU none (Bd (.bad)))])) (cE .normal))) (cS (cT [(sM "%" o.l),(sM "&" o),(sU "*" (Bd (.cpn (.tmp 9)))),(sM ","
 o),(sX "." (Dp ",")),(sX "+" (Av .sub "*" ".")),(sX "1" (Av .sub "%" "+")),(sM o.l "1")] (cT [(sM "4" o.l),(sX "2" (Av .gtr "4" (0:Int)))] (cC "2" (cN (sL [(sM "3" o),(sM "6" o),(sU "7" (Bd (.cpn (.tmp 18)))),(sU "8" (Bd (.sli 1 (.tmp 17) none (some (.tmp 19))))),(sM "0" o.l),(sU "<"
 (Bd (.apz 3 1 8 (.tmp 20) (.tmp 21)))),(sM ":" o),(sX "5" (Dp ":")),(sU ";" (Bd (.sli 1 (.tmp 22) none (some (.tmp 24))))),(sM o ";")])) (cE .normal)))) (cT [(sM "9" o),(sM "!" "9")] (cE .ret)))))
def om:FE:=⟨DM,[(4,none)],27⟩
def yv:CE:=(cT [(sU o.l (Pn 138 o)),(sM o.r (.c (.v .nilFunc)))] (cT [(sU ">" (Bd (.mkf (.func 146) [] [.tmp 1]))),(sM o.r ">")] (cE .ret)))
def e96:FE:=⟨yv,[(2,none)],4⟩
end
end Go.DD

/- The printed code is the program's. -/
namespace Go.DD
open Go Go.Proofs
set_option maxRecDepth 100000
theorem t94:te 94=some e94:=by kernel_rfl
theorem WR:te 144=some om:=by kernel_rfl
theorem t96:te 96=some e96:=by kernel_rfl
end Go.DD

/- The printed code is the program's. -/
namespace Go.DD
open Go Go.Proofs
set_option maxRecDepth 100000
theorem t38:te 38=some e38:=by kernel_rfl
theorem t39:te 39=some e39:=by kernel_rfl
theorem t40:te 40=some e40:=by kernel_rfl
theorem XJ:te 100=some pz:=by kernel_rfl
theorem XI:te 101=some pw:=by kernel_rfl
end Go.DD

/- Contracts: a branch that is there, one too many; a branch is dropped. Conditions: those that each theorem states. -/
namespace Go.DD
open Go Go.Proofs Go.Sort
def Zl:List (ByteArray×Int)->ByteArray->List (ByteArray×Int)
 | [],_=>[]
 | x::l,s=>if s=x.1 then l else x::Zl l s
theorem Bn2{s:ByteArray} : ∀ {hs:List (ByteArray×Int)} {x:ByteArray×Int},x∈Zl hs s->x∈hs
 | [],_,h=>h
 | y::hs,x,h=>by
  unfold Zl at h
  split at h
  .exact Be _ h
  .rcases Aq.1 h with rfl | h
   .simp
   .exact Be _ (Bn2 h)
theorem Ck3(s:ByteArray):∀ {es:List ME} {hs:List (ByteArray×Int)} {n:Int} (i:Nat),Mv es hs->Iy hs s=some n->∃ j e,findD (.p .string) (.string s) es i=some (some (i+j,e))/\Mv (es.eraseIdx j) (Zl hs s)
 | _,[],_,_,_,hf=>by cases hf
 | [],_::_,_,_,h,_=>by cases h
 | e::es,x::hs,n,i,h,hn=>by
  have h':(e.k,e.v)=(Value.string x.1,iv x.2)/\Mv es hs:=List.cons.inj h
  obtain ⟨h1,h2⟩:=h'
  obtain ⟨hk,hv⟩:=Prod.mk.inj h1
  have hf:findD (.p .string) (.string s) (e::es) i=if s=x.1 then some (some (i,e)) else findD (.p .string) (.string s) es (i+1):=by
   show (match Nc (.p .string) (.string s) e.k with
    | some true=>some (some (i,e))
    | some false=>findD (.p .string) (.string s) es (i+1)
    | none=>none)=_
   rw [hk,show Nc (.p .string) (.string s) (.string x.1)=some (decide (s=x.1)) from B13 _ _]
   by_cases hs:s=x.1
   .rw [Ar hs,Af hs]
   .rw [Aj hs,Ad hs]
  by_cases hx:s=x.1
  .refine ⟨0,e,by rw [hf,Af hx];rfl,?_⟩
   unfold Zl
   rw [Af hx]
   exact h2
  .unfold Iy at hn
   rw [Ad hx] at hn
   obtain ⟨j,e',g1,g2⟩:=Ck3 s (i+1) h2 hn
   refine ⟨j+1,e',by rw [hf,Ad hx,g1,Mr,Rm 1 j],?_⟩
   unfold Zl
   rw [Ad hx]
   show (e.k,e.v)::(es.eraseIdx j).map (λe=>(e.k,e.v))=_::(Zl hs s).map _
   rw [h1];exact Mq _ g2
section
variable {call:Bg} {es:ES} {dst:Option Pa}
theorem Cr7{R:ES->Prop}{t:Nat}{u:Operand}{im ck:Nat}{es':List ME}{hs:List (ByteArray×Int)}{s:ByteArray}{n:Int}(e1:es.ds.ev (.tmp t)=.mp im)(hm:es.hp.get im=some (.mapo ck es'))(hk:Mv es' hs)(If:StO ck es')(e2:es.ds.ev u=sv s)(hf:Iy hs s=some n)
  (h:∀ Ao Cb,Ao.get im=some (.mapo ck Cb)->Mv Cb (Zl hs s)/\StO ck Cb->(∀ j,j≠im->Ao.get j=es.hp.get j)->R ((ES.mk es.sl Ao es.nx).putE dst .any)) :
  SW (sU dst (Bd (.mdl (.p .string) (.tmp t) u))) call es R:=by
 rw [sw_u,Fi]
 obtain ⟨j,e,g1,g2⟩:=Ck3 s 0 hk hf
 have Ow:=List.eraseIdx_sublist es' j
 refine ⟨.any,.wr im (.mapo ck (es'.eraseIdx j)),?_,h (es.up (.wr im (.mapo ck (es'.eraseIdx j)))).hp _ (by rw [Kh,get_set,Af rfl]) ⟨g2,λe he=>If.1 e (Ow.subset he),(Ow.map ME.b).nodup If.2⟩ λi hi=>by rw [Kh,get_set,Ad hi]⟩
 simp only [Ay,e1,e2]
 show (match es.hp.get im with
  | some (.mapo ck es)=>match findD (.p .string) (.string s) es 0 with
   | some (some p)=>some (DV.any,Upd.wr im (.mapo ck (es.eraseIdx p.1)))
   | some none=>some (DV.any,Upd.wr im (.mapo ck es))
   | none=>none
  | _=>none)=_
 rw [hm]
 simp only [g1,Cp]
end
def GTree.drop(S:GTree)(b:ByteArray):GTree:={ S with heads:=Zl S.heads b }
section
variable {hp:Tr DObj} {nx T H:Nat} {nd:DV} {S:GTree} (k:Nat) (K:DV->Tr DObj->Nat->Prop)
theorem Bq4(b:ByteArray)(v n:Int)(h:TreeG hp nx T H nd S)(hb:Kx b=true)(Ww:Iy S.heads b=some n)(hK:K (iv 5) hp nx):KW (kN (k+3)) (.fn 28) [.pt T 0,sv b,iv v] hp nx K:=by
 refine En (Hm (by decide)) VS (Ab rfl) λes e1 e2 he=>?_
 have a0:Ae es (.t .o)=.pt T 0:=he 0 _ rfl
 have a1:Ae es (.t (.l .o))=sv b:=he 1 _ rfl
 have a2:Ae es (.t (.r .o))=iv v:=he 2 _ rfl
 unfold PA
 subst e1 e2
 obtain ⟨d,a,z,hT,⟨f0,f3,f4,f1⟩,⟨l0,l1,l3,l4⟩,_⟩:=h.ld
 obtain ⟨ck,bV,hH,hM,uC⟩:=h.m
 simp only [↓ew_s,↓Cn,↓Fb,↓Jv,↓Dy,xw_some,Mg,Ag,Ak,Gk,Hx,Px,Uv,nx_put,Bx,reduceCtorEq,Ah,↓Xb,a0]
 refine Fl (Xw (k+1) _ h ?_)
 simp only [↓ew_s,↓Kb,↓Jg,↓Cn,↓Fb,↓Jv,↓Dy,↓Ij,↓Wb,xw_some,Ry,Mg,Ag,Ak,Gk,Hx,Dl,Is,dE,Vx,Bx,reduceCtorEq,Ah,Hs,Pa.l.injEq,↓Xb,a1]
 refine Fl (NA (k+1) _ _ _ b ?_)
 simp only [↓ew_s,↓Kb,↓Jg,↓Cn,↓Fb,↓Jv,↓Dy,↓Ij,↓Wb,xw_some,Ry,Mg,aW,dF,Gk,Hx,Dl,Is,dE,Vx,Bx,reduceCtorEq,Ah,Hs,Pa.l.injEq,Cg,EK,a0,a1,hb,↓Ut,Rk hT,Xg,f4,l4,↓Xm]
 refine ON (im:=H) (ck:=ck) (es':=bV) (hs:=S.heads) (s:=b) (by simp only [Cg,Gk,Hx,Dl,Bx,reduceCtorEq,Ah,YG,Yq hH]) hH hM (by simp only [Cg,Gk,Dl,EJ,Ns]) ?_
 rw [Ww]
 have x0:Fv es.hp (.tup [iv ((some n:Option Int).getD 0),bv (some n:Option Int).isSome]) 0=some (iv n):=rfl
 have x1:Fv es.hp (.tup [iv ((some n:Option Int).getD 0),bv (some n:Option Int).isSome]) 1=some (bv true):=rfl
 simp only [Fx,↓Kb,↓Jg,↓Cn,↓Fb,↓Jv,↓Dy,↓Ij,↓Q3,xw_some,qE,Mg,Gk,Hx,Px,Dl,Is,Ns,Bx,reduceCtorEq,Ah,true_and,or_true,Yz,p6,x0,x1]
 exact hK
theorem Bq5(b:ByteArray)(v:Nat)(h:TreeG hp nx T H nd S)(hb:Kx b=true)(Ww:Iy S.heads b=none)(hv:1<=v/\v<=S.vers.length)(hg:S.isG v=false)(hh:8<=S.heads.length)(hK:K (iv 18) hp nx):KW (kN (k+3)) (.fn 28) [.pt T 0,sv b,iv (v:Nat)] hp nx K:=by
 refine En (Hm (by decide)) VS (Ab rfl) λes e1 e2 he=>?_
 have a0:Ae es (.t .o)=.pt T 0:=he 0 _ rfl
 have a1:Ae es (.t (.l .o))=sv b:=he 1 _ rfl
 have a2:Ae es (.t (.r .o))=iv (v:Nat):=he 2 _ rfl
 unfold PA
 subst e1 e2
 obtain ⟨d,a,z,hT,⟨f0,f3,f4,f1⟩,⟨l0,l1,l3,l4⟩,_⟩:=h.ld
 obtain ⟨ck,bV,hH,hM,uC⟩:=h.m
 simp only [↓ew_s,↓Cn,↓Fb,↓Jv,↓Dy,xw_some,Mg,Ag,Ak,Gk,Hx,Px,Uv,nx_put,Bx,reduceCtorEq,Ah,↓Xb,a0]
 refine Fl (Xw (k+1) _ h ?_)
 simp only [↓ew_s,↓Kb,↓Jg,↓Cn,↓Fb,↓Jv,↓Dy,↓Ij,↓Wb,xw_some,Ry,Mg,Ag,Ak,Gk,Hx,Dl,Is,dE,Vx,Bx,reduceCtorEq,Ah,Hs,Pa.l.injEq,↓Xb,a1]
 refine Fl (NA (k+1) _ _ _ b ?_)
 simp only [↓ew_s,↓Kb,↓Jg,↓Cn,↓Fb,↓Jv,↓Dy,↓Ij,↓Wb,xw_some,Ry,Mg,aW,dF,Gk,Hx,Dl,Is,dE,Vx,Bx,reduceCtorEq,Ah,Hs,Pa.l.injEq,Cg,EK,a0,a1,hb,↓Ut,Rk hT,Xg,f4,l4,↓Xm]
 refine ON (im:=H) (ck:=ck) (es':=bV) (hs:=S.heads) (s:=b) (by simp only [Cg,Gk,Hx,Dl,Bx,reduceCtorEq,Ah,YG,Yq hH]) hH hM (by simp only [Cg,Gk,Dl,EJ,Ns]) ?_
 rw [Ww]
 have x0:Fv es.hp (.tup [iv ((none:Option Int).getD 0),bv (none:Option Int).isSome]) 0=some (iv 0):=rfl
 have x1:Fv es.hp (.tup [iv ((none:Option Int).getD 0),bv (none:Option Int).isSome]) 1=some (bv false):=rfl
 simp only [↓ew_s,↓Kb,↓Jg,↓Cn,↓Fb,↓Jv,↓Dy,↓Ij,↓Wb,xw_some,Ry,Mg,Ag,Ak,Gk,Hx,Dl,Is,Bx,reduceCtorEq,Ah,Pa.r.injEq,↓Xb,Yz,x0,x1,a0,a2]
 refine Fl (vp k _ v h hv ?_)
 rw [hg,Ad (by simp)]
 simp only [Fx,↓ew_s,↓Kb,↓Jg,↓Cn,↓Fb,↓Jv,↓Dy,↓Ij,↓Wb,xw_some,Ry,Mg,aW,dF,Gk,Hx,Px,Dl,Is,Jn,Bx,reduceCtorEq,Ah,Ff,Hn,Cg,p32,rR,a0,↓Ut,Rk hT,Xg,f4,l4,↓mS]
 refine tm (im:=H) (ck:=ck) (es':=bV) (hs:=S.heads) (by simp only [Cg,Gk,Dl,p35,Yq hH]) hH hM ?_
 simp only [Fx,↓Kb,↓Jg,↓Cn,↓Fb,↓Jv,↓Dy,↓Ij,↓Q3,xw_some,qE,Mg,Gk,Px,Dl,Is,Jn,Ns,reduceCtorEq,true_and,or_true,ge_iff_le,p6,fC,show decide ((8:Int)<=(S.heads.length:Int))=true from Ar (by omega)]
 exact hK
theorem Cr8(b:ByteArray)(n:Int)(h:TreeG hp nx T H nd S)(hb:Iy S.heads b=some n)(hl:S.heads.length≠1)
  (hK:∀ Ao,(∀ j,j≠H->Ao.get j=hp.get j)->TreeG Ao nx T H nd (S.drop b)->K (iv 0) Ao nx):KW (kN (k+2)) (.fn 101) [.pt T 0,sv b] hp nx K:=by
 refine En (Hm (by decide)) XI (Ab rfl) λes e1 e2 he=>?_
 have a0:Ae es (.t .o)=.pt T 0:=he 0 _ rfl
 have a1:Ae es (.t (.l .o))=sv b:=he 1 _ rfl
 unfold EG
 subst e1 e2
 obtain ⟨d,a,z,hT,⟨f0,f3,f4,f1⟩,⟨l0,l1,l3,l4⟩,_⟩:=h.ld
 obtain ⟨ck,bV,hH,hM,uC⟩:=h.m
 simp only [↓ew_s,↓Cn,↓Fb,↓Jv,↓Dy,xw_some,Mg,Ag,Ak,Gk,Hx,Px,Uv,nx_put,Bx,reduceCtorEq,Ah,↓Xb,a0]
 refine Fl (Xw k _ h ?_)
 simp only [↓ew_s,↓Kb,↓Jg,↓Cn,↓Fb,↓Jv,↓Dy,↓Ij,↓Wb,xw_some,Ry,Mg,aW,dF,Gk,Hx,Dl,Is,dE,Vx,Bx,reduceCtorEq,Ah,Hs,Pa.l.injEq,Cg,PE,a0,a1,↓Ut,Rk hT,Xg,f4,l4,↓Xm]
 refine ON (im:=H) (ck:=ck) (es':=bV) (hs:=S.heads) (s:=b) (by simp only [Cg,Gk,Hx,Dl,Bx,reduceCtorEq,Ah,YK,Yq hH]) hH hM (by simp only [Cg,Gk,Dl,YJ,Ns]) ?_
 rw [hb]
 have x0:Fv es.hp (.tup [iv ((some n:Option Int).getD 0),bv (some n:Option Int).isSome]) 0=some (iv n):=rfl
 have x1:Fv es.hp (.tup [iv ((some n:Option Int).getD 0),bv (some n:Option Int).isSome]) 1=some (bv true):=rfl
 simp only [↓ew_s,↓Kb,↓Jg,↓Cn,↓Fb,↓Jv,↓Dy,↓Ij,↓Wb,xw_some,Ry,Mg,aW,dF,Gk,Hx,Dl,Is,dE,Vx,Bx,reduceCtorEq,Ah,Hs,Yz,Cg,EJ,x0,x1,a0,↓Ut,Rk hT,Xg,f4,l4,↓mS]
 refine tm (im:=H) (ck:=ck) (es':=bV) (hs:=S.heads) (by simp only [Cg,Gk,Dl,p24,Yq hH]) hH hM ?_
 simp only [Fx,↓Kb,↓Jg,↓Cn,↓Fb,↓Jv,↓Dy,↓Ij,↓Wb,xw_some,Ry,Mg,aW,dF,Gk,Hx,Px,Dl,Uv,nx_put,Is,Jn,Ns,Bx,reduceCtorEq,Ah,true_and,or_true,Pa.l.injEq,Cg,p4,p27,Q1,a0,a1,↓Ut,Rk hT,Xg,f4,l4,show decide ((S.heads.length:Int)=1)=false from Aj (by omega)]
 refine Cr7 (im:=H) (ck:=ck) (es':=bV) (hs:=S.heads) (s:=b) (n:=n) (by simp only [Cg,Gk,Hx,Dl,Bx,reduceCtorEq,Ah,p30,Yq hH]) hH hM uC (by simp only [Cg,Gk,Dl,p31,Ns]) hb λMk O9 Qa O2 Ju=>?_
 simp only [Bx] at Qa Ju
 simp only [dJ]
 obtain ⟨d',a',OO,e1,r1,r2,r3⟩:=h.r
 have kk:∀ j,(j<es.nx/\j≠T/\j≠H/\j∉nd.refs)->Mk.get j=es.hp.get j:=λj hj=>Ju j hj.2.2.1
 have ho:=h.ok
 exact hK Mk Ju ⟨h.th,⟨d',a',OO,(Ju T h.th.1).trans e1,r1.keep kk,r2.keep kk,r3.keep kk⟩,⟨ck,O9,Qa,O2⟩,(by rw [GTree.nodes_congr (S:=S) (S':=S.drop b) rfl];exact h.n.keep λj hj=>hj.elim (kk j) λhj=>Ju j (h.nr j hj).2.2),h.nr,⟨ho.c,ho.z,ho.p,ho.n,ho.l,λx hx=>ho.h x (Bn2 hx)⟩⟩
end
end Go.DD

/- Contracts: a number, a change, the chapter's array. Conditions: those that each theorem states. -/
namespace Go.DD
open Go Go.Proofs Go.Sort
def Iv(n:Int):PVal:=⟨2,n,1,bs []⟩
def Ej(n:Int):PArr:=⟨[⟨bs [120],0,3⟩,⟨bs [121],0,1⟩],[⟨bs [118],2⟩],[⟨[0,0],[Iv n]⟩,⟨[1,0],[Iv 7]⟩,⟨[1,1],[⟨0,1,0,bs []⟩]⟩,⟨[3,1],[Iv 2]⟩]⟩
theorem B98{hp:Tr DObj}{p:Nat->Prop}(x y:Int):Rows rInt hp p [iv x,iv y] [x,y]:=⟨[iv x],[iv y],rfl,rfl,[iv y],[],rfl,rfl,rfl⟩
theorem qR{α:Type}{R:Rep α}{hp:Tr DObj}{id n:Nat}{l:List α}(h:hp.get id=some (.row R.T (l.flatMap R.cells)))(hn:id<n):RL R hp (Bl n) (.ms id 0 l.length R.e) l:=(OL.ms (R:=R) (p:=λ_=>False) id _ l h (Rows.pure ..)).rl.mono λj hj=>by
 rcases hj with hj | hj
 .exact hj.elim
 .have:j=id:=by simpa [DV.refs] using hj
  show j<n
  omega
section
variable (k:Nat) (hp:Tr DObj) (nx:Nat) (K:DV->Tr DObj->Nat->Prop)
theorem Ck4(n:Int)(hK:∀ Ao,Ao.get nx=some (.row 41 (vc (Iv n)))->(∀ j,j≠nx->Ao.get j=hp.get j)->K (.ms nx 0 1 4) Ao (nx+1)):KW (kN (k+1)) (.fn 40) [iv n] hp nx K:=by
 refine En (Hm (by decide)) t40 (Ab rfl) λes e1 e2 he=>?_
 have a0:Ae es (.t .o)=iv n:=he 0 _ rfl
 unfold zs
 subst e1 e2
 simp only [↓Cn,↓Fb,↓Jv,↓Dy,xw_some,Mg,Hx,Px,Bx,reduceCtorEq,Ah,↓Oe,a0]
 refine fT (cs:=[iv 2,iv n,iv 1,sv (bs [])]) (by simp only [Ag,Ak,Cg,Gk,Uv,p3,Ns];rfl) ?_
 simp only [↓Cn,↓Mi]
 refine Vt (fl:=vc (Iv n)) rfl (by simp only [Ag,Ak,Cg,Gk,Uv,p4];rfl) λEi Dm Cv=>?_
 simp only [Uv,nx_put,Bx] at Dm Cv
 simp only [Fx,↓Kb,↓Cn,↓Fb,↓Dy,xw_some,Mg,Gk,Dl,nx_put,Is,reduceCtorEq,true_and,or_true,p2,Rl Dm]
 exact hK _ Dm Cv
theorem tk(n:Int)(hK:∀ Ao,Ao.get nx=some (.row 41 (vc (Iv n)))->(∀ j,j≠nx->Ao.get j=hp.get j)->K (.ms nx 0 1 4) Ao (nx+1)):KW (kN (k+1)) (.fn 100) [iv n] hp nx K:=by
 refine En (Hm (by decide)) XJ (Ab rfl) λes e1 e2 he=>?_
 have a0:Ae es (.t .o)=iv n:=he 0 _ rfl
 unfold EH
 subst e1 e2
 simp only [↓Cn,↓Fb,↓Jv,↓Dy,xw_some,Mg,Hx,Px,Bx,reduceCtorEq,Ah,↓Oe,a0]
 refine fT (cs:=[iv 2,iv n,iv 1,sv (bs [])]) (by simp only [Ag,Ak,Cg,Gk,Uv,p3,Ns];rfl) ?_
 simp only [↓Cn,↓Mi]
 refine Vt (fl:=vc (Iv n)) rfl (by simp only [Ag,Ak,Cg,Gk,Uv,p4];rfl) λEi Dm Cv=>?_
 simp only [Uv,nx_put,Bx] at Dm Cv
 simp only [Fx,↓Kb,↓Cn,↓Fb,↓Dy,xw_some,Mg,Gk,Dl,nx_put,Is,reduceCtorEq,true_and,or_true,p2,Rl Dm]
 exact hK _ Dm Cv
theorem xW(x y:Int)(v:DV)(vals:List PVal)(p:Nat->Prop)(Ng:∀ j,p j->j<nx)(hv:RL rVal hp p v vals)(hK:∀ Ao Bk z,Al hp nx Ao Bk->RL rChange Ao (λj=>p j\/(nx<=j/\j<Bk)) z [⟨[x,y],vals⟩]->K z Ao Bk):KW (kN (k+1)) (.fn 39) [iv x,iv y,v] hp nx K:=by
 refine En (Hm (by decide)) t39 (Ab rfl) λes e1 e2 he=>?_
 have a0:Ae es (.t .o)=iv x:=he 0 _ rfl
 have a1:Ae es (.t (.l .o))=iv y:=he 1 _ rfl
 have a2:Ae es (.t (.r .o))=v:=he 2 _ rfl
 unfold zt
 subst e1 e2
 simp only [↓Cn,↓Fb,↓Jv,↓Dy,xw_some,Mg,Hx,Px,Bx,reduceCtorEq,Ah,Pa.l.injEq,↓Mi,a0,a1]
 refine Vt (fl:=[iv x,iv y]) rfl (by simp only [Ag,Ak,Cg,Gk,Hx,Uv,Bx,reduceCtorEq,Ah,p7,p8,Ns];rfl) λEi Dm Cv=>?_
 simp only [Uv,nx_put,Bx] at Dm Cv
 have tI:RL rVal Ei p v vals:=hv.keep λj hj=>Cv j (by have:=Ng j hj;omega)
 simp only [↓Cn,↓Dy,xw_some,Mg,Hx,Dl,nx_put,Is,Bx,reduceCtorEq,Ah,Pa.r.injEq,↓Oe,a2]
 refine fT (cs:=[.ms es.nx 0 2 1,v]) (by simp only [Ag,Ak,Cg,Gk,Hx,Dl,Bx,reduceCtorEq,Ah,p9,ZQ,tI.live,Rl Dm];exact MY ⟨rfl,rfl⟩ tI.ok) ?_
 have lv:Cd Ei (.agg [.ms es.nx 0 2 1,v])=.agg [.ms es.nx 0 2 1,v]:=Wc λid hid=>by
  have:id=es.nx\/id∈v.refs:=by simpa [DV.refs,DV.refsL] using hid
  rcases this with rfl | h
  .rw [Dm];rfl
  .exact (tI.refs id h).2
 simp only [↓Cn,Is,↓Mi]
 refine Vt (fl:=[.ms es.nx 0 2 1,v]) rfl (by simp only [Ag,Ak,Cg,Gk,Dl,PE,lv];rfl) λDb Ft Et=>?_
 simp only [Bx] at Ft Et
 simp only [Fx,↓Kb,↓Cn,↓Fb,↓Dy,xw_some,Mg,Gk,Dl,Is,reduceCtorEq,true_and,or_true,p6,Rl Ft]
 have I5:=tI.keep (Ao:=Db) λj hj=>Et j (by have:=Ng j hj;omega)
 have r1:RL rInt Db (λj=>p j\/(es.nx<=j/\j<es.nx+1+1)) (.ms es.nx 0 2 1) [x,y]:=(OL.ms (R:=rInt) (p:=λ_=>False) es.nx [iv x,iv y] [x,y] ((Et es.nx (by omega)).trans Dm) (B98 x y)).rl.mono λj hj=>by
  rcases hj with hj | hj
  .exact hj.elim
  .have:j=es.nx:=by simpa [DV.refs] using hj
   exact .inr ⟨by omega,by omega⟩
 have ro:OL rChange Db (λj=>p j\/(es.nx<=j/\j<es.nx+1+1)) (.ms (es.nx+1) 0 1 2) [⟨[x,y],vals⟩]:=OL.ms (R:=rChange) (es.nx+1) [.ms es.nx 0 2 1,v] [⟨[x,y],vals⟩] Ft (Rows.one (rChange_rd.2 ⟨_,_,rfl,r1,I5.mono λj hj=>.inl hj⟩))
 exact hK _ _ _ ⟨by omega,λj hj=>by rw [Et j (by omega),Cv j (by omega)]⟩ (ro.rl.mono λj hj=>by
  rcases hj with hj | hj
  .exact hj
  .have:j=es.nx+1:=by simpa [DV.refs] using hj
   exact .inr ⟨by omega,by omega⟩)
theorem B17(hK:∀ Ao Bk d',Al hp nx Ao Bk->AR Ao (Bl Bk) d' (Ej 5)->K d' Ao Bk):KW (kN (k+2)) (.fn 38) [] hp nx K:=by
 refine nY (Hm (by decide)) t38 (Ab rfl) λes e1 e2 he=>?_
 unfold zu
 subst e1 e2
 simp only [↓Cn,↓Jv,↓D3]
 refine Vr λNg QG hk0=>?_
 simp only [Bx] at QG hk0
 simp only [↓Cn,↓Fb,↓Jv,↓Dy,xw_some,Mg,Px,Is,↓Oe]
 refine fT (cs:=[sv (bs [120]),iv 0,iv 3]) (by simp only [Ag,Ak];rfl) ?_
 simp only [↓Cn,Is,↓Oe]
 refine fT (cs:=[sv (bs [121]),iv 0,iv 1]) (by simp only [Ag,Ak];rfl) ?_
 simp only [↓Cn,Is,↓Mi]
 refine Vt (fl:=[sv (bs [120]),iv 0,iv 3,sv (bs [121]),iv 0,iv 1]) rfl (by simp only [Ag,Ak,Cg,Gk,Hx,Dl,Bx,reduceCtorEq,Ah,p2,p3];rfl) λEi Dm Cv=>?_
 simp only [Bx] at Dm Cv
 simp only [↓Cn,Is,↓Oe]
 refine fT (cs:=[sv (bs [118]),iv 2]) (by simp only [Ag,Ak];rfl) ?_
 simp only [↓Cn,Is,↓Mi]
 refine Vt (fl:=[sv (bs [118]),iv 2]) rfl (by simp only [Ag,Ak,Cg,Gk,Dl,p5];rfl) λDb Ft Et=>?_
 simp only [Bx] at Ft Et
 simp only [↓Cn,Is,↓Mi]
 refine Vt (fl:=[iv 0,iv 0]) rfl (by simp only [Ag,Ak];rfl) λGr Ni Iz=>?_
 simp only [Bx] at Ni Iz
 simp only [↓Cn,↓Dy,xw_some,Mg,Gk,Hx,Dl,Is,Bx,reduceCtorEq,Ah,Pa.l.injEq,↓jV]
 refine Xo (f:=100) (fs:=[]) (cs:=[]) (by simp only [Hl,Gk,Dl];rfl) (tk k _ _ _ 5 λGz Mf Fp=>?_)
 simp only [Bx] at Mf Fp
 simp only [↓Cn,Is,↓Oe]
 have g3:Gz.get (es.nx+1+1+1)=_:=(Fp _ (by omega)).trans Ni
 refine fT (cs:=[.ms (es.nx+1+1+1) 0 2 1,.ms (es.nx+1+1+1+1) 0 1 4]) (by simp only [Ag,Ak,Cg,Gk,Hx,Dl,Bx,reduceCtorEq,Ah,Pa.l.injEq,p7,p9,Rl g3,Rl Mf];rfl) ?_
 simp only [↓Cn,Is,↓Mi]
 refine Vt (fl:=[iv 1,iv 0]) rfl (by simp only [Ag,Ak];rfl) λHp Qb Io=>?_
 simp only [Bx] at Qb Io
 simp only [↓Cn,↓Dy,xw_some,Mg,Gk,Hx,Dl,Is,Bx,reduceCtorEq,Ah,Pa.l.injEq,↓jV]
 refine Xo (f:=100) (fs:=[]) (cs:=[]) (by simp only [Hl,Gk,Dl];rfl) (tk k _ _ _ 7 λJf Yu Py=>?_)
 simp only [Bx] at Yu Py
 simp only [↓Cn,Is,↓Oe]
 have g5:Jf.get (es.nx+1+1+1+1+1)=_:=(Py _ (by omega)).trans Qb
 refine fT (cs:=[.ms (es.nx+1+1+1+1+1) 0 2 1,.ms (es.nx+1+1+1+1+1+1) 0 1 4]) (by simp only [Ag,Ak,Cg,Gk,Hx,Dl,Bx,reduceCtorEq,Ah,Pa.l.injEq,PE,p13,Rl g5,Rl Yu];rfl) ?_
 simp only [↓Cn,Is,↓Mi]
 refine Vt (fl:=[iv 1,iv 1]) rfl (by simp only [Ag,Ak];rfl) λNz Td Md=>?_
 simp only [Bx] at Td Md
 simp only [↓Cn,Is,↓Oe]
 refine fT (cs:=[iv 0,iv 1,iv 0,sv (bs [])]) (by simp only [Ag,Ak];rfl) ?_
 simp only [↓Cn,Is,↓Mi]
 refine Vt (fl:=(vc ⟨0,1,0,bs []⟩)) rfl (by simp only [Ag,Ak,Cg,Gk,Dl,p16];rfl) λOl bO Ru=>?_
 simp only [Bx] at bO Ru
 simp only [↓Cn,Is,↓Oe]
 have g7:Ol.get (es.nx+1+1+1+1+1+1+1)=_:=(Ru _ (by omega)).trans Td
 refine fT (cs:=[.ms (es.nx+1+1+1+1+1+1+1) 0 2 1,.ms (es.nx+1+1+1+1+1+1+1+1) 0 1 4]) (by simp only [Ag,Ak,Cg,Gk,Hx,Dl,Bx,reduceCtorEq,Ah,Pa.l.injEq,YJ,EK,Rl g7,Rl bO];rfl) ?_
 simp only [↓Cn,Is,↓Mi]
 refine Vt (fl:=[iv 3,iv 1]) rfl (by simp only [Ag,Ak];rfl) λMk Qa Ju=>?_
 simp only [Bx] at Qa Ju
 simp only [↓Cn,↓Dy,xw_some,Mg,Gk,Hx,Dl,Is,Bx,reduceCtorEq,Ah,Pa.l.injEq,↓jV]
 refine Xo (f:=100) (fs:=[]) (cs:=[]) (by simp only [Hl,Gk,Dl];rfl) (tk k _ _ _ 2 λIx Wv Hq=>?_)
 simp only [Bx] at Wv Hq
 simp only [↓Cn,Is,↓Oe]
 have g9:Ix.get (es.nx+1+1+1+1+1+1+1+1+1)=_:=(Hq _ (by omega)).trans Qa
 refine fT (cs:=[.ms (es.nx+1+1+1+1+1+1+1+1+1) 0 2 1,.ms (es.nx+1+1+1+1+1+1+1+1+1+1) 0 1 4]) (by simp only [Ag,Ak,Cg,Gk,Hx,Dl,Bx,reduceCtorEq,Ah,Pa.l.injEq,p19,EJ,Rl g9,Rl Wv];rfl) ?_
 simp only [↓Cn,Is,↓Mi]
 have q3:Ix.get (es.nx+1+1+1)=some (.row 3 [iv 0,iv 0]):=by rw [Hq _ (by omega),Ju _ (by omega),Ru _ (by omega),Md _ (by omega),Py _ (by omega),Io _ (by omega),Fp _ (by omega)];exact Ni
 have q4:Ix.get (es.nx+1+1+1+1)=some (.row 41 (vc (Iv 5))):=by rw [Hq _ (by omega),Ju _ (by omega),Ru _ (by omega),Md _ (by omega),Py _ (by omega),Io _ (by omega)];exact Mf
 have q5:Ix.get (es.nx+1+1+1+1+1)=some (.row 3 [iv 1,iv 0]):=by rw [Hq _ (by omega),Ju _ (by omega),Ru _ (by omega),Md _ (by omega),Py _ (by omega)];exact Qb
 have q6:Ix.get (es.nx+1+1+1+1+1+1)=some (.row 41 (vc (Iv 7))):=by rw [Hq _ (by omega),Ju _ (by omega),Ru _ (by omega),Md _ (by omega)];exact Yu
 have q7:Ix.get (es.nx+1+1+1+1+1+1+1)=some (.row 3 [iv 1,iv 1]):=by rw [Hq _ (by omega),Ju _ (by omega),Ru _ (by omega)];exact Td
 have q8:Ix.get (es.nx+1+1+1+1+1+1+1+1)=some (.row 41 (vc ⟨0,1,0,bs []⟩)):=by rw [Hq _ (by omega),Ju _ (by omega)];exact bO
 have q9:Ix.get (es.nx+1+1+1+1+1+1+1+1+1)=some (.row 3 [iv 3,iv 1]):=by rw [Hq _ (by omega)];exact Qa
 have PH:∀ {a b:Nat} {o o2:DObj},Ix.get a=some o->Ix.get b=some o2->Cd Ix (.agg [.ms a 0 2 1,.ms b 0 1 4])=.agg [.ms a 0 2 1,.ms b 0 1 4]:=λ{a b o o2} h1 h2=>Wc λid hid=>by
  have:id=a\/id=b:=by simpa [DV.refs,DV.refsL] using hid
  rcases this with rfl | rfl
  .rw [h1];rfl
  .rw [h2];rfl
 refine Vt (fl:=[.ms (es.nx+1+1+1) 0 2 1,.ms (es.nx+1+1+1+1) 0 1 4,.ms (es.nx+1+1+1+1+1) 0 2 1,.ms (es.nx+1+1+1+1+1+1) 0 1 4,.ms (es.nx+1+1+1+1+1+1+1) 0 2 1,.ms (es.nx+1+1+1+1+1+1+1+1) 0 1 4,.ms (es.nx+1+1+1+1+1+1+1+1+1) 0 2 1,.ms (es.nx+1+1+1+1+1+1+1+1+1+1) 0 1 4]) rfl (by simp only [Ag,Ak,Cg,Gk,Hx,Dl,Bx,reduceCtorEq,Ah,Pa.l.injEq,Pa.r.injEq,ZQ,YK,p18,p22,PH q3 q4,PH q5 q6,PH q7 q8,PH q9 Wv];rfl) λLp Zh Me=>?_
 simp only [Bx] at Zh Me
 simp only [↓Cn,Is,↓Oe]
 have w0:Lp.get es.nx=some (.row 26 [Cl,Cl,Cl]):=by rw [Me _ (by omega),Hq _ (by omega),Ju _ (by omega),Ru _ (by omega),Md _ (by omega),Py _ (by omega),Io _ (by omega),Fp _ (by omega),Iz _ (by omega),Et _ (by omega),Cv _ (by omega)];exact QG
 have w1:Lp.get (es.nx+1)=some (.row 129 [sv (bs [120]),iv 0,iv 3,sv (bs [121]),iv 0,iv 1]):=by rw [Me _ (by omega),Hq _ (by omega),Ju _ (by omega),Ru _ (by omega),Md _ (by omega),Py _ (by omega),Io _ (by omega),Fp _ (by omega),Iz _ (by omega),Et _ (by omega)];exact Dm
 have w2:Lp.get (es.nx+1+1)=some (.row 131 [sv (bs [118]),iv 2]):=by rw [Me _ (by omega),Hq _ (by omega),Ju _ (by omega),Ru _ (by omega),Md _ (by omega),Py _ (by omega),Io _ (by omega),Fp _ (by omega),Iz _ (by omega)];exact Ft
 have w3:Lp.get (es.nx+1+1+1)=some (.row 3 [iv 0,iv 0]):=by rw [Me _ (by omega),Hq _ (by omega),Ju _ (by omega),Ru _ (by omega),Md _ (by omega),Py _ (by omega),Io _ (by omega),Fp _ (by omega)];exact Ni
 have w4:Lp.get (es.nx+1+1+1+1)=some (.row 41 (vc (Iv 5))):=by rw [Me _ (by omega),Hq _ (by omega),Ju _ (by omega),Ru _ (by omega),Md _ (by omega),Py _ (by omega),Io _ (by omega)];exact Mf
 have w5:Lp.get (es.nx+1+1+1+1+1)=some (.row 3 [iv 1,iv 0]):=by rw [Me _ (by omega),Hq _ (by omega),Ju _ (by omega),Ru _ (by omega),Md _ (by omega),Py _ (by omega)];exact Qb
 have w6:Lp.get (es.nx+1+1+1+1+1+1)=some (.row 41 (vc (Iv 7))):=by rw [Me _ (by omega),Hq _ (by omega),Ju _ (by omega),Ru _ (by omega),Md _ (by omega)];exact Yu
 have w7:Lp.get (es.nx+1+1+1+1+1+1+1)=some (.row 3 [iv 1,iv 1]):=by rw [Me _ (by omega),Hq _ (by omega),Ju _ (by omega),Ru _ (by omega)];exact Td
 have w8:Lp.get (es.nx+1+1+1+1+1+1+1+1)=some (.row 41 (vc ⟨0,1,0,bs []⟩)):=by rw [Me _ (by omega),Hq _ (by omega),Ju _ (by omega)];exact bO
 have w9:Lp.get (es.nx+1+1+1+1+1+1+1+1+1)=some (.row 3 [iv 3,iv 1]):=by rw [Me _ (by omega),Hq _ (by omega)];exact Qa
 have vG:Lp.get (es.nx+1+1+1+1+1+1+1+1+1+1)=some (.row 41 (vc (Iv 2))):=by rw [Me _ (by omega)];exact Wv
 refine fT (cs:=[.ms (es.nx+1) 0 2 3,.ms (es.nx+1+1) 0 1 2,.ms (es.nx+1+1+1+1+1+1+1+1+1+1+1) 0 4 2]) (by simp only [Ag,Ak,Cg,Gk,Hx,Dl,Bx,reduceCtorEq,Ah,Pa.l.injEq,Pa.r.injEq,p4,p6,p23,Rl w1,Rl w2,Rl Zh];rfl) ?_
 simp only [↓Cn,Is,↓D1]
 have ZY:Cd Lp (.agg [.ms (es.nx+1) 0 2 3,.ms (es.nx+1+1) 0 1 2,.ms (es.nx+1+1+1+1+1+1+1+1+1+1+1) 0 4 2])=.agg [.ms (es.nx+1) 0 2 3,.ms (es.nx+1+1) 0 1 2,.ms (es.nx+1+1+1+1+1+1+1+1+1+1+1) 0 4 2]:=Wc λid hid=>by
  have:id=es.nx+1\/id=es.nx+1+1\/id=es.nx+1+1+1+1+1+1+1+1+1+1+1:=by simpa [DV.refs,DV.refsL] using hid
  rcases this with rfl | rfl | rfl
  .rw [w1];rfl
  .rw [w2];rfl
  .rw [Zh];rfl
 refine Uu (n:=3) (id:=es.nx) (ds:=[.ms (es.nx+1) 0 2 3,.ms (es.nx+1+1) 0 1 2,.ms (es.nx+1+1+1+1+1+1+1+1+1+1+1) 0 4 2]) (by simp only [Gk,Hx,Dl,Bx,reduceCtorEq,Ah]) w0 (by simp only [Hl,Gk,Dl];exact ZY) rfl rfl λIC hgF yY=>?_
 simp only [Bx] at hgF yY
 simp only [dJ,Fx,↓Kb,↓Fb,reduceCtorEq,true_and,or_true]
 have kF:∀ j,j≠es.nx->IC.get j=Lp.get j:=λj hj=>yY j hj
 have x1:=(kF (es.nx+1) (by omega)).trans w1
 have x2:=(kF (es.nx+1+1) (by omega)).trans w2
 have x3:=(kF (es.nx+1+1+1) (by omega)).trans w3
 have x4:=(kF (es.nx+1+1+1+1) (by omega)).trans w4
 have x5:=(kF (es.nx+1+1+1+1+1) (by omega)).trans w5
 have x6:=(kF (es.nx+1+1+1+1+1+1) (by omega)).trans w6
 have x7:=(kF (es.nx+1+1+1+1+1+1+1) (by omega)).trans w7
 have x8:=(kF (es.nx+1+1+1+1+1+1+1+1) (by omega)).trans w8
 have x9:=(kF (es.nx+1+1+1+1+1+1+1+1+1) (by omega)).trans w9
 have UO:=(kF (es.nx+1+1+1+1+1+1+1+1+1+1) (by omega)).trans vG
 have x11:=(kF (es.nx+1+1+1+1+1+1+1+1+1+1+1) (by omega)).trans Zh
 have rc:OL rCell IC (Bl (es.nx+1+1+1+1+1+1+1+1+1+1+1+1)) (.ms (es.nx+1+1+1+1+1+1+1+1+1+1+1) 0 4 2) (Ej 5).cells:=OL.ms (R:=rCell) (es.nx+1+1+1+1+1+1+1+1+1+1+1) _ (Ej 5).cells x11 ⟨[.ms (es.nx+1+1+1) 0 2 1,.ms (es.nx+1+1+1+1) 0 1 4],_,rfl,rCell_rd.2 ⟨_,_,rfl,qR (R:=rInt) (l:=[0,0]) (n:=es.nx+1+1+1+1+1+1+1+1+1+1+1+1) x3 (by omega),qR (R:=rVal) (l:=[Iv 5]) (n:=es.nx+1+1+1+1+1+1+1+1+1+1+1+1) x4 (by omega)⟩,⟨[.ms (es.nx+1+1+1+1+1) 0 2 1,.ms (es.nx+1+1+1+1+1+1) 0 1 4],_,rfl,rCell_rd.2 ⟨_,_,rfl,qR (R:=rInt) (l:=[1,0]) (n:=es.nx+1+1+1+1+1+1+1+1+1+1+1+1) x5 (by omega),qR (R:=rVal) (l:=[Iv 7]) (n:=es.nx+1+1+1+1+1+1+1+1+1+1+1+1) x6 (by omega)⟩,⟨[.ms (es.nx+1+1+1+1+1+1+1) 0 2 1,.ms (es.nx+1+1+1+1+1+1+1+1) 0 1 4],_,rfl,rCell_rd.2 ⟨_,_,rfl,qR (R:=rInt) (l:=[1,1]) (n:=es.nx+1+1+1+1+1+1+1+1+1+1+1+1) x7 (by omega),qR (R:=rVal) (l:=[⟨0,1,0,bs []⟩]) (n:=es.nx+1+1+1+1+1+1+1+1+1+1+1+1) x8 (by omega)⟩,⟨[.ms (es.nx+1+1+1+1+1+1+1+1+1) 0 2 1,.ms (es.nx+1+1+1+1+1+1+1+1+1+1) 0 1 4],_,rfl,rCell_rd.2 ⟨_,_,rfl,qR (R:=rInt) (l:=[3,1]) (n:=es.nx+1+1+1+1+1+1+1+1+1+1+1+1) x9 (by omega),qR (R:=rVal) (l:=[Iv 2]) (n:=es.nx+1+1+1+1+1+1+1+1+1+1+1+1) UO (by omega)⟩,rfl⟩⟩⟩⟩
 refine ⟨_,B6 (by simp only [Gk,Hx,Dl,Bx,reduceCtorEq,Ah,p0]) hgF rfl,hK _ _ _ ⟨by omega,λj hj=>?_⟩ ⟨_,_,_,rfl,qR (R:=rDim) (l:=(Ej 5).dims) (n:=es.nx+1+1+1+1+1+1+1+1+1+1+1+1) x1 (by omega),qR (R:=rAttr) (l:=(Ej 5).attrs) (n:=es.nx+1+1+1+1+1+1+1+1+1+1+1+1) x2 (by omega),rc.rl.mono λj hj=>?_⟩⟩
 .rw [yY j (by omega),Me j (by omega),Hq j (by omega),Ju j (by omega),Ru j (by omega),Md j (by omega),Py j (by omega),Io j (by omega),Fp j (by omega),Iz j (by omega),Et j (by omega),Cv j (by omega),hk0 j (by omega)]
 .rcases hj with hj | hj
  .exact hj
  .have:j=es.nx+1+1+1+1+1+1+1+1+1+1+1:=by simpa [DV.refs] using hj
   show j<_
   omega
end
end Go.DD

/- Contracts: a new tree. Conditions: those that each theorem states. -/
namespace Go.DD
open Go Go.Proofs Go.Sort
section
variable {call:Bg} {es:ES} {dst:Option Pa} {n0 m i:Nat} {lo an:List Nat} {ws:List Look} {pp:List Past} {r:Hold (DSt->Prop)} {ps:List Pa}
theorem vH{wide c:Bool}{x:XU}{d:DV}{o:DObj}(hx:x es (n0+i)=some (d,.lay o))(h:∀ Ao,Ao.get (n0+i)=some o->(∀ j,j≠n0+i->Ao.get j=es.hp.get j)->r.val ⟨(ES.mk es.sl Ao es.nx).putE dst d,i::lo,Gt i an wide c (refsL es ps) n0 lo ws,pp⟩):P7 (Rx i an wide c dst x ps) call n0 m es lo ws pp:=by
 show TW _ _ _ _ _ _
 rw [Cf2]
 exact ⟨d,o,hx,h _ (by rw [C8];simp) λj hj=>by rw [C8];simp [hj]⟩
theorem UM{tgt:Nat}{x:XU}{Q:DSt->Prop} : TW (zZ i an tgt dst x ps) call n0 m ⟨es,lo,ws,pp⟩ Q↔@P7 (zZ i an tgt dst x ps) call n0 m es lo ws pp ⟨Q⟩:=Da
theorem Cr9{t:Nat}{refs:List Nat}{c:Bool}(hr:∀ j∈refs,j=n0+t)(ht:t<m)(Gg:lo.contains t=true)(hp:∀ p∈pp,p.an.contains t=false)(h2:Qw n0 m ws pp=true):Qw n0 m (Gt i an true c refs n0 lo ws) pp=true:=by
 have e:Gt i an true c refs n0 lo ws=(refs.map λid=>⟨i,an,id,lo.contains (id-n0),c⟩)++ws:=by
  show Lx (gE _ refs) ws=_
  rw [fU,rX]
 rw [e]
 clear e
 induction refs with
 | nil=>exact h2
 | cons j refs ih=>
  refine okl_cons.2 ⟨λp hpp=>?_,ih λj hj=>hr j (Be _ hj)⟩
  have hj:=hr j (by simp)
  subst hj
  rw [Ad (by simp;omega),Wf,hp p hpp]
  dsimp only
  rw [Wf,Gg]
  simp
end
theorem LG{a b c d e:Value}{x y z:DV}{i j n:Nat} : Ia [DV.v a,DV.v b,DV.v c,DV.v d,DV.v e] [(0,3,.agg [x,y,z]),(3,1,.ms i 0 n 3),(4,1,.mp j)]=some [x,y,z,.ms i 0 n 3,.mp j]:=rfl
theorem AH{es:ES}{T nid:Nat}{x:EO}{cs:List DV}(h:Oc es x=.agg cs):Pn T x es nid=some (.pt nid 0,.lay (.row T cs)):=by
 have e:Pn T x es nid=P3 nid T (Oc es x):=by unfold Pn P3;rw [Ti,OB,Y4]
 rw [e,h];rfl
theorem C22{z w u:Value}{a:DV}(h1:a.okC=true/\a.cells=[a]):Ia [DV.v z,DV.v w,DV.v u] [(0,1,a)]=some [a,.v w,.v u]:=by
 simp [Ia,h1.1,h1.2]
section
variable (k:Nat) (hp:Tr DObj) (nx:Nat) (K:DV->Tr DObj->Nat->Prop)
end
end Go.DD

/- Contracts: a new tree, with stamps. Conditions: those that each theorem states. -/
namespace Go.DD
open Go Go.Proofs Go.Sort
theorem FG{es:ES}{t:Nat}{u v:Operand}{im ck:Nat}{es':List ME}{hs:List (ByteArray×Int)}{s:ByteArray}{n:Int}(e1:es.ds.ev (.tmp t)=.mp im)(hm:es.hp.get im=some (.mapo ck es'))(hk:Mv es' hs)(If:StO ck es')(e2:es.ds.ev u=sv s)(e3:es.ds.ev v=iv n):∃ Up Cb,(∀ nid,Ay nid es.ds (.mup (.p .string) (.tmp t) u v)=some (.any,.wr im (.mapo Up Cb)))/\Mv Cb (Ny hs s n)/\StO Up Cb:=by
 have fin:∀ Up Cb,Nd (.p .string) (.string s) (iv n) ck es'=some (Up,Cb)->∀ nid,Ay nid es.ds (.mup (.p .string) (.tmp t) u v)=some (.any,.wr im (.mapo Up Cb)):=by
  intro Up Cb h1 nid
  simp only [Ay,e1,e2,e3]
  show (match es.hp.get im with
   | some (.mapo ck es)=>match Nd (.p .string) (.string s) (iv n) ck es with
    | some p=>some (DV.any,Upd.wr im (.mapo p.1 p.2))
    | none=>none
   | _=>none)=_
  rw [hm]
  simp only [h1]
 rcases RU s 0 hk with ⟨g1,g2,g3⟩ | ⟨v,j,e,g1,g2,g3,g4⟩
 .have hp:Nd (.p .string) (.string s) (iv n) ck es'=some (ck+1,es' ++ [⟨.string s,iv n,ck⟩]):=by unfold Nd;rw [g2]
  exact ⟨_,_,fin _ _ hp,g3 n ck,StO.put hp If⟩
 .have hp:Nd (.p .string) (.string s) (iv n) ck es'=some (ck,es'.set (0+j) ⟨.string s,iv n,e.b⟩):=by unfold Nd;rw [g2]
  exact ⟨_,_,fin _ _ hp,by rw [Cp];exact g4 n e.b,StO.put hp If⟩
section
variable {call:Bg} {es:ES} {dst:Option Pa} {n0 m i:Nat} {lo an:List Nat} {ws:List Look} {pp:List Past} {r:Hold (DSt->Prop)} {ps:List Pa}
theorem Cs0{tgt t:Nat}{u v:Operand}{ck:Nat}{es':List ME}{hs:List (ByteArray×Int)}{s:ByteArray}{n:Int}(Gg:lo.contains tgt=true)(Kp:an.contains tgt=true)(Lj:refsL es ps=[n0+tgt])(e1:es.ds.ev (.tmp t)=.mp (n0+tgt))(hm:es.hp.get (n0+tgt)=some (.mapo ck es'))(hk:Mv es' hs)(If:StO ck es')(e2:es.ds.ev u=sv s)(e3:es.ds.ev v=iv n)
  (h:∀ Ao ck' Cb,Ao.get (n0+tgt)=some (.mapo ck' Cb)->Mv Cb (Ny hs s n)/\StO ck' Cb->(∀ j,j≠n0+tgt->Ao.get j=es.hp.get j)->r.val ⟨(ES.mk es.sl Ao es.nx).putE dst .any,lo,ws,pp⟩):P7 (zZ i an tgt dst (Bd (.mup (.p .string) (.tmp t) u v)) ps) call n0 m es lo ws pp:=by
 show TW _ _ _ _ _ _
 obtain ⟨Up,Cb,hx,h2⟩:=FG e1 hm hk If e2 e3
 refine ⟨_,?_,h (Ki es.hp (n0+tgt) (some (.mapo Up Cb))) Up Cb (by rw [C8];simp) h2 λj hj=>by rw [C8];simp [hj]⟩
 have HD:=hx (n0+i)
 obtain ⟨sl,hp,nx⟩:=es
 unfold zZ DSt.cs ES.cs
 dsimp only
 rw [Fi,HD,Lj]
 show Fw (Nat.beq (n0+tgt) (n0+tgt)&&lo.contains tgt&&an.contains tgt&&Ug [n0+tgt] λr=>Nat.beq r (n0+tgt)) _ _=_
 rw [Ti,Gg,Kp,Af (by simp [Ug])]
end
section
variable (k:Nat) (hp:Tr DObj) (nx:Nat) (K:DV->Tr DObj->Nat->Prop)
theorem C23(n0:Nat)(dx:DV)(x:PArr)(hn:n0<=nx)(h1:AR hp (Bl n0) dx x)(hx:AOK x)(hc:x.cells.length<=255)
  (hE:∀ Ao Bk,Mo x≠0->Al hp nx Ao Bk->K (.tup [.v (.pointer none),iv 2]) Ao Bk)
  (hK:∀ Ao Bk T H nd,Mo x=0->Al hp nx Ao Bk->nx<=T->nx<=H->(∀ j∈nd.refs,nx<=j)->TreeG Ao Bk T H nd ⟨x.dims,x.attrs,[⟨x.cells,[],false⟩],[(bs [109,97,105,110],1)]⟩->K (.tup [.pt T 0,iv 0]) Ao Bk):KW (kN (k+12)) (.fn 27) [dx] hp nx K:=by
 obtain ⟨d,a,c,rfl,r1,r2,r3⟩:=h1
 refine nZ (Hm (by decide)) t27 (Ab rfl) λes e1 e2 he=>?_
 have a0:Ae es (.t .o)=.agg [d,a,c]:=he 0 _ rfl
 unfold zy
 subst e1 e2
 simp only [↓Ba]
 refine Zo (cs:=[d,a,c]) (by rw [Hl,a0];exact AR.live r1 r2 r3) λEi Dm Cv=>?_
 simp only [bR] at Dm Cv
 have cY:Al es.hp es.nx Ei (es.nx+1):=⟨by omega,λj hj=>Cv j (by omega)⟩
 have dh:∀ {Ao Bk},Al es.hp es.nx Ao Bk->AR Ao (Bl n0) (.agg [d,a,c]) x:=λh=>⟨d,a,c,rfl,r1.ka hn h,r2.ka hn h,r3.ka hn h⟩
 obtain ⟨_,_,_,_,lA⟩:=Uw Dm
 simp only [Ax,↓Ba,lA]
 refine Fl (SH (k:=k+4) n0 _ _ _ _ x (by omega) (dh cY) hx λDb Hz Xf=>?_)
 have Hj:=Xf.le
 have bT:=cY.trans Xf
 by_cases c1:Mo x=0
 .obtain ⟨⟨ml,mj,_⟩,ag,af,_,_⟩:=Uw ((Xf.same es.nx (by omega)).trans Dm)
  simp only [Ax,↓Ba,show decide (¬ Mo x=0)=false by simp [c1],ml,mj,ag,af]
  have hz:Mo ⟨x.dims,x.attrs,[]⟩=0:=Bm3 (iK c1).2.2 (Gu _) (λc hc=>by cases hc) .nil
  have oz:AOK ⟨x.dims,x.attrs,[]⟩:=⟨hx.d,hx.a,(Nat.zero_lt_succ _),λc hc=>by cases hc⟩
  refine Fl (tv (k+1) Hz _ _ _ 0 d a Cl ⟨x.dims,x.attrs,[]⟩ (Ai _) ((r1.ka hn bT).bl (by omega)) ((r2.ka hn bT).bl (by omega)) .nil hz oz (Gu _) λGr Dx d3 Uq pL _=>?_)
  have Jb:=Uq.le
  have gW:=bT.trans Uq
  obtain ⟨dd,da,dc,rfl,v1,v2,v3⟩:=pL
  have x0:=jI (e:=0) v1 v2 v3
  have x1:Fv Gr (.tup [.agg [dd,da,dc],iv 0]) 1=some (iv 0):=Yk
  simp only [Ax,↓Ba,x0,x1]
  refine Vr λGz Mf Fp=>?_
  simp only [bR] at Mf Fp
  have w1:=v1.keep (Ao:=Gz) λj hj=>Fp j (by have:=hj.2;omega)
  have w2:=v2.keep (Ao:=Gz) λj hj=>Fp j (by have:=hj.2;omega)
  have w3:=v3.keep (Ao:=Gz) λj hj=>Fp j (by have:=hj.2;omega)
  simp only [Ax,↓Ba]
  refine Uu (n:=3) (id:=Dx) (ds:=[dd,da,dc]) (by simp only [bR]) Mf (by simp only [Hl,bR];exact AR.live (x:=⟨x.dims,x.attrs,[]⟩) w1 w2 w3) rfl rfl λHp Qb Io=>?_
  simp only [bR] at Qb Io
  have fQ:Al Gr Dx Hp (Dx+1):=⟨by omega,λj hj=>by rw [Io j (by omega),Fp j (by omega)]⟩
  have zL:=gW.trans fQ
  have y1:=w1.keep (Ao:=Hp) λj hj=>Io j (by have:=hj.2;omega)
  have y2:=w2.keep (Ao:=Hp) λj hj=>Io j (by have:=hj.2;omega)
  have y3:=w3.keep (Ao:=Hp) λj hj=>Io j (by have:=hj.2;omega)
  have k5:∀ j,j<Hz->Hp.get j=Db.get j:=λj hj=>(fQ.same j (by omega)).trans (Uq.same j hj)
  have LD:=(k5 es.nx (by omega)).trans ((Xf.same es.nx (by omega)).trans Dm)
  obtain ⟨⟨_,_,LI⟩,_,_,GH,_⟩:=Uw LD
  obtain ⟨_,_,_,_,lB⟩:=Uw Qb
  have q3:=r3.ka hn zL
  have bq:∀ j,j<n0->j<Dx+1:=λj hj=>by omega
  simp only [Ax,↓Ba,lB,LI,GH,rZ q3 bq,Mp (n0:=Dx+1) (m:=13) LD (show es.nx<Dx+1 by omega),Mp (n0:=Dx+1) (m:=13) Qb (show Dx<Dx+1 by omega)]
  refine Nt rfl (Xi ?_)
  simp only [bR,Ag,Ak]
  refine vq (k+5) (Dx+1+13) _ _ _ Cl c [] x.cells (Ai _) .nil (q3.mono λj (hj:j<n0)=>by show j<Dx+1+13;omega) (by show 0+x.cells.length<=1024;omega) (λe he=>?_) λJf Kw z6 lK vT=>?_
  .rcases he with he | he
   .cases he
   .exact ⟨Y0 c1 e he,(hx.e e he).1,C9 c1 e he,(hx.e e he).2.1⟩
  have Vj:=lK.le
  have oz6:∀ {an:List Nat},Ii z6 (λid=>Cs (Dx+1) 13 an Jf id)↔True:=B5 vT λj hj=>by (have:=(vT.refs j hj).1.1);omega
  have zF:=C22 (z:=.slice none 0 0) (w:=.slice none 0 0) (u:=.bool false) vT.ok
  have bB:∀ an,Ii (.agg [z6,.v (.slice none 0 0),.v (.bool false)]) (λid=>Cs (Dx+1) 13 an Jf id):=λan=>wA (oz6.2 trivial) (λj hj=>by cases hj)
  simp only [Ax,↓Ba,bP,Vj,oz6,vT.live,MW,zF,Cf,Bn (bB _)]
  have lab:Cd Jf (.agg [z6,.v (.slice none 0 0),.v (.bool false)])=.agg [z6,.v (.slice none 0 0),.v (.bool false)]:=tn (λj hj=>(vT.refs j hj).2) λj hj=>by cases hj
  refine SK (fl:=[z6,Cl,bv false]) rfl (by simp only [Ag,Ak,Cg,bR,bP,lab];exact Ck2 (z:=[.slice none 0 0,.slice none 0 0,.bool false]) rfl) λNz Td Md=>?_
  simp only [bR] at Td Md
  simp only [Ax,↓Ba]
  refine vH (o:=.mapo 0 []) (d:=.mp (Dx+1+6)) (by rw [Fi];rfl) λOl bO Ru=>?_
  simp only [bR] at bO Ru
  simp only [Ax,↓Ba,↓UM]
  refine ⟨sB bO rfl,?_⟩
  refine Cs0 (ck:=0) (es':=[]) (hs:=[]) (s:=bs [109,97,105,110]) (n:=1) rfl rfl (by show Lx (Vv (Ae _ _)) []=_;simp only [bR];rfl) (by simp only [Cg,bR,bP,Yq bO]) bO rfl ⟨λe he=>(by cases he),.nil⟩ rfl rfl λMk MA O9 Qa O2 Ju=>?_
  simp only [bR] at Qa Ju
  simp only [Ax,↓Ba]
  have k9:∀ j,j<Dx+1->Mk.get j=Hp.get j:=λj hj=>by rw [Ju j (by omega),Ru j (by omega),Md j (by omega),lK.same j (by omega)]
  have QV:Mk.get (Dx+1+5)=_:=(Ju _ (by omega)).trans ((Ru _ (by omega)).trans Td)
  have up:∀ j,Bw Hz Dx j->Bl (Dx+1) j:=λj hj=>by have:=hj.2;show j<Dx+1;omega
  have u1:=(y1.keep (Ao:=Mk) λj hj=>k9 j (by have:=hj.2;omega)).mono up
  have u2:=(y2.keep (Ao:=Mk) λj hj=>k9 j (by have:=hj.2;omega)).mono up
  have u3:=(y3.keep (Ao:=Mk) λj hj=>k9 j (by have:=hj.2;omega)).mono up
  have lag:Cd Mk (.agg [dd,da,dc])=.agg [dd,da,dc]:=AR.live (x:=⟨x.dims,x.attrs,[]⟩) u1 u2 u3
  refine ⟨sB Qa rfl,⟨AR.rox (x:=⟨x.dims,x.attrs,[]⟩) u1 u2 u3 (Ai _),sB QV rfl,sB Qa rfl⟩,?_⟩
  simp only [Ax,bP,MW,LG,lag,Rl QV,Yq Qa,Cf]
  have S0:Ii (.agg [dd,da,dc,.ms (Dx+1+5) 0 1 3,.mp (Dx+1+6)]) (λid=>Cs (Dx+1) 13 [9,0,5,8,4,3,2,1,6,7] Mk id):=λid hid=>by
   have:(id∈dd.refs\/id∈da.refs\/id∈dc.refs)\/id=Dx+1+5\/id=Dx+1+6:=by simpa [DV.refs,DV.refsL,or_assoc] using hid
   rcases this with h | h | h
   .exact AR.rox (x:=⟨x.dims,x.attrs,[]⟩) u1 u2 u3 (Ai _) id (by simpa [DV.refs,DV.refsL] using h)
   .rw [h];exact sB QV rfl
   .rw [h];exact sB Qa rfl
  refine ⟨S0,?_⟩
  refine vH (o:=.row 140 [dd,da,dc,.ms (Dx+1+5) 0 1 3,.mp (Dx+1+6)]) (d:=.pt (Dx+1+10) 0) (AH (by simp only [Hl,bR];exact Wc λid hid=>((sC Mk id).1 (S0 id hid)).1)) λIx Wv Hq=>?_
  simp only [bR] at Wv Hq
  simp only [Ax,↓Ba,bP]
  have He:∀ c∈[dd,da,dc],Oz 6 c c=true:=AR.same (x:=⟨x.dims,x.attrs,[]⟩) y1 y2 y3
  refine ⟨sB Wv rfl,Cr9 (t:=6) (by simp [DV.refs]) (by decide) rfl (λp hp=>by rw [Am.1 hp];rfl) (qS (id:=Dx) (λj hj=>by simpa [DV.refs] using hj) (by omega) (λq hq=>by rw [Am.1 hq];exact ⟨Qb,(lK.same Dx (by omega)).trans Qb⟩) He rfl),?_⟩
  rw [Rk Wv]
  have kX:∀ j,j<Dx+1->Ix.get j=Hp.get j:=λj hj=>(Hq j (by omega)).trans (k9 j hj)
  have ma:Ix.get (Dx+1+5)=_:=(Hq _ (by omega)).trans QV
  have kM:∀ j∈(DV.ms (Dx+1+5) 0 1 3).refs,j=Dx+1+5:=λj hj=>by simpa [DV.refs] using hj
  have pY:∀ j,Bw Hz Dx j->j<Kw/\j≠Dx+1+10/\j≠Dx+1+6/\j∉(DV.ms (Dx+1+5) 0 1 3).refs:=λj hj=>by
   have:=hj.2
   exact ⟨by omega,by omega,by omega,λh=>by have:=kM j h;omega⟩
  have pZ:∀ j,Bw (Dx+1+13) Kw j->j<Kw/\j≠Dx+1+10/\j≠Dx+1+6/\j∉(DV.ms (Dx+1+5) 0 1 3).refs:=λj hj=>by
   have:=hj.1
   exact ⟨hj.2,by omega,by omega,λh=>by have:=kM j h;omega⟩
  have XO:=(vT.keep (Ao:=Ix) λj hj=>by (have:=hj.1);rw [Hq j (by omega),Ju j (by omega),Ru j (by omega),Md j (by omega)]).mono pZ
  refine hK _ _ (Dx+1+10) (Dx+1+6) (.ms (Dx+1+5) 0 1 3) c1 ⟨by omega,λj hj=>(kX j (by omega)).trans (zL.same j hj)⟩ (by omega) (by omega) (λj hj=>by (have:=kM j hj);omega) ⟨⟨by omega,by omega,by omega⟩,⟨dd,da,dc,Wv,(y1.keep λj hj=>kX j (by have:=hj.2;omega)).mono pY,(y2.keep λj hj=>kX j (by have:=hj.2;omega)).mono pY,(y3.keep λj hj=>kX j (by have:=hj.2;omega)).mono pY⟩,⟨MA,O9,(Hq _ (by omega)).trans Qa,O2⟩,?_,λj hj=>by (have:=kM j hj);omega,⟨λy hy=>?_,⟨hz,oz⟩,λv U2 Nv q hq=>?_,(by show 1<200;decide),λy hy=>?_,λy hy=>?_⟩⟩
  .exact OL.ms (R:=rNode) (Dx+1+5) _ [⟨Sj (Hy [[],x.cells]),[],false⟩] ma (Rows.one (rNode_rd.2 ⟨z6,Cl,rfl,XO,.nil⟩))
  .obtain rfl:y=⟨x.cells,[],false⟩:=by simpa using hy
   exact ⟨c1,hx,hc⟩
  .obtain rfl:v=1:=by have:v<=1:=Nv;omega
   cases hq
  .obtain rfl:y=⟨x.cells,[],false⟩:=by simpa using hy
   exact Nat.zero_lt_succ _
  .obtain rfl:y=(bs [109,97,105,110],1):=by simpa using hy
   exact ⟨by decide,by show (1:Int)<=((1:Nat):Int);decide,rfl⟩
 .simp only [Ax,↓Ba,bP,show decide (¬ Mo x=0)=true by simp [c1]]
  exact hE _ _ c1 bT
end
end Go.DD
