/- A part. -/
import Derived.Test.YtnphfnhhpcelbaaGreatYs
import Derived.Test.YtnphfnhhpcelbaaGreatYu
import Derived.Test.YtnphfnhhpcelbaaGreatYf
import Derived.Test.YtnphfnhhpcelbaaGreatProg
import Derived.KernelRfl
noncomputable section
namespace Go.DD
open Go Go.Proofs Go.Sort
theorem Bm7:isNil 1 (Qf (.pointer none))=some true:=rfl
theorem Ca9:isNil 2 (Qf (.map none))=some true:=rfl
theorem Bm8{α:Type}{R:Rep α}{hp:Tr DObj}{p:Nat->Prop}{d:DV}{l:List α}(h:RL R hp p d l)(e i:Nat):Cg hp (Bz e d i)=Bz e d i:=Wm λid hid=>(h.refs id (uV e d i id hid)).2
section
variable {hp:Tr DObj} {nx T H:Nat} {nd:DV} {S:PTree}
variable (k:Nat) (K:DV->Tr DObj->Nat->Prop)
end
end Go.DD

/- Contracts: a version's support, its cells. Conditions: those that each theorem states. -/
namespace Go.DD
open Go Go.Proofs Go.Sort
theorem yx{hp:Tr DObj}{p:Nat->Prop}{d:DV}{l:List Int}(h:RL rInt hp p d l)(hi:0<l.length):Qu hp 1 d (.v (.int .i64 0))=some (Bz 1 d 0):=h.ia hi
theorem Cb0{hp:Tr DObj}{p:Nat->Prop}{d:DV}{l:List PNode}(h:RL rNode hp p d l){i:Nat}(hi:i<l.length):Qu hp 3 d (.v (.int .i64 (i:Int)))=some (Bz 3 d i):=h.ia hi
theorem Z4{hp:Tr DObj}{p:Nat->Prop}{d:DV}{l:List PNode}{k:Nat}(h:RL rNode hp p d l){i:Nat}(hi:i<l.length):Mx hp k (Bz 3 d i)=some (Fx (Bz 3 d i) k):=h.fa hi
theorem Cl7{hp:Tr DObj}{p:Nat->Prop}{d:DV}{l:List PNode}(h:OL rNode hp p d l)(hl:l≠[])(i:Nat):aH (Bz 3 d i)=some (Bz 3 d i):=by
 cases h with
 | nil=>exact absurd rfl hl
 | ms=>rfl
def Tq(n:Nat)(hp:Tr DObj)(ps:List Past):Prop:=∀ q∈ps,(∀ j,j<n->q.a.get j=hp.get j)/\∀ j,j<n->q.b.get j=hp.get j
theorem xb{n:Nat}{hp:Tr DObj} : Tq n hp []:=λq hq=>by cases hq
theorem rO{n q:Nat}{an:List Nat}{hp a b:Tr DObj}{ps:List Past}(ha:∀ j,j<n->a.get j=hp.get j)(hb:∀ j,j<n->b.get j=hp.get j)(h:Tq n hp ps):Tq n hp (⟨q,an,a,b⟩::ps):=λx hx=>by
 rcases Ap.1 hx with rfl | hx
 .exact ⟨ha,hb⟩
 .exact h x hx
theorem VH{hp:Tr DObj}{n m i:Nat}{an refs lo:List Nat}{ws:List Look}{ps:List Past}(hP:Tq n hp ps)(hr:∀ j∈refs,j<n)(h2:Pl n m ws ps=true):Pl n m (Gg i an true false refs n lo ws) ps=true:=rT (λj hj=>⟨hr j hj,λq hq=>.inr (.inr (by rw [Ae (by simp)];simp [rL,((hP q hq).2 j (hr j hj)).trans ((hP q hq).1 j (hr j hj)).symm]))⟩) h2
theorem xa{α:Type}{R:Rep α}{hp:Tr DObj}{p:Nat->Prop}{d:DV}{l:List α}{n m i:Nat}{an refs lo:List Nat}{c:Bool}{ws:List Look}{ps:List Past}(hP:Tq n hp ps)(h:RL R hp p d l)(Nr:∀ j,p j->j<n)(hr:∀ j∈refs,j∈d.refs)(h2:Pl n m ws ps=true):Pl n m (Gg i an true c refs n lo ws) ps=true:=AU h Nr (λq hq=>⟨λj hj=>(hP q hq).1 j (Nr j hj),λj hj=>(hP q hq).2 j (Nr j hj)⟩) hr h2
theorem Cl8{T n:Nat}(h:T<n):∀ j∈(DV.pt T 0).refs,j<n:=λj hj=>by
 have:j=T:=by simpa [DV.refs] using hj
 omega
theorem D7{α:Type}{R:Rep α}{hp:Tr DObj}{p:Nat->Prop}{d:DV}{l:List α}{n0 m:Nat}{an:List Nat}(h:RL R hp p d l)(ho:∀ j∈d.refs,n0+m<=j):Hh d (λid=>Cp n0 m an hp id)↔True:=Bf λj hj=>(rX hp j).2 ⟨(h.refs j hj).2,.inr (.inl (ho j hj))⟩
theorem xj{hp:Tr DObj}{p:Nat->Prop}{d:DV}{l:List PNode}{n0 m i:Nat}{an:List Nat}(h:RL rNode hp p d l)(ho:∀ j,p j->j<n0):Hh (Bz 3 d i) (λid=>Cp n0 m an hp id)↔True:=Bf (h.roa ho)
theorem Cb1{hp:Tr DObj}{p:Nat->Prop}{d:DV}{l:List Int}{n0 m i:Nat}{an:List Nat}(h:RL rInt hp p d l)(ho:∀ j,p j->j<n0):Hh (Bz 1 d i) (λid=>Cp n0 m an hp id)↔True:=Bf (h.roa ho)
theorem xi{hp:Tr DObj}{p:Nat->Prop}{d:DV}{l:List PNode}{n0 m i k:Nat}{an:List Nat}(h:RL rNode hp p d l)(ho:∀ j,p j->j<n0):Hh (Fx (Bz 3 d i) k) (λid=>Cp n0 m an hp id)↔True:=Bf (h.rof ho)
theorem jA{α:Type}{R:Rep α}{hp:Tr DObj}{p:Nat->Prop}{d:DV}{l:List α}{n0 m:Nat}{an:List Nat}(h:RL R hp p d l)(ho:∀ j,p j->j<n0):Hh d (λid=>Cp n0 m an hp id)↔True:=Bf (h.ro ho)
section
variable {hp:Tr DObj} {nx T H:Nat} {nd:DV} {S:PTree}
variable (k:Nat) (K:DV->Tr DObj->Nat->Prop)
end
end Go.DD

/- Maps from names to numbers: what is found, what is put. Conditions: those that each theorem states. -/
namespace Go.DD
open Go Go.Proofs Go.Sort
def Te:List (ByteArray×Int)->ByteArray->Option Int
 | [],_=>none
 | x::l,s=>if s=x.1 then some x.2 else Te l s
def Pv:List (ByteArray×Int)->ByteArray->Int->List (ByteArray×Int)
 | [],s,v=>[(s,v)]
 | x::l,s,v=>if s=x.1 then (s,v)::l else x::Pv l s v
def Qc(es:List ME)(hs:List (ByteArray×Int)):Prop:=es.map (λe=>(e.k,e.v))=hs.map λx=>(Value.string x.1,iv x.2)
theorem Ct6(a b:ByteArray):Wx .string (.string a) (.string b)=some (decide (a=b)):=by
 show some (a.data.toList==b.data.toList)=_
 rw [<- Ln]
 congr 1
 rw [ByteArray.toList_eq,ByteArray.toList_eq]
theorem TN(s:ByteArray):∀ {es:List ME} {hs:List (ByteArray×Int)} (i:Nat),Qc es hs->(Te hs s=none/\findD (.p .string) (.string s) es i=some none/\∀ v b,Qc (es ++ [⟨.string s,iv v,b⟩]) (Pv hs s v))\/∃ v j e,Te hs s=some v/\findD (.p .string) (.string s) es i=some (some (i+j,e))/\e.v=iv v/\∀ v' b,Qc (es.set j ⟨.string s,iv v',b⟩) (Pv hs s v')
 | [],[],_,_=>.inl ⟨rfl,rfl,λv b=>rfl⟩
 | [],_::_,_,h=>by cases h
 | _::_,[],_,h=>by cases h
 | e::es,x::hs,i,h=>by
  have h':(e.k,e.v)=(Value.string x.1,iv x.2)/\Qc es hs:=List.cons.inj h
  obtain ⟨h1,h2⟩:=h'
  obtain ⟨hk,hv⟩:=Prod.mk.inj h1
  have hf:findD (.p .string) (.string s) (e::es) i=if s=x.1 then some (some (i,e)) else findD (.p .string) (.string s) es (i+1):=by
   show (match Oa (.p .string) (.string s) e.k with
    | some true=>some (some (i,e))
    | some false=>findD (.p .string) (.string s) es (i+1)
    | none=>none)=_
   rw [hk,show Oa (.p .string) (.string s) (.string x.1)=some (decide (s=x.1)) from Ct6 _ _]
   by_cases hs:s=x.1
   .rw [Ak hs,Af hs]
   .rw [Ah hs,Ae hs]
  by_cases hx:s=x.1
  .refine .inr ⟨x.2,0,e,by unfold Te;rw [Af hx],by rw [hf,Af hx];rfl,hv,λv' b=>?_⟩
   unfold Pv
   rw [Af hx]
   show (Value.string s,iv v')::es.map (λe=>(e.k,e.v))=(Value.string s,iv v')::hs.map _
   rw [show es.map (λe=>(e.k,e.v))=_ from h2]
  .rcases TN s (i+1) h2 with ⟨g1,g2,g3⟩ | ⟨v,j,e',g1,g2,g3,g4⟩
   .refine .inl ⟨by unfold Te;rw [Ae hx,g1],by rw [hf,Ae hx,g2],λv b=>?_⟩
    unfold Pv
    rw [Ae hx]
    show (e.k,e.v)::(es ++ [(⟨.string s,iv v,b⟩:ME)]).map (λe=>(e.k,e.v))=_::(Pv hs s v).map _
    rw [h1];exact congrArg _ (g3 v b)
   .refine .inr ⟨v,j+1,e',by unfold Te;rw [Ae hx,g1],by rw [hf,Ae hx,g2];congr 3;omega,g3,λv' b=>?_⟩
    unfold Pv
    rw [Ae hx]
    show (e.k,e.v)::(es.set j ⟨.string s,iv v',b⟩).map (λe=>(e.k,e.v))=_::(Pv hs s v').map _
    rw [h1];exact congrArg _ (g4 v' b)
section
variable {call:Bg} {es:ES} {dst:Option Pa} {q:Hold (ES->Prop)}
theorem mD{Q:ES->Prop}{kd:KD}{z:Value}{x k:Operand} : SW (sU dst (Bi (.lkp kd z x k true))) call es Q↔@Na (sU dst (Bi (.lkp kd z x k true))) call es ⟨Q⟩:=Dg
theorem Ct7{t u im ck:Nat}{es':List ME}{hs:List (ByteArray×Int)}{s:ByteArray}(e1:es.ds.ev (.tmp t)=.mp im)(hm:es.hp.get im=some (.mapo ck es'))(hk:Qc es' hs)(e2:es.ds.ev (.tmp u)=sv s)
  (h:q.val (es.putE dst (.tup [iv ((Te hs s).getD 0),bv (Te hs s).isSome]))):Na (sU dst (Bi (.lkp (.p .string) (.int .i64 0) (.tmp t) (.tmp u) true))) call es:=by
 show SW _ _ _ _
 rw [sw_u,Ft]
 refine ⟨_,.keep,?_,h⟩
 simp only [Ba,e1,e2]
 show (match es.hp.get im with
  | some (.mapo _ es)=>match findD (.p .string) (.string s) es 0 with
   | some (some p)=>some (Gm true p.2.v true,Upd.keep)
   | some none=>some (Gm true (.v (.int .i64 0)) false,Upd.keep)
   | none=>none
  | _=>none)=_
 rw [hm]
 rcases TN s 0 hk with ⟨g1,g2,_⟩ | ⟨v,j,e,g1,g2,g3,_⟩
 .simp only [g2,g1];rfl
 .simp only [g2,g1,g3];rfl
end
end Go.DD

/- The tree of versions, some of which are reclaimed: what it reads as. Conditions: those that each theorem states. -/
namespace Go.DD
open Go Go.Proofs Go.Sort
def StO(ck:Nat)(es:List ME):Prop:=(∀ e∈es,e.b<ck)/\(es.map ME.b).Nodup
theorem Bc2{kd:KD}{k:Value} : ∀ {es:List ME} {i j:Nat} {e:ME},findD kd k es i=some (some (j,e))->∃ t,j=i+t/\es[t]?=some e
 | [],i,j,e,h=>by cases h
 | a::es,i,j,e,h=>by
  unfold findD at h
  split at h
  .cases h;exact ⟨0,rfl,rfl⟩
  .obtain ⟨t,h1,h2⟩:=Bc2 h
   exact ⟨t+1,by omega,h2⟩
  .cases h
theorem StO.put{k:Value}{v:DV}{ck Ua:Nat}{es Cd:List ME}{kd:KD}(h:Mj kd k v ck es=some (Ua,Cd))(hs:StO ck es):StO Ua Cd:=by
 unfold Mj at h
 split at h
 .rename_i i e hf
  cases h
  obtain ⟨t,ht,h2⟩:=Bc2 hf
  rw [Df] at ht
  subst ht
  have e1:(es.set i ⟨k,v,e.b⟩).map ME.b=es.map ME.b:=by
   rw [List.map_set]
   obtain ⟨h3,h4⟩:=Aq.1 h2
   refine Iy (by simp) λn h5 h6=>?_
   rw [Pd]
   split
   .rename_i hn;subst hn;rw [Ey,h4]
   .rfl
  refine ⟨λx hx=>?_,by rw [e1];exact hs.2⟩
  have:x.b∈es.map ME.b:=by rw [<- e1];exact Bn.2 ⟨x,hx,rfl⟩
  obtain ⟨y,hy,h5⟩:=Bn.1 this
  rw [<- h5];exact hs.1 y hy
 .cases h
  refine ⟨λx hx=>?_,?_⟩
  .rcases Ax.1 hx with hx | hx
   .have:=hs.1 x hx;omega
   .rw [Aj.1 hx];exact Ex ck
  .rw [Cn]
   refine Ij.2 ⟨hs.2,by simp,λa ha b hb=>?_⟩
   obtain ⟨x,hx,rfl⟩:=Bn.1 ha
   have Gz:b=ck:=by simpa using hb
   have:=hs.1 x hx
   omega
 .cases h
section
variable {call:Bg} {es:ES} {dst:Option Pa} {q:Hold (ES->Prop)}
theorem Ct8{t:Nat}{u v:Operand}{im ck:Nat}{es':List ME}{hs:List (ByteArray×Int)}{s:ByteArray}{n:Int}(e1:es.ds.ev (.tmp t)=.mp im)(hm:es.hp.get im=some (.mapo ck es'))(hk:Qc es' hs)(Ib:StO ck es')(e2:es.ds.ev u=sv s)(e3:es.ds.ev v=iv n)
  (h:∀ An ck' Cd,An.get im=some (.mapo ck' Cd)->Qc Cd (Pv hs s n)/\StO ck' Cd->(∀ j,j≠im->An.get j=es.hp.get j)->q.val ((ES.mk es.sl An es.nx).putE dst .any)) :
  Na (sU dst (Bi (.mup (.p .string) (.tmp t) u v))) call es:=by
 show SW _ _ _ _
 rw [sw_u,Ft]
 have fin:∀ Ua Cd,Mj (.p .string) (.string s) (iv n) ck es'=some (Ua,Cd)->Qc Cd (Pv hs s n)->UW (Ba es.nx es.ds (.mup (.p .string) (.tmp t) u v)) λd u=>q.val ((es.up u).putE dst d):=by
  intro Ua Cd h1 h2
  refine ⟨.any,.wr im (.mapo Ua Cd),?_,h (es.up (.wr im (.mapo Ua Cd))).hp Ua Cd (by rw [Ld,get_set,Af rfl]) ⟨h2,StO.put h1 Ib⟩ λj hj=>by rw [Ld,get_set,Ae hj]⟩
  simp only [Ba,e1,e2,e3]
  show (match es.hp.get im with
   | some (.mapo ck es)=>match Mj (.p .string) (.string s) (iv n) ck es with
    | some p=>some (DV.any,Upd.wr im (.mapo p.1 p.2))
    | none=>none
   | _=>none)=_
  rw [hm]
  simp only [h1]
 rcases TN s 0 hk with ⟨g1,g2,g3⟩ | ⟨v,j,e,g1,g2,g3,g4⟩
 .exact fin _ _ (by unfold Mj;rw [g2]) (g3 n ck)
 .exact fin _ _ (by unfold Mj;rw [g2]) (by rw [Df];exact g4 n e.b)
end
structure GVer where
 cells:List PCell
 par:List Int
 gone:Bool
 deriving Inhabited
structure GTree where
 dims:List PDim
 attrs:List PAttr
 vers:List GVer
 heads:List (ByteArray×Int)
namespace GTree
def at'(S:GTree)(v:Nat):List PCell:=match v with
 | 0=>[]
 | v+1=>match S.vers[v]? with
  | some x=>x.cells
  | none=>[]
def parG(S:GTree)(v:Nat):List Int:=match v with
 | 0=>[]
 | v+1=>match S.vers[v]? with
  | some x=>x.par
  | none=>[]
def isG(S:GTree)(v:Nat):Bool:=match v with
 | 0=>false
 | v+1=>match S.vers[v]? with
  | some x=>x.gone
  | none=>false
def supF(S:GTree):Nat->Nat->Nat
 | 0,_=>0
 | n+1,v=>match S.parG v with
  | []=>0
  | p::_=>if S.isG p.toNat=true then supF S n p.toNat else p.toNat
def sup(S:GTree)(v:Nat):Nat:=S.supF v v
def nodeAt(S:GTree)(i:Nat):PNode:=⟨if S.isG (i+1)=true then [] else Rw (Hf [S.at' (S.sup (i+1)),S.at' (i+1)]),S.parG (i+1),S.isG (i+1)⟩
def nodes(S:GTree):List PNode:=(List.range S.vers.length).map S.nodeAt
structure OK (S:GTree):Prop where
 c:∀ x∈S.vers,Mf ⟨S.dims,S.attrs,x.cells⟩=0/\AOK ⟨S.dims,S.attrs,x.cells⟩/\x.cells.length<=255
 z:Mf ⟨S.dims,S.attrs,[]⟩=0/\AOK ⟨S.dims,S.attrs,[]⟩
 p:∀ v,1<=v->v<=S.vers.length->∀ q∈S.parG v,1<=q/\q<(v:Nat)
 n:S.vers.length<200
 l:∀ x∈S.vers,x.par.length<10
 h:∀ x∈S.heads,1<=x.2/\x.2<=(S.vers.length:Nat)/\S.isG x.2.toNat=false
theorem nodes_len(S:GTree):S.nodes.length=S.vers.length:=by unfold nodes;rw [Bp,Ep]
theorem nodes_get{S:GTree}{i:Nat}(h:i<S.nodes.length):S.nodes[i]=S.nodeAt i:=by
 have h2:i<((List.range S.vers.length).map S.nodeAt).length:=h
 have:((List.range S.vers.length).map S.nodeAt)[i]=S.nodeAt i:=by rw [Ey,Ht]
 exact this
theorem Bc3{S:GTree}(h:S.OK):∀ {n v:Nat},v<=S.vers.length->v<=n->S.supF n v=S.supF v v
 | n,0,_,_=>by cases n <;> rfl
 | 0,v+1,_,h2=>by omega
 | n+1,v+1,h1,h2=>by
  have key:∀ m,v<=m->S.supF (m+1) (v+1)=match S.parG (v+1) with
   | []=>0
   | p::_=>if S.isG p.toNat=true then S.supF p.toNat p.toNat else p.toNat:=λm hm=>by
   show (match S.parG (v+1) with
    | []=>0
    | p::_=>if S.isG p.toNat=true then S.supF m p.toNat else p.toNat)=_
   cases hp:S.parG (v+1) with
   | nil=>rfl
   | cons q l=>
    have:=h.p (v+1) (by omega) h1 q (by rw [hp];simp)
    show (if S.isG q.toNat=true then S.supF m q.toNat else q.toNat)=if S.isG q.toNat=true then S.supF q.toNat q.toNat else q.toNat
    rw [Bc3 h (n:=m) (v:=q.toNat) (by omega) (by omega)]
  rw [key n (by omega),key v (Ag _)]
theorem sup_eq{S:GTree}(h:S.OK){v:Nat}(h1:1<=v)(h2:v<=S.vers.length):S.sup v=match S.parG v with
  | []=>0
  | p::_=>if S.isG p.toNat=true then S.sup p.toNat else p.toNat:=by
 obtain ⟨w,rfl⟩:∃ w,v=w+1:=⟨v-1,by omega⟩
 show (match S.parG (w+1) with
  | []=>0
  | p::_=>if S.isG p.toNat=true then S.supF w p.toNat else p.toNat)=_
 cases hp:S.parG (w+1) with
 | nil=>rfl
 | cons q l=>
  have:=h.p (w+1) (by omega) h2 q (by rw [hp];simp)
  show (if S.isG q.toNat=true then S.supF w q.toNat else q.toNat)=if S.isG q.toNat=true then S.sup q.toNat else q.toNat
  rw [Bc3 h (by omega) (by omega)]
  rfl
theorem sup_lt{S:GTree}(h:S.OK):∀ {v:Nat},1<=v->v<=S.vers.length->S.sup v<v/\S.isG (S.sup v)=false:=by
 intro v
 induction v using Nat.strongRecOn with
 | _ v ih=>
  intro h1 h2
  rw [sup_eq h h1 h2]
  cases hp:S.parG v with
  | nil=>exact ⟨by show 0<v;omega,rfl⟩
  | cons q l=>
   have hq:=h.p v h1 h2 q (by rw [hp];simp)
   show (if S.isG q.toNat=true then S.sup q.toNat else q.toNat)<v/\S.isG (if S.isG q.toNat=true then S.sup q.toNat else q.toNat)=false
   by_cases hg:S.isG q.toNat=true
   .rw [Af hg]
    have:=ih q.toNat (by omega) (by omega) (by omega)
    exact ⟨by omega,this.2⟩
   .rw [Ae hg]
    exact ⟨by omega,by simpa using hg⟩
end GTree
structure TreeG (hp:Tr DObj) (nx T H:Nat) (nd:DV) (S:GTree):Prop where
 th:T≠H/\T<nx/\H<nx
 r:∃ d a z,hp.get T=some (.row 140 [d,a,z,nd,.mp H])/\RL rDim hp (λj=>j<nx/\j≠T/\j≠H/\j∉nd.refs) d S.dims/\RL rAttr hp (λj=>j<nx/\j≠T/\j≠H/\j∉nd.refs) a S.attrs/\RL rCell hp (λj=>j<nx/\j≠T/\j≠H/\j∉nd.refs) z []
 m:∃ ck es,hp.get H=some (.mapo ck es)/\Qc es S.heads/\StO ck es
 n:OL rNode hp (λj=>j<nx/\j≠T/\j≠H/\j∉nd.refs) nd S.nodes
 nr:∀ j∈nd.refs,j<nx/\j≠T/\j≠H
 ok:S.OK
section
variable {hp An:Tr DObj} {nx Bm T H:Nat} {nd:DV} {S:GTree}
theorem TreeG.keep(h:TreeG hp nx T H nd S)(a:Al hp nx An Bm):TreeG An Bm T H nd S:=by
 have hle:=a.le
 obtain ⟨d,aa,z,h1,h2,h3,h4⟩:=h.r
 obtain ⟨ck,es,g1,g2⟩:=h.m
 have up:∀ j,(j<nx/\j≠T/\j≠H/\j∉nd.refs)->(j<Bm/\j≠T/\j≠H/\j∉nd.refs):=λj hj=>⟨by omega,hj.2⟩
 have kp:∀ j,(j<nx/\j≠T/\j≠H/\j∉nd.refs)->An.get j=hp.get j:=λj hj=>a.same j hj.1
 exact ⟨⟨h.th.1,by have:=h.th.2.1;omega,by have:=h.th.2.2;omega⟩,⟨d,aa,z,(a.same _ h.th.2.1).trans h1,(h2.keep kp).mono up,(h3.keep kp).mono up,(h4.keep kp).mono up⟩,⟨ck,es,(a.same _ h.th.2.2).trans g1,g2⟩,(h.n.keep λj hj=>hj.elim (kp j) λhj=>a.same j (h.nr j hj).1).mono up,λj hj=>⟨by have:=(h.nr j hj).1;omega,(h.nr j hj).2⟩,h.ok⟩
theorem TreeG.ld(h:TreeG hp nx T H nd S):∃ d a z,hp.get T=some (.row 140 [d,a,z,nd,.mp H])/\(Mx hp 0 (.pt T 0)=some (.pt T 0)/\Mx hp 3 (.pt T 0)=some (.pt T 3)/\Mx hp 4 (.pt T 0)=some (.pt T 4)/\Mx hp 1 (.pt T 0)=some (.pt T 1))/\(Fy hp none (.pt T 0)=some d/\Fy hp none (.pt T 1)=some a/\Fy hp none (.pt T 3)=some nd/\Fy hp none (.pt T 4)=some (.mp H))/\RL rDim hp (λj=>j<nx/\j≠T/\j≠H/\j∉nd.refs) d S.dims/\RL rAttr hp (λj=>j<nx/\j≠T/\j≠H/\j∉nd.refs) a S.attrs:=by
 obtain ⟨d,a,z,h1,h2,h3,_⟩:=h.r
 exact ⟨d,a,z,h1,⟨iN h1,iN h1,iN h1,iN h1⟩,⟨Od h1 rfl,Od h1 rfl,Od h1 rfl,Od h1 rfl⟩,h2,h3⟩
theorem TreeG.nl(h:TreeG hp nx T H nd S):RL rNode hp (λj=>j<nx/\j≠T/\j≠H) nd S.nodes:=h.n.rl.mono λj hj=>hj.elim (λh=>⟨h.1,h.2.1,h.2.2.1⟩) λhj=>h.nr j hj
theorem TreeG.ver(h:TreeG hp nx T H nd S){v:Nat}(hv:1<=v/\v<=S.vers.length):∃ (a b:DV),RL rChange hp (λj=>j<nx/\j≠T/\j≠H) a (if S.isG v=true then [] else Rw (Hf [S.at' (S.sup v),S.at' v]))/\RL rInt hp (λj=>j<nx/\j≠T/\j≠H) b (S.parG v)/\(Cg hp (Bz 3 nd (v-1))=Bz 3 nd (v-1)/\aH (Bz 3 nd (v-1))=some (Bz 3 nd (v-1)))/\(Mx hp 0 (Bz 3 nd (v-1))=some (Fx (Bz 3 nd (v-1)) 0)/\Mx hp 1 (Bz 3 nd (v-1))=some (Fx (Bz 3 nd (v-1)) 1)/\Mx hp 2 (Bz 3 nd (v-1))=some (Fx (Bz 3 nd (v-1)) 2))/\Fy hp none (Fx (Bz 3 nd (v-1)) 0)=some a/\Fy hp none (Fx (Bz 3 nd (v-1)) 1)=some b/\Fy hp none (Fx (Bz 3 nd (v-1)) 2)=some (bv (S.isG v)):=by
 have r:=h.nl
 have Et:v-1<S.nodes.length:=by rw [S.nodes_len];omega
 obtain ⟨a,b,ra,rb,_,_,l0,l1,l2⟩:=yy r Et
 rw [GTree.nodes_get Et] at ra rb l2
 have e:v-1+1=v:=by omega
 unfold GTree.nodeAt at ra rb l2
 rw [e] at ra rb l2
 exact ⟨a,b,ra,rb,⟨Bm8 r 3 _,Cl7 h.n (λe=>by rw [e] at Et;cases Et) _⟩,⟨Z4 r Et,Z4 r Et,Z4 r Et⟩,l0,l1,l2⟩
variable (k:Nat) (K:DV->Tr DObj->Nat->Prop)
theorem Yy(h:TreeG hp nx T H nd S)(hK:K (bv true) hp nx):KW (kN (k+1)) (.fn 82) [.pt T 0] hp nx K:=by
 refine Es (Hl (by decide)) t82 (Ab rfl) λes e1 e2 he=>?_
 have a0:Ad es (.t .o)=.pt T 0:=he 0 _ rfl
 unfold r82
 subst e1 e2
 obtain ⟨d,a,z,hT,⟨_,_,f4,_⟩,⟨_,_,_,l4⟩,_⟩:=h.ld
 obtain ⟨ck,X6,hH,_⟩:=h.m
 simp only [As,↓Au,a0]
 refine eM false (by simp only [Dc,bR,bP,Vk hT];rfl) Bm7 ?_
 simp only [As,↓Au,bP,a0,↓Zt,Vk hT,eJ,f4,l4]
 refine eM false (by simp only [Dc,bR,bP,iZ hH];rfl) Ca9 ?_
 simp only [As,↓Au,bP]
 exact hK
structure TreeC (hp:Tr DObj) (B:Nat->Prop) (T H:Nat) (nd:DV) (S:GTree) (ch:Nat->List PCell):Prop where
 th:T≠H/\B T/\B H
 r:∃ d a z,hp.get T=some (.row 140 [d,a,z,nd,.mp H])/\RL rDim hp (λj=>B j/\j≠T/\j≠H/\j∉nd.refs) d S.dims/\RL rAttr hp (λj=>B j/\j≠T/\j≠H/\j∉nd.refs) a S.attrs/\RL rCell hp (λj=>B j/\j≠T/\j≠H/\j∉nd.refs) z []
 m:∃ ck es,hp.get H=some (.mapo ck es)/\Qc es S.heads/\StO ck es
 n:OL rNode hp (λj=>B j/\j≠T/\j≠H/\j∉nd.refs) nd ((List.range S.vers.length).map λi=>⟨ch i,S.parG (i+1),S.isG (i+1)⟩)
 nr:∀ j∈nd.refs,B j/\j≠T/\j≠H
 ok:S.OK
def GTree.chg(S:GTree)(i:Nat):List PCell:=if S.isG (i+1)=true then [] else Rw (Hf [S.at' (S.sup (i+1)),S.at' (i+1)])
theorem TreeG.toC(h:TreeG hp nx T H nd S):TreeC hp (Bl nx) T H nd S S.chg:=⟨h.th,h.r,h.m,h.n,h.nr,h.ok⟩
theorem TreeC.toG{ch:Nat->List PCell}(h:TreeC hp (Bl nx) T H nd S ch)(hc:∀ i,i<S.vers.length->ch i=S.chg i):TreeG hp nx T H nd S:=by
 have e:(List.range S.vers.length).map (λi=>(⟨ch i,S.parG (i+1),S.isG (i+1)⟩:PNode))=S.nodes:=El λi hi=>by rw [hc i (Sb.1 hi)];rfl
 have hn:=h.n
 rw [e] at hn
 exact ⟨h.th,h.r,h.m,hn,h.nr,h.ok⟩
section
variable {ch:Nat->List PCell}
theorem TreeC.keep{B B':Nat->Prop}(h:TreeC hp B T H nd S ch)(hk:∀ j,B j->An.get j=hp.get j)(hb:∀ j,B j->B' j):TreeC An B' T H nd S ch:=by
 obtain ⟨d,aa,z,h1,h2,h3,h4⟩:=h.r
 obtain ⟨ck,es,g1,g2⟩:=h.m
 have up:∀ j,(B j/\j≠T/\j≠H/\j∉nd.refs)->(B' j/\j≠T/\j≠H/\j∉nd.refs):=λj hj=>⟨hb j hj.1,hj.2⟩
 have kp:∀ j,(B j/\j≠T/\j≠H/\j∉nd.refs)->An.get j=hp.get j:=λj hj=>hk j hj.1
 exact ⟨⟨h.th.1,hb _ h.th.2.1,hb _ h.th.2.2⟩,⟨d,aa,z,(hk _ h.th.2.1).trans h1,(h2.keep kp).mono up,(h3.keep kp).mono up,(h4.keep kp).mono up⟩,⟨ck,es,(hk _ h.th.2.2).trans g1,g2⟩,(h.n.keep λj hj=>hj.elim (kp j) λhj=>hk j (h.nr j hj).1).mono up,λj hj=>⟨hb j (h.nr j hj).1,(h.nr j hj).2⟩,h.ok⟩
theorem TreeC.nl{B:Nat->Prop}(h:TreeC hp B T H nd S ch):RL rNode hp (λj=>B j/\j≠T/\j≠H) nd ((List.range S.vers.length).map λi=>⟨ch i,S.parG (i+1),S.isG (i+1)⟩):=h.n.rl.mono λj hj=>hj.elim (λh=>⟨h.1,h.2.1,h.2.2.1⟩) λhj=>h.nr j hj
theorem TreeC.ver{B:Nat->Prop}(h:TreeC hp B T H nd S ch){i:Nat}(hi:i<S.vers.length):∃ (a b:DV),RL rChange hp (λj=>B j/\j≠T/\j≠H) a (ch i)/\RL rInt hp (λj=>B j/\j≠T/\j≠H) b (S.parG (i+1))/\(Cg hp (Bz 3 nd i)=Bz 3 nd i/\aH (Bz 3 nd i)=some (Bz 3 nd i))/\(Mx hp 0 (Bz 3 nd i)=some (Fx (Bz 3 nd i) 0)/\Mx hp 1 (Bz 3 nd i)=some (Fx (Bz 3 nd i) 1)/\Mx hp 2 (Bz 3 nd i)=some (Fx (Bz 3 nd i) 2))/\Fy hp none (Fx (Bz 3 nd i) 0)=some a/\Fy hp none (Fx (Bz 3 nd i) 1)=some b/\Fy hp none (Fx (Bz 3 nd i) 2)=some (bv (S.isG (i+1)))/\Qu hp 3 nd (.v (.int .i64 (i:Int)))=some (Bz 3 nd i)/\Fy hp (some 3) (Bz 3 nd i)=some (.agg [a,b,bv (S.isG (i+1))]):=by
 have r:=h.nl
 have Et:i<((List.range S.vers.length).map λi=>(⟨ch i,S.parG (i+1),S.isG (i+1)⟩:PNode)).length:=by rw [Bp,Ep];exact hi
 obtain ⟨a,b,ra,rb,l9,_,l0,l1,l2⟩:=yy r Et
 rw [Ey,Ht] at ra rb l2 l9
 exact ⟨a,b,ra,rb,⟨Bm8 r 3 _,Cl7 h.n (λe=>by rw [e] at Et;cases Et) _⟩,⟨Z4 r Et,Z4 r Et,Z4 r Et⟩,l0,l1,l2,r.ia Et,l9⟩
theorem TreeC.verV{B:Nat->Prop}(h:TreeC hp B T H nd S ch){v:Nat}(hv:1<=v/\v<=S.vers.length):∃ (b:DV),RL rInt hp (λj=>B j/\j≠T/\j≠H) b (S.parG v)/\(Cg hp (Bz 3 nd (v-1))=Bz 3 nd (v-1)/\aH (Bz 3 nd (v-1))=some (Bz 3 nd (v-1)))/\(Mx hp 0 (Bz 3 nd (v-1))=some (Fx (Bz 3 nd (v-1)) 0)/\Mx hp 1 (Bz 3 nd (v-1))=some (Fx (Bz 3 nd (v-1)) 1)/\Mx hp 2 (Bz 3 nd (v-1))=some (Fx (Bz 3 nd (v-1)) 2))/\Fy hp none (Fx (Bz 3 nd (v-1)) 1)=some b/\Fy hp none (Fx (Bz 3 nd (v-1)) 2)=some (bv (S.isG v))/\Qu hp 3 nd (.v (.int .i64 ((v-1:Nat):Int)))=some (Bz 3 nd (v-1)):=by
 obtain ⟨i,rfl⟩:∃ i,v=i+1:=⟨v-1,by omega⟩
 obtain ⟨_,b,_,rb,lv,f,_,l1,l2,ia,_⟩:=h.ver (i:=i) (by omega)
 exact ⟨b,rb,lv,f,l1,l2,ia⟩
variable (k:Nat) (K:DV->Tr DObj->Nat->Prop)
theorem OJ(v:Nat){B:Nat->Prop}(h:TreeC hp B T H nd S ch)(hv:1<=v/\v<=S.vers.length)(hK:K (Bz 3 nd (v-1)) hp nx):KW (kN (k+1)) (.fn 99) [.pt T 0,iv (v:Nat)] hp nx K:=by
 refine Es (Hl (by decide)) t99 (Ab rfl) λes e1 e2 he=>?_
 have a0:Ad es (.t .o)=.pt T 0:=he 0 _ rfl
 have a1:Ad es (.t (.l .o))=iv (v:Nat):=he 1 _ rfl
 unfold r99
 subst e1 e2
 obtain ⟨d,a,z,hT,_⟩:=h.r
 have hn:=h.ok.n
 obtain ⟨_,_,⟨lv,_⟩,_,_,_,aO⟩:=h.verV hv
 simp only [As,↓Au,bP,a0,a1,↓Zt,Vk hT,eJ,iN (k:=3) hT,show Fy es.hp none (.pt T 3)=some nd from Od hT rfl,D8 v (by omega) (by omega),aO,lv]
 exact hK
theorem wz(v:Nat)(h:TreeG hp nx T H nd S)(hv:1<=v/\v<=S.vers.length)(hK:K (Bz 3 nd (v-1)) hp nx):KW (kN (k+1)) (.fn 99) [.pt T 0,iv (v:Nat)] hp nx K:=OJ k K v h.toC hv hK
end
end
end Go.DD

/- Contracts: a version's support and its cells, where some are reclaimed. Conditions: those that each theorem states. -/
namespace Go.DD
open Go Go.Proofs Go.Sort
theorem GTree.OK.chk{S:GTree}(h:S.OK)(v:Nat):Mf ⟨S.dims,S.attrs,S.at' v⟩=0/\AOK ⟨S.dims,S.attrs,S.at' v⟩/\(S.at' v).length<=255:=by
 cases v with
 | zero=>exact ⟨h.z.1,h.z.2,Fo _⟩
 | succ v=>
  have e:S.at' (v+1)=match S.vers[v]? with
   | some x=>x.cells
   | none=>[]:=rfl
  rw [e]
  cases hx:S.vers[v]? with
  | none=>exact ⟨h.z.1,h.z.2,Fo _⟩
  | some x=>exact h.c x (Aw hx)
theorem TreeG.chgQ{hp:Tr DObj}{nx T H:Nat}{nd:DV}{S:GTree}(h:TreeG hp nx T H nd S){v:Nat}(hv:1<=v/\v<=S.vers.length){a:DV}(ha:Fy hp none (Fx (Bz 3 nd (v-1)) 0)=some a):RL rChange hp (λj=>j<nx/\j≠T/\j≠H/\j∉nd.refs) a (if S.isG v=true then [] else Rw (Hf [S.at' (S.sup v),S.at' v])):=by
 have Et:v-1<S.nodes.length:=by rw [S.nodes_len];omega
 have e:v-1+1=v:=by omega
 have key:∀ {p:Nat->Prop} {l:List PNode} (_:OL rNode hp p nd l) (Et:v-1<l.length),∃ a,RL rChange hp p a l[v-1].chg/\Fy hp none (Fx (Bz 3 nd (v-1)) 0)=some a:=by
  intro p l hn Et
  cases hn with
  | nil=>simp at Et
  | ms id fl l hg hr=>
   obtain ⟨rest,e1,h2⟩:=hr.at Et
   obtain ⟨a,b,e2,h3,_⟩:=rNode_rd.1 h2
   refine ⟨a,h3,?_⟩
   show Fy hp none (.pt id (0+(v-1)*3+0))=_
   rw [e2] at e1
   have kJ:fl.drop ((v-1)*3)=a::b::bv _::rest:=e1
   rw [Qz hg,Df,Lb,kJ]
   rfl
 obtain ⟨a',h1,h2⟩:=key h.n Et
 rw [h2] at ha
 cases ha
 rw [GTree.nodes_get Et] at h1
 unfold GTree.nodeAt at h1
 rw [e] at h1
 exact h1
section
variable {hp:Tr DObj} {nx T H:Nat} {nd:DV} {S:GTree} (k:Nat) (K:DV->Tr DObj->Nat->Prop)
theorem A27{ch:Nat->List PCell}{B:Nat->Prop}(v:Nat)(h:TreeC hp B T H nd S ch)(hv:1<=v/\v<=S.vers.length)(hK:K (iv (S.sup v:Nat)) hp nx):KW (kN (k+2)) (.fn 98) [.pt T 0,iv (v:Nat)] hp nx K:=by
 refine Es (Hl (by decide)) t98 (Ab rfl) λes e1 e2 he=>?_
 have a0:Ad es (.t .o)=.pt T 0:=he 0 _ rfl
 have a1:Ad es (.t (.l .o))=iv (v:Nat):=he 1 _ rfl
 unfold r98
 subst e1 e2
 obtain ⟨b,rb,⟨lv,nc⟩,⟨_,f1,_⟩,l1,_,_⟩:=h.verV hv
 have hn:=h.ok.n
 simp only [As,↓Au,a0,a1]
 refine Fh (OJ k _ v h hv ?_)
 simp only [As,↓Au,bP,↓Zt,lv,nc,f1,l1]
 refine EW.l (λm Ai=>Ai.hp=es.hp/\Ai.nx=es.nx/\Ad Ai (.t .o)=.pt T 0/\∃ u b,m=u/\(1<=u/\u<=S.vers.length)/\S.sup u=S.sup v/\RL rInt es.hp (λj=>B j/\j≠T/\j≠H) b (S.parG u)/\Ad Ai (.t (.l (.r .o)))=b) ?_ v 1000000 _ ⟨rfl,rfl,by simp only [bR,a0],v,b,rfl,hv,rfl,rb,by simp only [bR]⟩ (by omega)
 rintro m Ai ⟨g1,g2,b0,u,b,rfl,hu,hs,rb,b5⟩
 unfold xR
 have h1:TreeC Ai.hp B T H nd S ch:=by rw [g1];exact h
 rw [<- g1,<- g2] at hK
 rw [<- g1] at rb
 have lH:=GTree.sup_eq h.ok hu.1 hu.2
 cases aJ:S.parG m with
 | nil=>
  rw [aJ] at rb lH
  rw [<- hs,lH] at hK
  simp only [As,↓Au,bP,b5,rb.len,Mh,show decide ((0:Int)<0)=false from rfl]
  exact hK
 | cons q ps=>
  have hq:=h.ok.p m hu.1 hu.2 q (by rw [aJ];simp)
  obtain ⟨n,rfl⟩:=Vt (show 0<=q by omega)
  rw [aJ] at rb lH
  obtain ⟨b',rb',⟨bn,bh⟩,⟨_,f1',f2'⟩,l1',U9,_⟩:=h1.verV (v:=n) ⟨by omega,by omega⟩
  have hlen:(0:Nat)<((n:Int)::ps).length:=by simp
  have li:=ints_at rb hlen
  have ia:=yx rb hlen
  simp only [As,↓Au,b0,b5,rb.len,show decide ((0:Int)<((((n:Int)::ps).length:Nat):Int))=true from Ak (by omega),ia,li,Hm]
  refine Fh (OJ k _ n h1 ⟨by omega,by omega⟩ ?_)
  cases hg:S.isG n with
  | false=>
   rw [hg] at U9
   have e:S.sup v=n:=by
    rw [<- hs,lH]
    show (if S.isG n=true then S.sup n else n)=n
    rw [hg,Ae (by simp)]
   rw [e] at hK
   simp only [As,↓Au,bP,b5,↓Zt,bn,bh,f2',U9,ia,li,Hm]
   exact hK
  | true=>
   rw [hg] at U9
   have e:S.sup n=S.sup v:=by
    rw [<- hs,lH]
    show _=(if S.isG n=true then S.sup n else n)
    rw [hg,Af rfl]
   simp only [As,↓Au,bP,b0,b5,↓Zt,bn,bh,f2',U9,ia,li,Hm]
   refine Fh (OJ k _ n h1 ⟨by omega,by omega⟩ ?_)
   simp only [As,↓Au,bP,b0,↓Zt,bn,bh,f1',l1']
   exact ⟨n,by omega,g1,g2,n,b',rfl,⟨by omega,by omega⟩,e,by rw [<- g1];exact rb',rfl⟩
theorem Bq7(v:Nat)(h:TreeG hp nx T H nd S)(hv:1<=v/\v<=S.vers.length)(hK:K (iv (S.sup v:Nat)) hp nx):KW (kN (k+2)) (.fn 98) [.pt T 0,iv (v:Nat)] hp nx K:=A27 k K v h.toC hv hK
theorem zw{n1:Nat} : ∀ (n k v:Nat) (hp:Tr DObj) (nx:Nat) (K:DV->Tr DObj->Nat->Prop),v<=n->v<=S.vers.length->S.isG v=false->n1<=nx->TreeG hp n1 T H nd S->(∀ An Bm z,Al hp nx An Bm->RL rCell An (λj=>(j<n1/\j≠T/\j≠H/\j∉nd.refs)\/(nx<=j/\j<Bm)) z (S.at' v)->(∀ j∈z.refs,nx<=j)->K z An Bm)->KW (kN (k+n+8)) (.fn 97) [.pt T 0,iv (v:Nat)] hp nx K
 | 0,k,v,hp,nx,K,hv,IN,hg,oI,h0,hK=>by
  obtain rfl:v=0:=by omega
  refine Es (Hl (by decide)) WY (Ab rfl) λes e1 e2 he=>?_
  have a0:Ad es (.t .o)=.pt T 0:=he 0 _ rfl
  have a1:Ad es (.t (.l .o))=iv ((0:Nat)):=he 1 _ rfl
  unfold QS
  subst e1 e2
  simp only [As,↓Au,bP,a1]
  exact hK _ _ Cb (Al.refl _ _) .nil λj hj=>by cases hj
 | n+1,k,v,hp,nx,K,hv,IN,hg,oI,mg,hK=>by
  by_cases h0:v=0
  .subst h0
   refine Es (Hl (by decide)) WY (Ab rfl) λes e1 e2 he=>?_
   have a0:Ad es (.t .o)=.pt T 0:=he 0 _ rfl
   have a1:Ad es (.t (.l .o))=iv ((0:Nat)):=he 1 _ rfl
   unfold QS
   subst e1 e2
   simp only [As,↓Au,bP,a1]
   exact hK _ _ Cb (Al.refl _ _) .nil λj hj=>by cases hj
  refine Es (Hl (by decide)) WY (Ab rfl) λes e1 e2 he=>?_
  have a0:Ad es (.t .o)=.pt T 0:=he 0 _ rfl
  have a1:Ad es (.t (.l .o))=iv (v:Nat):=he 1 _ rfl
  unfold QS
  subst e1 e2
  have V4:1<=v/\v<=S.vers.length:=by omega
  have h:TreeG es.hp es.nx T H nd S:=mg.keep ⟨oI,λ_ _=>rfl⟩
  obtain ⟨a,b,ra,_,⟨lv,nc⟩,⟨f0,_,_⟩,l0,_,_⟩:=h.ver V4
  rw [hg,Ae (by simp)] at ra
  have ra9:=mg.chgQ V4 l0
  rw [hg,Ae (by simp)] at ra9
  obtain ⟨d,aa,z,hT,_⟩:=h.ld
  simp only [As,↓Au,a0,a1,show decide ((v:Int)=0)=false from Ah (by omega),Lp (n0:=es.nx) (m:=13) hT h.th.2.1]
  refine Ly rfl (Uy ?_)
  simp only [bR,Am,Az]
  refine wz _ _ v (h.keep (Al.ini es.hp (by omega:es.nx<=es.nx+13))) V4 ?_
  have r:=h.nl
  have b3:∀ j,(j<es.nx/\j≠T/\j≠H)->j<es.nx:=λj hj=>hj.1
  have ld:=ra.live
  simp only [As,↓Au,bP,a0,a1,↓AM,lv,nc,f0,l0,xj r b3,xi r b3,Lp (n0:=es.nx) (m:=13) hT h.th.2.1]
  refine Ly rfl (Uy ?_)
  simp only [bR,Am,Az]
  refine Bq7 _ _ v (h.keep (Al.ini es.hp (by omega:es.nx<=es.nx+13))) V4 ?_
  simp only [As,↓Au,Lp (n0:=es.nx) (m:=13) hT h.th.2.1]
  refine Ly rfl (Uy ?_)
  simp only [bR,Am,Az]
  obtain ⟨IX,O1⟩:=GTree.sup_lt h.ok V4.1 V4.2
  refine zw n k (S.sup v) _ _ _ (by omega) (by omega) O1 (by omega) mg λCw Dt z Rj rz YQ=>?_
  have Gu:=Rj.le
  have k2:∀ j,j<es.nx->Cw.get j=es.hp.get j:=λj hj=>Rj.same j (by omega)
  obtain ⟨xc,xo,xl⟩:=h.ok.chk v
  obtain ⟨sc,so,sl⟩:=h.ok.chk (S.sup v)
  have ond:=Ca8 (x:=⟨S.dims,S.attrs,S.at' (S.sup v)⟩) (y:=⟨S.dims,S.attrs,S.at' v⟩) sc xc
  have Mb:=vt (Hf [S.at' (S.sup v),S.at' v])
  have lE:(Hf [S.at' (S.sup v),S.at' v]).length<=Wg [S.at' (S.sup v),S.at' v]:=xn
  have nP:Wg [S.at' (S.sup v),S.at' v]=(S.at' (S.sup v)).length+(S.at' v).length:=by simp [Wg]
  have r2:=r.keep (An:=Cw) λj hj=>k2 j hj.1
  have qQ:=ra.keep (An:=Cw) λj hj=>k2 j hj.1
  have oz:∀ {an:List Nat},Hh z (λid=>Cp es.nx 13 an Cw id)↔True:=D7 rz YQ
  simp only [As,↓Au,Gu,jA qQ b3,oz]
  refine Ly rfl (Uy ?_)
  simp only [bR,Am,Az]
  have ra8:=ra9.keep (An:=Cw) λj hj=>k2 j (by omega)
  refine Cl4 _ _ _ _ (λj=>(j<n1/\j≠T/\j≠H/\j∉nd.refs)\/(es.nx<=j/\j<Dt)) a z _ _ (λj hj=>by omega) (ra8.mono λ_ hj=>.inl hj) (rz.mono λj hj=>hj.imp id λh=>⟨by omega,h.2⟩) (by omega) (jC sc).1 (λc hc=>(so.e c hc).1) λGn Dy z3 Ub mO QR=>?_
  have Iw:=Ub.le
  have az:∀ {an:List Nat},Hh z3 (λid=>Cp es.nx 13 an Gn id)↔True:=D7 mO λj hj=>by have:=QR j hj;omega
  rw [ond] at mO
  simp only [As,↓Au,bP,Iw,az,mO.live]
  have k3:∀ j,j<es.nx->Gn.get j=es.hp.get j:=λj hj=>(Ub.same j (by omega)).trans (k2 j hj)
  have hP:Tq es.nx es.hp [⟨11,[5,10,4,3,2,0,1,6,9,7,8],Cw,Gn⟩,⟨10,[6,9,7,8,2,0,1],es.hp,Cw⟩,⟨9,[7,8,2,0,1],es.hp,es.hp⟩,⟨2,[0,1],es.hp,es.hp⟩]:=rO k2 k3 (rO (λ_ _=>rfl) k2 (rO (λ_ _=>rfl) (λ_ _=>rfl) (rO (λ_ _=>rfl) (λ_ _=>rfl) xb)))
  exact ⟨VH hP (Cl8 h.th.2.1) (VH hP (Cl8 h.th.2.1) (xa hP r b3 (λj hj=>uV _ _ _ _ (Bl1 _ _ _ hj)) (xa hP r b3 (uV _ _ _) (xa hP r b3 (uV _ _ _) rfl)))),hK _ _ _ ((Al.ini es.hp (by omega:es.nx<=es.nx+13)).trans (Rj.trans Ub)) (mO.mono λj hj=>hj.elim (λhj=>hj.imp id λh=>⟨h.1,by omega⟩) λhj=>.inr ⟨by omega,hj.2⟩) λj hj=>by (have:=QR j hj);omega⟩
theorem Bn0(n k v:Nat)(hp:Tr DObj)(nx:Nat)(K:DV->Tr DObj->Nat->Prop)(hv:v<=n)(IN:v<=S.vers.length)(hg:S.isG v=false)(h:TreeG hp nx T H nd S)(hK:∀ An Bm z,Al hp nx An Bm->RL rCell An (Bl Bm) z (S.at' v)->(∀ j∈z.refs,nx<=j)->K z An Bm):KW (kN (k+n+8)) (.fn 97) [.pt T 0,iv (v:Nat)] hp nx K:=
 zw n k v hp nx K hv IN hg (Ag _) h λAn Bm z al rz=>hK An Bm z al (rz.mono λ_ hj=>hj.elim (λh=>Bs h.1 al.le) λh=>h.2)
end
end Go.DD

/- Contracts: a version's array. Conditions: those that each theorem states. -/
namespace Go.DD
open Go Go.Proofs Go.Sort
section
variable {T H:Nat} {nd:DV} {S:PTree}
end
end Go.DD

/- Contracts: a version as an array of its own. Conditions: those that each theorem states. -/
namespace Go.DD
open Go Go.Proofs Go.Sort
section
variable {hp:Tr DObj} {nx T H:Nat} {nd:DV} {S:PTree}
variable (k:Nat) (K:DV->Tr DObj->Nat->Prop)
end
end Go.DD

/- Contracts: the present versions; which numbers are versions. Conditions: those that each theorem states. -/
namespace Go.DD
open Go Go.Proofs Go.Sort
theorem VG{hp:Tr DObj}{a b:DV}{x:Bool}(ha:∀ id∈a.refs,(hp.get id).isSome=true)(hb:∀ id∈b.refs,(hp.get id).isSome=true):Cg hp (.agg [a,b,bv x])=.agg [a,b,bv x]:=Wm λid hid=>by
 have:id∈a.refs\/id∈b.refs:=by simpa [DV.refs,DV.refsL,bv] using hid
 exact this.elim (ha id) (hb id)
section
variable {hp:Tr DObj} {nx T H:Nat} {nd:DV} {S:PTree} (k:Nat) (K:DV->Tr DObj->Nat->Prop)
end
end Go.DD

/- Contracts: a version as an array of its own; the present versions; where some are reclaimed. Conditions: those that each theorem states. -/
namespace Go.DD
open Go Go.Proofs Go.Sort
section
variable {hp:Tr DObj} {nx T H:Nat} {nd:DV} {S:GTree}
theorem TreeG.sz(h:TreeG hp nx T H nd S){U:Nat}{cs:List DV}(g:hp.get T=some (.row U cs)):∀ c∈cs,Nk 6 c c=true:=by
 obtain ⟨d,a,z,h1,h2,h3,h4⟩:=h.r
 rw [h1] at g
 cases g
 intro c hc
 simp only [Ap,Cm,or_false] at hc
 rcases hc with rfl | rfl | rfl | rfl | rfl
 .exact h2.same (by decide)
 .exact h3.same (by decide)
 .exact h4.same (by decide)
 .exact h.n.rl.same (by decide)
 .simp [Nk]
theorem Cl9{n m i:Nat}{an lo:List Nat}{c:Bool}{ws:List Look}{ps:List Past}{off:Nat}(h:TreeG hp nx T H nd S)(hn:nx<=n)(hP:Tq nx hp ps)(h2:Pl n m ws ps=true):Pl n m (Gg i an true c (DV.pt T off).refs n lo ws) ps=true:=by
 obtain ⟨d,a,z,g,_⟩:=h.r
 exact qK (λj hj=>by simpa [DV.refs] using hj) (Bs h.th.2.1 hn) (λq hq=>⟨((hP q hq).1 _ h.th.2.1).trans g,((hP q hq).2 _ h.th.2.1).trans g⟩) (h.sz g) h2
variable (k:Nat) (K:DV->Tr DObj->Nat->Prop)
theorem Bn1(f v:Nat)(h:TreeG hp nx T H nd S)(hv:v<=S.vers.length)(hg:S.isG v=false)(hf:v<=f)
  (hK:∀ An Bm d',Al hp nx An Bm->AR An (Bw nx Bm) d' ⟨S.dims,S.attrs,S.at' v⟩->AOw An d'->K (.tup [d',iv 0]) An Bm):KW (kN (k+f+19)) (.fn 85) [.pt T 0,iv (v:Nat)] hp nx K:=by
 refine bW (Hl (by decide)) t85 (Ab rfl) λes e1 e2 he=>?_
 have a0:Ad es (.t .o)=.pt T 0:=he 0 _ rfl
 have a1:Ad es (.t (.l .o))=iv (v:Nat):=he 1 _ rfl
 unfold r85
 subst e1 e2
 simp only [↓Au]
 refine Rz λEi Dn Dd=>?_
 simp only [bR] at Dn Dd
 have Zs:Al es.hp es.nx Ei (es.nx+1):=⟨by omega,λj hj=>Dd j (by omega)⟩
 have h1:=h.keep Zs
 obtain ⟨d,a,z,hT,⟨f0,_,_,f1⟩,⟨l0,l1,_,_⟩,rd,ra⟩:=h1.ld
 have b3:∀ j,(j<es.nx+1/\j≠T/\j≠H/\j∉nd.refs)->j<es.nx+1:=λj hj=>hj.1
 simp only [As,↓Au,bP,a0,a1,↓AM,Vk hT,eJ,f0,f1,l0,l1,Lp (n0:=es.nx+1) (m:=18) hT h1.th.2.1]
 refine Ly rfl (Uy ?_)
 simp only [bR,Am,Az]
 refine Bn0 (f+10) k v _ _ _ (by omega) hv hg (h1.keep (Al.ini Ei (by omega:es.nx+1<=es.nx+1+18))) λCw Dt z2 Rj rz YQ=>?_
 have Gu:=Rj.le
 have k2:∀ j,j<es.nx+1->Cw.get j=Ei.get j:=λj hj=>Rj.same j (by omega)
 have QQ:=rd.keep (An:=Cw) λj hj=>k2 j hj.1
 have qQ:=ra.keep (An:=Cw) λj hj=>k2 j hj.1
 have oz:∀ {an:List Nat},Hh z2 (λid=>Cp (es.nx+1) 18 an Cw id)↔True:=D7 rz YQ
 simp only [As,↓Au,Gu,jA QQ b3,jA qQ b3,oz]
 refine Ly rfl (Uy ?_)
 simp only [bR,Am,Az]
 obtain ⟨sc,so,sl⟩:=h.ok.chk v
 refine vr (k+f) Dt _ _ _ 8 d a z2 ⟨S.dims,S.attrs,S.at' v⟩ (Ag _) (QQ.mono λj hj=>by (have:=hj.1;show j<Dt);omega) (qQ.mono λj hj=>by (have:=hj.1;show j<Dt);omega) rz sc so (by show (S.at' v).length<=2 ^ 8;omega) λIv It d6 Rh fR jO=>?_
 have Rf:=Rh.le
 obtain ⟨dd,da,Ya,rfl,v1,v2,v3⟩:=fR
 have x0:Fb Iv (.tup [.agg [dd,da,Ya],iv 0]) 0=some (.agg [dd,da,Ya]):=Xp v1 v2 v3
 have x1:Fb Iv (.tup [.agg [dd,da,Ya],iv 0]) 1=some (iv 0):=Ru
 have R2:=(Rh.same es.nx (by omega)).trans ((k2 es.nx (by omega)).trans Dn)
 have DY:∀ an,Hh (.agg [dd,da,Ya]) (λid=>Cp (es.nx+1) 18 an Iv id):=λan id hid=>by
  have:id∈dd.refs\/id∈da.refs\/id∈Ya.refs:=by simpa [DV.refs,DV.refsL] using hid
  have w1:=v1.ro' (n:=es.nx+1) (m:=18) (an:=an) λj hj=>.inr (by have:=hj.1;omega)
  have w2:=v2.ro' (n:=es.nx+1) (m:=18) (an:=an) λj hj=>.inr (by have:=hj.1;omega)
  have w3:=v3.ro' (n:=es.nx+1) (m:=18) (an:=an) λj hj=>.inr (by have:=hj.1;omega)
  exact this.elim (w1 id) λh=>h.elim (w2 id) (w3 id)
 have wO:∀ an,Hh (.tup [.agg [dd,da,Ya],iv 0]) (λid=>Cp (es.nx+1) 18 an Iv id):=λan id hid=>DY an id (by simpa [DV.refs,DV.refsL,iv] using hid)
 simp only [As,↓Au,Rf,x0,x1,Bf (DY _),Bf (wO _),Lp (n0:=es.nx+1) (m:=18) R2 (show es.nx<es.nx+1 by omega)]
 refine Ly rfl (Qx (n:=3) (id:=es.nx) (ds:=[dd,da,Ya]) (by simp only [bR]) R2 (by simp only [Ha,bR];exact AR.live (x:=⟨S.dims,S.attrs,S.at' v⟩) v1 v2 v3) rfl rfl λKl Pt Lr=>?_)
 simp only [bR] at Pt Lr
 simp only [As,↓Au]
 have k6:∀ j,j<es.nx->Iv.get j=es.hp.get j:=λj hj=>(Rh.same j (by omega)).trans ((k2 j (by omega)).trans (Zs.same j hj))
 have k7:∀ j,j<es.nx->Kl.get j=es.hp.get j:=λj hj=>(Lr j (by omega)).trans (k6 j hj)
 have hP:Tq es.nx es.hp [⟨16,[14,13,0,1,2,3,4,5,6,7,8,9,10,11,12,15],Iv,Kl⟩,⟨13,[4,9,12,3,2,1,0,8,7,6,5,10,11],Cw,Iv⟩,⟨12,[10,11],Ei,Cw⟩]:=rO k6 k7 (rO (λj hj=>(k2 j (by omega)).trans (Zs.same j hj)) k6 (rO (λj hj=>Zs.same j hj) (λj hj=>(k2 j (by omega)).trans (Zs.same j hj)) xb))
 have ok:∀ {i:Nat} {an lo:List Nat} {c:Bool} {ws:List Look} {off:Nat},Pl (es.nx+1) 18 ws _=true->Pl (es.nx+1) 18 (Gg i an true c (DV.pt T off).refs (es.nx+1) lo ws) _=true:=λh2=>Cl9 h (Nat.le_succ _) hP h2
 have up:∀ j,Bw Dt It j->Bw es.nx It j:=λj hj=>⟨by have:=hj.1;omega,hj.2⟩
 have kp:∀ j,Bw Dt It j->Kl.get j=Iv.get j:=λj hj=>Lr j (by have:=hj.1;omega)
 exact ⟨ok (ok (ok (ok (ok (ok (ok (ok (ok (ok rfl))))))))),_,_,uL (by simp only [bR,bP]) Pt rfl,by rw [S8];simp only [bR,bP,Sa],hK _ _ _ ⟨by omega,k7⟩ ⟨dd,da,Ya,rfl,(v1.keep kp).mono up,(v2.keep kp).mono up,(v3.keep kp).mono up⟩ (.of ((jO _ _ _ rfl).keep λj hj=>kp j (v3.refs j hj).1))⟩
end
section
variable {hp:Tr DObj} {nx T H:Nat} {nd:DV} {S:GTree} (k:Nat) (K:DV->Tr DObj->Nat->Prop)
theorem yi(v:Nat)(h:TreeG hp nx T H nd S)(hv:1<=v/\v<=S.vers.length)(hK:K (iv (if S.isG v=true then 23 else 0)) hp nx):KW (kN (k+2)) (.fn 84) [.pt T 0,iv (v:Nat)] hp nx K:=by
 refine Es (Hl (by decide)) t84 (Ab rfl) λes e1 e2 he=>?_
 have a0:Ad es (.t .o)=.pt T 0:=he 0 _ rfl
 have a1:Ad es (.t (.l .o))=iv (v:Nat):=he 1 _ rfl
 unfold r84
 subst e1 e2
 obtain ⟨d,aa,z,hT,⟨_,f3,_,_⟩,⟨_,_,l3,_⟩,_⟩:=h.ld
 obtain ⟨a,b,_,rb,⟨lv,nc⟩,⟨_,_,f2⟩,_,_,l2⟩:=h.ver hv
 have r:=h.nl
 have hlen:Oc es.hp nd=some (.v (.int .i64 (S.vers.length:Int))):=by rw [r.len,S.nodes_len]
 simp only [As,↓Au,bP,a0,a1,show decide ((v:Int)<1)=false from Ah (by omega),↓Zt,Vk hT,eJ,f3,l3,hlen,show decide (S.vers.length<v)=false from Ah (by omega)]
 refine Fh (wz k _ v h hv ?_)
 cases hg:S.isG v with
 | false=>
  rw [hg] at l2 hK
  simp only [As,↓Au,bP,↓Zt,lv,nc,f2,l2]
  exact hK
 | true=>
  rw [hg] at l2 hK
  simp only [As,↓Au,bP,↓Zt,lv,nc,f2,l2]
  exact hK
def Ng(S:GTree)(i:Nat):List Int:=((List.range i).filter λj=>!S.isG (j+1)).map λj=>((j+1:Nat):Int)
theorem A28{S:GTree}{i:Nat} : Ng S (i+1)=Ng S i++if S.isG (i+1)=true then [] else [((i+1:Nat):Int)]:=by
 unfold Ng
 rw [Ih,Jn,Cn]
 cases h:S.isG (i+1) <;> simp [List.filter,h]
theorem Bc5{S:GTree}{i:Nat} : (Ng S i).length<=i:=by
 unfold Ng
 rw [Bp]
 exact Dz (Ot _ _) (by rw [Ep];exact Ag _)
theorem A01(h:TreeG hp nx T H nd S)(hK:∀ An Bm z,Al hp nx An Bm->RL rInt An (Bl Bm) z (Ng S S.vers.length)->K z An Bm):KW (kN (k+2)) (.fn 37) [.pt T 0] hp nx K:=by
 refine Es (Hl (by decide)) t37 (Ab rfl) λes e1 e2 he=>?_
 have a0:Ad es (.t .o)=.pt T 0:=he 0 _ rfl
 unfold r37
 subst e1 e2
 obtain ⟨d,aa,z,hT,⟨_,f3,_,_⟩,⟨_,_,l3,_⟩,_⟩:=h.ld
 have r:=h.nl
 have hlen:Oc es.hp nd=some (.v (.int .i64 (S.vers.length:Int))):=by rw [r.len,S.nodes_len]
 have M9:=h.ok.n
 simp only [As,↓Au,a0]
 refine Fh (Yy k _ h ?_)
 simp only [As,↓Au,bP,a0,↓Zt,Vk hT,eJ,f3,l3,hlen]
 refine EW.up S.vers.length (λi Ai=>∃ z,Al es.hp es.nx Ai.hp Ai.nx/\OL rInt Ai.hp (λ_=>False) z (Ng S i)/\(∀ j∈z.refs,es.nx<=j/\j<Ai.nx)/\Ad Ai (.t (.l (.l .o)))=z/\Ad Ai (.t (.r (.l (.r .o))))=nd/\Ad Ai (.t (.l (.r (.r .o))))=iv S.vers.length/\Ad Ai (.t (.r (.r (.r .o))))=iv (i:Nat)) ?_ ?_ (by omega)
 .rintro i Ai hi ⟨z,g,ho,hz,b3,Ny,Qq,b14⟩
  unfold yK
  have h1:=h.keep g
  have hle:=g.le
  by_cases Ic:i<S.vers.length
  .have M5:=Bc5 (S:=S) (i:=i)
   have r1:=h1.nl
   have Et:i<S.nodes.length:=by rw [S.nodes_len];exact Ic
   obtain ⟨a,b,ra,rb,tA,_⟩:=yy r1 Et
   have hgn:S.nodes[i].gone=S.isG (i+1):=by rw [GTree.nodes_get Et];rfl
   rw [hgn] at tA
   have Gy:=A28 (S:=S) (i:=i)
   simp only [As,↓Au,Ny,Qq,b14,Ic,Cb0 r1 Et,tA]
   refine Rz λCw Fw Fa=>?_
   simp only [bR] at Fw Fa
   have k2:∀ j,j<Ai.nx->Cw.get j=Ai.hp.get j:=λj hj=>Fa j (by omega)
   have qQ:=ra.keep (An:=Cw) λj hj=>k2 j hj.1
   have sO:=rb.keep (An:=Cw) λj hj=>k2 j hj.1
   simp only [As,↓Au]
   refine Qx (n:=3) (id:=Ai.nx) (ds:=[a,b,bv (S.isG (i+1))]) (by simp only [bR]) Fw (by simp only [Ha,bR];exact VG (λid h=>(qQ.refs id h).2) (λid h=>(sO.refs id h).2)) rfl rfl λGn Kv Hy=>?_
   simp only [bR] at Kv Hy
   have k3:∀ j,j<Ai.nx->Gn.get j=Ai.hp.get j:=λj hj=>by rw [Hy j (by omega),k2 j hj]
   have QX:Fy Gn none (.pt Ai.nx 2)=some (bv (S.isG (i+1))):=Od Kv rfl
   have RR:=ho.keep (An:=Gn) λj hj=>k3 j (hj.elim False.elim λh=>(hz j h).2)
   cases jX:S.isG (i+1) with
   | true=>
    rw [jX] at QX Gy
    rw [Af rfl,Da] at Gy
    simp only [As,↓Au,b3,Ny,Qq,b14,iN (k:=2) Kv,QX,Hz (show i<_ by omega)]
    refine ⟨Ic,z,g.new (by omega) λj hj=>?_,by rw [Gy];exact RR,λj hj=>⟨(hz j hj).1,by have:=(hz j hj).2;omega⟩,rfl⟩
    exact k3 j (by omega)
   | false=>
    rw [jX] at QX Gy
    rw [Ae (by simp)] at Gy
    simp only [As,↓Au,b3,iN (k:=2) Kv,QX,Hz (show i<_ by omega)]
    refine eK (fl:=[iv ((i+1:Nat))]) rfl (by simp only [Am,Az,Dc,bR,bP,Sa];rfl) λFq Kf Fl=>?_
    simp only [bR] at Kf Fl
    have qV:=RR.keep (An:=Fq) λj hj=>Fl j (hj.elim False.elim λh=>by have:=(hz j h).2;omega)
    simp only [As,↓Au]
    refine eL (R:=rInt) (p:=λ_=>False) (p2:=λ_=>False) (d:=z) (d2:=.ms (Ai.nx+1) 0 1 1) (l:=Ng S i) (m:=[((i+1:Nat):Int)]) (by simp only [bR,bP]) qV (by simp only [Dc,bR,bP];exact Yb Kf) (T6 (R:=rInt) (x:=((i+1:Nat):Int)) Kf rfl) rfl rfl (by rw [Bk];omega) (by decide) λGr Jd h5=>?_
    simp only [bR] at Jd h5
    have o5:=h5 (λ_=>False) λj hj=>(hj.elim False.elim False.elim:False).elim
    simp only [As,↓Au,Ny,Qq,b14,Hz (show i<_ by omega)]
    refine ⟨Ic,_,g.new (by omega) λj hj=>?_,by rw [Gy];exact o5,λj hj=>?_,rfl⟩
    .rw [Jd j (by omega) (λji=>by have:=(hz j ji).1;omega),Fl j (by omega),k3 j (by omega)]
    .obtain rfl:j=Ai.nx+1+1:=by simpa [DV.refs] using hj
     omega
  .simp only [As,↓Au,bP,b3,Qq,b14,Ic,(ho.rl).live]
   have oN:i=S.vers.length:=by omega
   rw [oN] at ho
   exact hK _ _ _ g (ho.rl.mono λj hj=>hj.elim False.elim λh=>(hz j h).2)
 .simp only [As]
  exact ⟨Cb,.nil,λj hj=>(by cases hj),rfl⟩
end
end Go.DD

/- Contracts: a version is added. Conditions: those that each theorem states. -/
namespace Go.DD
open Go Go.Proofs Go.Sort
structure Fr3 (hp:Tr DObj) (nx T H:Nat) (nd:DV) (An:Tr DObj) (Bm:Nat):Prop where
 le:nx<=Bm
 k:∀ j,j<nx->j≠T->j≠H->j∉nd.refs->An.get j=hp.get j
theorem Bn2:∀ {hs:List (ByteArray×Int)} {s:ByteArray} {v:Int} {x:ByteArray×Int},x∈Pv hs s v->x∈hs\/x.2=v
 | [],s,v,x,h=>by
  have:x=(s,v):=by simpa [Pv] using h
  exact .inr (by rw [this])
 | y::hs,s,v,x,h=>by
  unfold Pv at h
  split at h
  .rcases Ap.1 h with rfl | h
   .exact .inr rfl
   .exact .inl (Bh _ h)
  .rcases Ap.1 h with rfl | h
   .exact .inl (by simp)
   .exact (Bn2 h).imp (Bh _) id
theorem Cm0{n m:Nat}{ws:List Look}{p:Past}{ps:List Past}(h1:Pl n m ws [p]=true)(h2:Pl n m ws ps=true):Pl n m ws (p::ps)=true:=by
 unfold Pl at *
 rw [Bd] at *
 intro w hw
 have a:=h1 w hw
 have b:=h2 w hw
 rw [List.all_cons,List.all_nil,Bool.and_true] at a
 rw [List.all_cons,a,b];rfl
theorem gE{n m i q:Nat}{an ts refs lo:List Nat}{c:Bool}{ws:List Look}{a b:Tr DObj}(hr:∀ j∈refs,j<n)(hi:ts.contains i=true)(h2:Pl n m ws [⟨q,ts,a,b⟩]=true):Pl n m (Gg i an true c refs n lo ws) [⟨q,ts,a,b⟩]=true:=rT (λj hj=>⟨hr j hj,λp hp=>.inl (by rw [Aj.1 hp];exact hi)⟩) h2
theorem C44{z w u:Value}{a b:DV}(h1:a.okC=true/\a.cells=[a])(h2:b.okC=true/\b.cells=[b]):Ho [DV.v z,DV.v w,DV.v u] [(0,1,a),(1,1,b)]=some [a,b,.v u]:=by
 simp [Ho,h1.1,h1.2,h2.1,h2.2]
theorem Cm1{z:List Value}{a b c:DV}(hz:z.length=3):Ho (List.replicate 1 (z.map DV.v)).flatten [(0,3,.agg [a,b,c])]=some [a,b,c]:=by
 match z,hz with
 | [u,v,w],_=>rfl
theorem wM{a b:DV}{x:Bool}{f:Nat->Bool}(h1:Hh a f)(h2:Hh b f):Hh (.agg [a,b,bv x]) f:=λid hid=>by
 have:id∈a.refs\/id∈b.refs:=by simpa [DV.refs,DV.refsL,bv] using hid
 exact this.elim (h1 id) (h2 id)
section
variable {hp:Tr DObj} {nx T H:Nat} {nd:DV} {S:PTree} (k:Nat) (K:DV->Tr DObj->Nat->Prop)
end
end Go.DD

/- Contracts: a version is added, where some are reclaimed. Conditions: those that each theorem states. -/
namespace Go.DD
open Go Go.Proofs Go.Sort
namespace GTree
def add(S:GTree)(b:ByteArray)(c:List PCell)(ps:List Int):GTree:={ S with vers:=S.vers ++ [⟨c,ps,false⟩],heads:=Pv S.heads b ((S.vers.length+1:Nat):Int) }
section
variable {S:GTree} {b:ByteArray} {c:List PCell} {ps:List Int}
theorem Ct9{v:Nat}(hv:v<S.vers.length):(S.add b c ps).vers[v]?=S.vers[v]?:=Ci hv
theorem Cu0:(S.add b c ps).vers[S.vers.length]?=some ⟨c,ps,false⟩:=by
 show (S.vers ++ [(⟨c,ps,false⟩:GVer)])[S.vers.length]?=_
 rw [Hu (Ag _),Nat.sub_self];rfl
theorem D6{v:Nat}(hv:v<=S.vers.length):(S.add b c ps).at' v=S.at' v/\(S.add b c ps).parG v=S.parG v/\(S.add b c ps).isG v=S.isG v:=by
 cases v with
 | zero=>exact ⟨rfl,rfl,rfl⟩
 | succ v=>
  have e:=Ct9 (S:=S) (b:=b) (c:=c) (ps:=ps) (v:=v) (by omega)
  refine ⟨?_,?_,?_⟩
  .show (match (S.add b c ps).vers[v]? with
    | some x=>x.cells
    | none=>[])=_
   rw [e];rfl
  .show (match (S.add b c ps).vers[v]? with
    | some x=>x.par
    | none=>[])=_
   rw [e];rfl
  .show (match (S.add b c ps).vers[v]? with
    | some x=>x.gone
    | none=>false)=_
   rw [e];rfl
theorem at_new:(S.add b c ps).at' (S.vers.length+1)=c/\(S.add b c ps).parG (S.vers.length+1)=ps/\(S.add b c ps).isG (S.vers.length+1)=false:=by
 have e:=Cu0 (S:=S) (b:=b) (c:=c) (ps:=ps)
 refine ⟨?_,?_,?_⟩
 .show (match (S.add b c ps).vers[S.vers.length]? with
   | some x=>x.cells
   | none=>[])=_
  rw [e]
 .show (match (S.add b c ps).vers[S.vers.length]? with
   | some x=>x.par
   | none=>[])=_
  rw [e]
 .show (match (S.add b c ps).vers[S.vers.length]? with
   | some x=>x.gone
   | none=>false)=_
  rw [e]
theorem Bn3(h:S.OK):∀ {m v:Nat},v<=S.vers.length->(S.add b c ps).supF m v=S.supF m v
 | 0,_,_=>rfl
 | m+1,v,hv=>by
  obtain ⟨_,e2,_⟩:=D6 (S:=S) (b:=b) (c:=c) (ps:=ps) hv
  show (match (S.add b c ps).parG v with
   | []=>0
   | p::_=>if (S.add b c ps).isG p.toNat=true then (S.add b c ps).supF m p.toNat else p.toNat)=match S.parG v with
   | []=>0
   | p::_=>if S.isG p.toNat=true then S.supF m p.toNat else p.toNat
  rw [e2]
  cases hp:S.parG v with
  | nil=>rfl
  | cons q l=>
   have RH:1<=v:=by
    cases v with
    | zero=>cases hp
    | succ v=>omega
   have hq:=h.p v RH hv q (by rw [hp];simp)
   show (if (S.add b c ps).isG q.toNat=true then (S.add b c ps).supF m q.toNat else q.toNat)=if S.isG q.toNat=true then S.supF m q.toNat else q.toNat
   rw [(D6 (S:=S) (b:=b) (c:=c) (ps:=ps) (v:=q.toNat) (by omega)).2.2,Bn3 h (by omega)]
theorem nodes_add(h:S.OK)(hp:∀ q∈ps,1<=q/\q<=(S.vers.length:Nat))(hg:S.isG (ps.headD 0).toNat=false):(S.add b c ps).nodes=S.nodes ++ [⟨Rw (Hf [S.at' (ps.headD 0).toNat,c]),ps,false⟩]:=by
 have hl:(S.add b c ps).vers.length=S.vers.length+1:=by
  show (S.vers ++ [(⟨c,ps,false⟩:GVer)]).length=_
  rw [Ao];rfl
 unfold nodes
 rw [hl,Ih,Cn]
 congr 1
 .refine El λi hi=>?_
  have Ic:i<S.vers.length:=Sb.1 hi
  obtain ⟨e1,e2,e3⟩:=D6 (S:=S) (b:=b) (c:=c) (ps:=ps) (v:=i+1) (by omega)
  have e4:(S.add b c ps).sup (i+1)=S.sup (i+1):=Bn3 h (by omega)
  have e5:=(D6 (S:=S) (b:=b) (c:=c) (ps:=ps) (v:=S.sup (i+1)) (by have:=sup_lt h (v:=i+1) (by omega) (by omega);omega)).1
  unfold nodeAt
  rw [e1,e2,e3,e4,e5]
 .obtain ⟨e1,e2,e3⟩:=at_new (S:=S) (b:=b) (c:=c) (ps:=ps)
  have e4:(S.add b c ps).sup (S.vers.length+1)=(ps.headD 0).toNat:=by
   show (match (S.add b c ps).parG (S.vers.length+1) with
    | []=>0
    | p::_=>if (S.add b c ps).isG p.toNat=true then (S.add b c ps).supF S.vers.length p.toNat else p.toNat)=_
   rw [e2]
   cases ps with
   | nil=>rfl
   | cons q l=>
    have hq:=hp q (by simp)
    show (if (S.add b c (q::l)).isG q.toNat=true then _ else q.toNat)=q.toNat
    rw [(D6 (v:=q.toNat) (by omega)).2.2,Ae (by rw [show S.isG q.toNat=false from hg];simp)]
  have hle:(ps.headD 0).toNat<=S.vers.length:=by
   cases ps with
   | nil=>exact Fo _
   | cons q l=>have hq:=hp q (by simp);show q.toNat<=_;omega
  show [nodeAt _ _]=_
  unfold nodeAt
  rw [e1,e2,e3,e4,(D6 hle).1,Ae (by simp)]
theorem OK.add(h:S.OK)(hc:Mf ⟨S.dims,S.attrs,c⟩=0/\AOK ⟨S.dims,S.attrs,c⟩/\c.length<=255)(hp:∀ q∈ps,1<=q/\q<=(S.vers.length:Nat))(hn:S.vers.length+1<200)(hl:ps.length<10):(S.add b c ps).OK:=by
 have hlen:(S.add b c ps).vers.length=S.vers.length+1:=by
  show (S.vers ++ [(⟨c,ps,false⟩:GVer)]).length=_
  rw [Ao];rfl
 have Lw:∀ x∈(S.add b c ps).vers,x∈S.vers\/x=⟨c,ps,false⟩:=λx hx=>by
  rcases Ax.1 (show x∈S.vers ++ [(⟨c,ps,false⟩:GVer)] from hx) with hx | hx
  .exact .inl hx
  .exact .inr (by simpa using hx)
 refine ⟨λx hx=>?_,h.z,λv h1 h2 q hq=>?_,by rw [hlen];exact hn,λx hx=>?_,λx hx=>?_⟩
 .rcases Lw x hx with hx | rfl
  .exact h.c x hx
  .exact hc
 .by_cases h3:v<=S.vers.length
  .rw [(D6 h3).2.1] at hq
   exact h.p v h1 h3 q hq
  .have:v=S.vers.length+1:=by omega
   subst this
   rw [at_new.2.1] at hq
   have:=hp q hq
   omega
 .rcases Lw x hx with hx | rfl
  .exact h.l x hx
  .exact hl
 .rcases Bn2 hx with h1 | h1
  .have:=h.h x h1
   refine ⟨this.1,by rw [hlen];omega,?_⟩
   rw [(D6 (v:=x.2.toNat) (by omega)).2.2];exact this.2.2
  .rw [h1,hlen]
   refine ⟨by omega,by omega,?_⟩
   rw [show ((S.vers.length+1:Nat):Int).toNat=S.vers.length+1 by omega]
   exact at_new.2.2
end
end GTree
section
variable {hp:Tr DObj} {nx T H:Nat} {nd:DV} {S:GTree} (k:Nat) (K:DV->Tr DObj->Nat->Prop)
theorem C45(f n1:Nat)(b:ByteArray)(da dp:DV)(c:List PCell)(ps:List Int)(oI:n1<=nx)(h0:TreeG hp n1 T H nd S)(ha:AR hp (Bl nx) da ⟨S.dims,S.attrs,c⟩)(Gy:RL rInt hp (Bl nx) dp ps)(nZ:ps≠[]/\ps.length<10)(qU:∀ q∈ps,1<=q/\q<=(S.vers.length:Nat))(hc:Mf ⟨S.dims,S.attrs,c⟩=0/\AOK ⟨S.dims,S.attrs,c⟩/\c.length<=255)(hn:S.vers.length+1<200)(jN:S.isG (ps.headD 0).toNat=false)(hf:S.vers.length<=f)
  (hF:∀ An Bm,100<=(Ng S S.vers.length).length->Al hp nx An Bm->K (.tup [iv 0,iv 18]) An Bm)
  (hK:∀ An Bm Vb,Fr3 hp nx T H nd An Bm->(∀ j∈Vb.refs,nx<=j)->(∀ Cw Dt,Bm<=Dt->(∀ j,j<n1\/(nx<=j/\j<Bm)->Cw.get j=An.get j)->TreeG Cw Dt T H Vb (S.add b c ps))->K (.tup [iv ((S.vers.length+1:Nat):Int),iv 0]) An Bm):KW (kN (k+f+12)) (.fn 86) [.pt T 0,sv b,da,dp] hp nx K:=by
 obtain ⟨d,a,cc,rfl,r1,r2,r3⟩:=ha
 refine nN (Hl (by decide)) t86 (Ab rfl) λes e1 e2 he=>?_
 have a0:Ad es (.t .o)=.pt T 0:=he 0 _ rfl
 have a1:Ad es (.t (.l .o))=sv b:=he 1 _ rfl
 have a2:Ad es (.t (.r .o))=.agg [d,a,cc]:=he 2 _ rfl
 have a3:Ad es (.t (.l (.l .o)))=dp:=he 3 _ rfl
 unfold r86
 subst e1 e2
 have h:=h0.keep (Bm:=es.nx) ⟨oI,λ_ _=>rfl⟩
 simp only [↓Au]
 refine Xv (cs:=[d,a,cc]) (by rw [Ha,a2];exact AR.live r1 r2 r3) λEi Dn Dd=>?_
 simp only [bR] at Dn Dd
 have Zs:Al es.hp es.nx Ei (es.nx+1):=⟨by omega,λj hj=>Dd j (by omega)⟩
 simp only [As,↓Au,a0]
 refine Fh (A01 (k+f+9) _ (h.keep Zs) λCw Dt z2 Rj rl2=>?_)
 have Gu:=Rj.le
 have Dh:=Zs.trans Rj
 have h2:=h.keep Dh
 have g2:=(Rj.same es.nx (by omega)).trans Dn
 obtain ⟨_,_,_,_,lA⟩:=Qd g2
 obtain ⟨dd,aa,zz,hT,⟨f0,f3,f4,f1⟩,⟨l0,l1,l3,l4⟩,rd,ra⟩:=h2.ld
 have q1:=r3.ka (Ag _) Dh
 have qp:=Gy.ka (Ag _) Dh
 have aK:0<ps.length:=Lu.2 nZ.1
 have bq:∀ j,j<es.nx->j<Dt:=λj hj=>by omega
 have b3:∀ j,(j<Dt/\j≠T/\j≠H)->j<Dt:=λj hj=>hj.1
 have r:=h2.nl
 by_cases qY:100<=(Ng S S.vers.length).length
 .simp only [As,↓Au,bP,rl2.len,show decide ((100:Int)<=((Ng S S.vers.length).length:Int))=true from Ak (by omega)]
  exact hF _ _ qY Dh
 simp only [As,↓Au,bP,a0,a3,rl2.len,show decide ((100:Int)<=((Ng S S.vers.length).length:Int))=false from Ah (by omega),↓AM,Vk hT,eJ,f3,l3,yx qp aK,ints_at qp aK,jA qp bq,Cb1 qp bq,Lp (n0:=Dt) (m:=21) hT h2.th.2.1]
 have hq0:1<=ps[0]/\ps[0]<=(S.vers.length:Nat):=qU _ (Be aK)
 obtain ⟨n,N0⟩:=Vt (show 0<=ps[0] by omega)
 refine Ly rfl (Uy ?_)
 simp only [bR,Am,Az,N0]
 have hN:ps.headD 0=ps[0]:=by cases ps with
  | nil=>exact absurd rfl nZ.1
  | cons q l=>rfl
 have jS:(ps.headD 0).toNat=n:=by rw [hN,N0];rfl
 rw [jS] at jN
 refine Bn0 (f+3) k n _ _ _ (by omega) (by omega) jN (h2.keep (Al.ini Cw (by omega:Dt<=Dt+21))) λGn Dy z3 Ub mO QR=>?_
 have Iw:=Ub.le
 have Ev:=Dh.trans ((Al.ini Cw (by omega:Dt<=Dt+21)).trans Ub)
 have h3:=h.keep Ev
 have g3:=(Ub.same es.nx (by omega)).trans g2
 obtain ⟨⟨_,_,MU⟩,_,_,xQ,_⟩:=Qd g3
 have k3:∀ j,j<Dt->Gn.get j=Cw.get j:=λj hj=>Ub.same j (by omega)
 have az:∀ {an:List Nat},Hh z3 (λid=>Cp Dt 21 an Gn id)↔True:=D7 mO QR
 have q3:=r3.ka (Ag _) Ev
 have bq2:∀ j,j<es.nx->j<Dt:=λj hj=>by omega
 simp only [As,↓Au,Iw,az,MU,xQ,jA q3 bq2,Lp (n0:=Dt) (m:=21) g3 (show es.nx<Dt by omega)]
 refine Ly rfl (Uy ?_)
 simp only [bR,Am,Az]
 obtain ⟨sc,so,sl⟩:=h.ok.chk n
 obtain ⟨lO,Xz,hc3⟩:=hc
 refine yj (k+f+5) Dy _ _ _ z3 cc (S.at' n) c (Ag _) mO (q3.mono λj (hj:j<es.nx)=>by show j<Dy;omega) (by omega) (λe he=>?_) λFq Ma z4 Xu DL=>?_
 .rcases he with he | he
  .exact ⟨AE sc e he,(so.e e he).1,F6 sc e he,(so.e e he).2.1⟩
  .exact ⟨AE lO e he,(Xz.e e he).1,F6 lO e he,(Xz.e e he).2.1⟩
 have aM:=Xu.le
 have Mw:=Ev.trans Xu
 have k4:∀ j,j<Dt->Fq.get j=Cw.get j:=λj hj=>(Xu.same j (by omega)).trans (k3 j hj)
 have qp4:=Gy.ka (Ag _) Mw
 have oz4:∀ {an:List Nat},Hh z4 (λid=>Cp Dt 21 an Fq id)↔True:=D7 DL λj hj=>by (have:=(DL.refs j hj).1.1);omega
 simp only [As,↓Au,a3,aM,jA qp4 bq2]
 refine Ly rfl (Uy ?_)
 simp only [bR,Am,Az]
 refine xp (k+f+10) es.nx _ _ _ dp ps (by omega) qp4 (.inl nZ.1) (by omega) λGr Ia z5 bI rz5 rn5 _=>?_
 have Oi:=bI.le
 have Jp:=Mw.trans bI
 have k5:∀ j,j<Dt->Gr.get j=Cw.get j:=λj hj=>(bI.same j (by omega)).trans (k4 j hj)
 have EA:RL rInt Gr (λj=>Ma<=j/\j<Ia) z5 ps:=by
  rcases rz5 with ho | ⟨e,_⟩
  .exact ho.rl.mono λj hj=>hj.elim False.elim λh=>rn5 j h
  .exact absurd e nZ.1
 have oz5:∀ {an:List Nat},Hh z5 (λid=>Cp Dt 21 an Gr id)↔True:=D7 EA λj hj=>by have:=(rn5 j hj).1;omega
 have jG:=DL.keep (An:=Gr) λj hj=>bI.same j hj.2
 have GC:∀ {an:List Nat},Hh z4 (λid=>Cp Dt 21 an Gr id)↔True:=D7 jG λj hj=>by (have:=(jG.refs j hj).1.1);omega
 have qZ:=C44 (z:=.slice none 0 0) (w:=.slice none 0 0) (u:=.bool false) jG.ok EA.ok
 have aD:∀ an,Hh (.agg [z4,z5,bv false]) (λid=>Cp Dt 21 an Gr id):=λan=>wM (GC.2 trivial) (oz5.2 trivial)
 simp only [As,↓Au,bP,Oi,oz5,GC,EA.live,jG.live,S9,qZ,Ca,Bf (aD _)]
 refine PF (fl:=[z4,z5,bv false]) rfl (by simp only [Am,Az,Dc,bR,bP,VG (x:=false) (λj hj=>(jG.refs j hj).2) (λj hj=>(EA.refs j hj).2)];exact Cm1 (z:=[.slice none 0 0,.slice none 0 0,.bool false]) rfl) λIv cQ Ve=>?_
 simp only [bR] at cQ Ve
 have k6:∀ j,j<Dt->Iv.get j=Cw.get j:=λj hj=>(Ve j (by omega)).trans (k5 j hj)
 have wE:=jG.keep (An:=Iv) λj hj=>Ve j (by have:=hj.1;omega)
 have rl6:=EA.keep (An:=Iv) λj hj=>Ve j (by have:=hj.1;omega)
 have k60:∀ j,j<n1->Iv.get j=es.hp.get j:=λj hj=>(k6 j (by omega)).trans (Dh.same j (by omega))
 have on6:=h0.n.keep (An:=Iv) λj hj=>hj.elim (λh=>k60 j h.1) λh=>k60 j (h0.nr j h).1
 have r6:RL rNode Iv (λj=>j<Dt/\j≠T/\j≠H) nd (S.nodes):=on6.rl.mono λj hj=>hj.elim (λh=>⟨by have:=h.1;omega,h.2.1,h.2.2.1⟩) λhj=>h2.nr j hj
 simp only [As,↓Au,jA r6 b3]
 refine ⟨kY cQ rfl,?_⟩
 have hr:rNode.rd Iv (Bw Dy Ia) [z4,z5,bv false] ⟨Rw (Hf [S.at' n,c]),ps,false⟩:=rNode_rd.2 ⟨z4,z5,rfl,wE.mono λj hj=>⟨hj.1,by have:=hj.2;omega⟩,rl6.mono λj hj=>⟨by have:=hj.1;omega,hj.2⟩⟩
 have N3:S.nodes.length=S.vers.length:=S.nodes_len
 refine Ly rfl (eL (R:=rNode) (p:=λj=>j<n1/\j≠T/\j≠H/\j∉nd.refs) (p2:=Bw Dy Ia) (d:=nd) (d2:=.ms (Dt+16) 0 1 3) (l:=S.nodes) (m:=[⟨Rw (Hf [S.at' n,c]),ps,false⟩]) (by simp only [bR,bP]) on6 (by simp only [Dc,bR,bP];exact Yb cQ) ⟨_,UE (R:=rNode) cQ hr,Rows.one hr⟩ rfl rfl (by rw [Bk];omega) (by decide) λKl Lr h7=>?_)
 simp only [bR] at Lr h7
 have Q5:=h2.th
 have o7:=h7 (λj=>(j<n1\/(es.nx<=j/\j<Ia))/\j≠T/\j≠H/\j∉nd.refs) λj hj=>by
  rcases hj with hj | hj
  .exact ⟨⟨.inl hj.1,hj.2⟩,by omega,hj.2.2.2⟩
  .have h1:=hj.1
   have zZ:=hj.2
   have Tx:j∉nd.refs:=λh=>by have:=(h2.nr j h).1;omega
   exact ⟨⟨.inr ⟨by omega,zZ⟩,by omega,by omega,Tx⟩,by omega,Tx⟩
 have k7:∀ j,j<Dt->j∉nd.refs->Kl.get j=Cw.get j:=λj hj KO=>(Lr j (by omega) KO).trans (k6 j hj)
 have hTn:T∉nd.refs:=λh=>(h2.nr T h).2.1 rfl
 have hHn:H∉nd.refs:=λh=>(h2.nr H h).2.2 rfl
 have MO:=(k7 T Q5.2.1 hTn).trans hT
 obtain ⟨_,_,_,lK,_⟩:=o7.get
 simp only [As,↓Au,bP,↓AM,Vk MO,eJ,iN (k:=3) MO,Lp (n0:=Dt) (m:=21) MO Q5.2.1]
 refine ⟨by omega,(rX Kl Ia).2 ⟨by rw [lK];rfl,.inr (.inl (by omega))⟩,?_⟩
 refine Ly rfl (lS (id:=T) (off:=3) (by simp only [bR]) MO (by simp only [Ha,bR];exact Yb lK) (bO _ _ _ _) (by simp) λKi iE eD=>?_)
 simp only [bR] at iE eD
 simp only [As,↓Au]
 have lg:∀ j∈dp.refs,j<Dt:=λj hj=>by (have:=(Gy.refs j hj).1;have:j<es.nx:=this);omega
 have eG:∀ off,∀ j∈(DV.pt es.nx off).refs,j<Dt:=λoff j hj=>by (have:j=es.nx:=by simpa [DV.refs] using hj);omega
 have iM:∀ off,∀ j∈(DV.pt T off).refs,j<Dt:=λoff j hj=>by (have:j=T:=by simpa [DV.refs] using hj);omega
 have hP:Tq Dt Cw [⟨14,[13,12,9,11,5,8,7,6,10],Fq,Gr⟩,⟨12,[9,11,5,8,7,6,10],Gn,Fq⟩,⟨9,[5,8,7,6],Cw,Gn⟩]:=rO k4 k5 (rO k3 k4 (rO (λ_ _=>rfl) k3 xb))
 have ok:∀ {i:Nat} {an lo:List Nat} {c:Bool} {ws:List Look} {off:Nat},Pl Dt 21 ws _=true->Pl Dt 21 (Gg i an true c (DV.pt T off).refs Dt lo ws) _=true:=λh=>Cl9 h2 (Ag _) hP h
 refine ⟨Cm0 (gE lg rfl (gE (eG _) rfl (gE (eG _) rfl (gE (iM _) rfl (gE (iM _) rfl (gE (iM _) rfl (gE (iM _) rfl (gE (iM _) rfl rfl)))))))) (Cm0 (gE lg rfl (gE (eG _) rfl (gE (eG _) rfl (gE (iM _) rfl (gE (iM _) rfl (gE (iM _) rfl (gE (iM _) rfl ?_))))))) (VH hP lg (qK (id:=es.nx) (λj hj=>by simpa [DV.refs] using hj) (by omega) (λq hq=>⟨((hP q hq).1 _ (by omega)).trans g2,((hP q hq).2 _ (by omega)).trans g2⟩) (AR.same r1 r2 r3) (VH hP (eG _) (ok (ok (ok (ok (ok rfl))))))))),?_⟩
 .exact rT (λj hj=>⟨iM _ j hj,λq hq=>.inr (.inr (by
   have jj:j=T:=by simpa [DV.refs] using hj
   rw [jj,Aj.1 hq,Ae (by simp)]
   simp [rL,MO,(k6 T Q5.2.1).trans hT]))⟩) rfl
 generalize Um:DV.ms Ia 0 (S.nodes ++ [(⟨Rw (Hf [S.at' n,c]),ps,false⟩:PNode)]).length rNode.e=Vb at *
 have R1:Ki.get T=some (.row _ [dd,aa,zz,Vb,.mp H]):=iE
 have k8:∀ j,j<Dt->j≠T->j∉nd.refs->Ki.get j=Cw.get j:=λj hj jj KO=>(eD j jj).trans (k7 j hj KO)
 obtain ⟨ck,X6,hH,hM,mh⟩:=h2.m
 have nw:=(k8 H Q5.2.2 (λe=>Q5.1 e.symm) hHn).trans hH
 have lT4:Fy Ki none (.pt T 4)=some (.mp H):=Od R1 rfl
 have lT3:Fy Ki none (.pt T 3)=some Vb:=Od R1 rfl
 have o8:=o7.keep (An:=Ki) λj hj=>eD j (by
  rcases hj with hj | hj
  .exact hj.2.1
  .have:j=Ia:=by rw [<- Um] at hj;simpa [DV.refs] using hj
   omega)
 have KF:=o8.rl.len
 simp only [As,bP,a0,a1,↓AM,Vk R1,eJ,iN (k:=3) R1,iN (k:=4) R1,lT3,lT4,KF,Lp (n0:=Ia+1) (m:=11) R1 (show T<Ia+1 by omega),Lp (n0:=Ia+1) (m:=11) nw (show H<Ia+1 by omega)]
 have fK:∀ j∈Vb.refs,j=Ia:=λj hj=>by rw [<- Um] at hj;simpa [DV.refs] using hj
 refine ⟨λj hj=>(rX Ki j).2 ⟨(o8.rl.refs j hj).2,.inl (by have:=fK j hj;omega)⟩,?_⟩
 refine Ly rfl (Ct8 (im:=H) (ck:=ck) (es':=X6) (hs:=S.heads) (s:=b) (n:=((S.vers.length+1:Nat):Int)) (by simp only [Dc,bR,bP,iZ nw]) nw hM mh (by simp only [Dc,bR,bP,Sa]) (by simp only [Dc,bR,bP,Sa,Ao,Bk,N3]) λLi ss R6 Qv mo Ps=>?_)
 simp only [bR] at Qv Ps
 have SN:Li.get T=some (.row _ [dd,aa,zz,Vb,.mp H]):=(Ps T Q5.1).trans R1
 have cb:Fy Li none (.pt T 3)=some Vb:=Od SN rfl
 have o9:=o8.keep (An:=Li) λj hj=>Ps j (by
  rcases hj with hj | hj
  .exact hj.2.2.1
  .have:=fK j hj;omega)
 have KE:=o9.rl.len
 simp only [As,↓Au,bP,a0,↓Zt,Vk SN,eJ,iN (k:=3) SN,cb,KE,Ao,Bk,N3]
 have k9:∀ j,j<Dt->j≠T->j≠H->j∉nd.refs->Li.get j=Cw.get j:=λj h1 h2 h3 h4=>(Ps j h3).trans (k8 j h1 h2 h4)
 obtain ⟨d',a',zz',e1,rd0,ra0,rzz⟩:=h0.r
 rw [<- Dh.same T h.th.2.1,hT] at e1
 cases e1
 refine hK Li (Ia+1+11) Vb ⟨by omega,λj hj h1 h2 h3=>(k9 j (by omega) h1 h2 h3).trans (Dh.same j hj)⟩ (λj hj=>by (have:=fK j hj);omega) λhpF nxF hnF RV=>?_
 have kk:∀ j,(j<n1/\j≠T/\j≠H/\j∉nd.refs)->hpF.get j=es.hp.get j:=λj hj=>(RV j (.inl hj.1)).trans ((k9 j (by omega) hj.2.1 hj.2.2.1 hj.2.2.2).trans (Dh.same j (by omega)))
 have up:∀ j,(j<n1/\j≠T/\j≠H/\j∉nd.refs)->(j<nxF/\j≠T/\j≠H/\j∉Vb.refs):=λj hj=>⟨by have:=hj.1;omega,hj.2.1,hj.2.2.1,λh=>by (have:=fK j h);have:=hj.1;omega⟩
 have hT0:=h0.th
 refine ⟨⟨Q5.1,by omega,by omega⟩,⟨dd,aa,zz,(RV T (.inl hT0.2.1)).trans SN,(rd0.keep kk).mono up,(ra0.keep kk).mono up,(rzz.keep kk).mono up⟩,⟨ss,R6,(RV H (.inl hT0.2.2)).trans Qv,mo⟩,?_,λj hj=>by (have:=fK j hj);omega,h.ok.add ⟨lO,Xz,hc3⟩ qU hn nZ.2⟩
 rw [GTree.nodes_add h.ok qU (by rw [jS];exact jN),jS]
 exact (o9.keep (An:=hpF) λj hj=>RV j (hj.elim (λh=>h.1.imp id λh=>⟨h.1,by omega⟩) λh=>.inr (by (have:=fK j h);omega))).mono λj hj=>⟨by (have:=hj.1);omega,hj.2.1,hj.2.2.1,λh=>by (have:=fK j h);have:=hj.1;omega⟩
end
end Go.DD

/- Contracts: a branch is made. Conditions: those that each theorem states. -/
namespace Go.DD
open Go Go.Proofs Go.Sort
section
variable {call:Bg} {es:ES} {dst:Option Pa} {q:Hold (ES->Prop)}
end
section
variable {hp:Tr DObj} {nx T H:Nat} {nd:DV} {S:PTree} (k:Nat) (K:DV->Tr DObj->Nat->Prop)
end
end Go.DD

/- Contracts: a version is given. Conditions: those that each theorem states. -/
namespace Go.DD
open Go Go.Proofs Go.Sort
section
variable {hp:Tr DObj} {nx T H:Nat} {nd:DV} {S:PTree} (k:Nat) (K:DV->Tr DObj->Nat->Prop)
end
end Go.DD

/- Contracts: a change is committed. Conditions: those that each theorem states. -/
namespace Go.DD
open Go Go.Proofs Go.Sort
section
variable {hp:Tr DObj} {nx T H:Nat} {nd:DV} {S:PTree} (k:Nat) (K:DV->Tr DObj->Nat->Prop)
end
end Go.DD

/- Contracts: a branch, a commit, a version that is given; where some are reclaimed. Conditions: those that each theorem states. -/
namespace Go.DD
open Go Go.Proofs Go.Sort
section
variable {hp:Tr DObj} {nx T H:Nat} {nd:DV} {S:GTree} (k:Nat) (K:DV->Tr DObj->Nat->Prop)
end
section
variable {hp:Tr DObj} {nx T H:Nat} {nd:DV} {S:GTree} (k:Nat) (K:DV->Tr DObj->Nat->Prop)
theorem C46(f v:Nat)(h:TreeG hp nx T H nd S)(hv:1<=v/\v<=S.vers.length)(hg:S.isG v=false)(hf:v<=f)
  (hK:∀ An Bm d',Al hp nx An Bm->AR An (Bw nx Bm) d' ⟨S.dims,S.attrs,S.at' v⟩->AOw An d'->K (.tup [d',iv 0]) An Bm):KW (kN (k+f+20)) (.fn 31) [.pt T 0,iv (v:Nat)] hp nx K:=by
 refine bW (Hl (by decide)) t31 (Ab rfl) λes e1 e2 he=>?_
 have a0:Ad es (.t .o)=.pt T 0:=he 0 _ rfl
 have a1:Ad es (.t (.l .o))=iv (v:Nat):=he 1 _ rfl
 unfold ZC
 subst e1 e2
 simp only [↓Au]
 refine Rz λEi Dn Dd=>?_
 simp only [bR] at Dn Dd
 have Zs:Al es.hp es.nx Ei (es.nx+1):=⟨by omega,λj hj=>Dd j (by omega)⟩
 have h1:=h.keep Zs
 simp only [As,↓Au,a0]
 refine Fh (Yy (k+f+18) _ h1 ?_)
 simp only [As,↓Au,a0,a1]
 refine Fh (yi (k+f+17) _ v h1 hv ?_)
 rw [hg,Ae (by simp)]
 simp only [As,↓Au,a0,a1]
 refine Fh (Bn1 k _ f v h1 hv.2 hg hf λIv It d6 Zr fR jO=>?_)
 have Rf:=Zr.le
 obtain ⟨dd,da,Ya,rfl,v1,v2,v3⟩:=fR
 have x0:=Xp (e:=0) v1 v2 v3
 have x1:Fb Iv (.tup [.agg [dd,da,Ya],iv 0]) 1=some (iv 0):=Ru
 have R2:=(Zr.same es.nx (by omega)).trans Dn
 simp only [As,↓Au,x0,x1]
 refine Qx (n:=3) (id:=es.nx) (ds:=[dd,da,Ya]) (by simp only [bR]) R2 (by simp only [Ha,bR];exact AR.live (x:=⟨S.dims,S.attrs,S.at' v⟩) v1 v2 v3) rfl rfl λKl Pt Lr=>?_
 simp only [bR] at Pt Lr
 have up:∀ j,Bw (es.nx+1) It j->Bw es.nx It j:=λj hj=>⟨by have:=hj.1;omega,hj.2⟩
 have kp:∀ j,Bw (es.nx+1) It j->Kl.get j=Iv.get j:=λj hj=>Lr j (by have:=hj.1;omega)
 simp only [As,↓Au]
 exact ⟨_,_,uL (by simp only [bR,bP]) Pt rfl,by rw [S8];simp only [bR,bP,Sa],hK _ _ _ ⟨by omega,λj hj=>(Lr j (by omega)).trans ((Zr.same j (by omega)).trans (Zs.same j hj))⟩ ⟨dd,da,Ya,rfl,(v1.keep kp).mono up,(v2.keep kp).mono up,(v3.keep kp).mono up⟩ (.of ((jO _ _ _ rfl).keep λj hj=>kp j (v3.refs j hj).1))⟩
end
end Go.DD

/- Contracts: a commit, where some versions are reclaimed. Conditions: those that each theorem states. -/
namespace Go.DD
open Go Go.Proofs Go.Sort
section
variable {hp:Tr DObj} {nx T H:Nat} {nd:DV} {S:GTree} (k:Nat) (K:DV->Tr DObj->Nat->Prop)
theorem B29(f:Nat)(b:ByteArray)(v:Nat)(ls:DV)(l:List PCell)(h:TreeG hp nx T H nd S)(hb:Te S.heads b=some ((v:Nat):Int))(hv:1<=v/\v<=S.vers.length)(hL:RL rChange hp (λj=>j<nx/\j≠T/\j≠H/\j∉nd.refs) ls l)(hl:(S.at' v).length+l.length<=255/\l.length<eY)(Yl:∀ c∈l,c.pos.length<900000/\c.vals.length<900000/\∀ v∈c.vals,Ww v)(hn:S.vers.length+1<200)(hg:S.isG v=false)(hf:S.vers.length<=f)
  (hE:∀ An Bm e r,uO ⟨S.dims,S.attrs,S.at' v⟩ l e r->e≠0->Al hp nx An Bm->K (.tup [iv 0,iv e]) An Bm)
  (hS:∀ An Bm r,uO ⟨S.dims,S.attrs,S.at' v⟩ l 0 r->Rn ⟨S.dims,S.attrs,S.at' v⟩ r=true->Al hp nx An Bm->K (.tup [iv 0,iv 6]) An Bm)
  (hF:∀ An Bm r,uO ⟨S.dims,S.attrs,S.at' v⟩ l 0 r->Rn ⟨S.dims,S.attrs,S.at' v⟩ r=false->100<=(Ng S S.vers.length).length->Al hp nx An Bm->K (.tup [iv 0,iv 18]) An Bm)
  (hK:∀ An Bm Vb cs,uO ⟨S.dims,S.attrs,S.at' v⟩ l 0 ⟨S.dims,S.attrs,cs⟩->Rn ⟨S.dims,S.attrs,S.at' v⟩ ⟨S.dims,S.attrs,cs⟩=false->Mf ⟨S.dims,S.attrs,cs⟩=0->AOK ⟨S.dims,S.attrs,cs⟩->Fr3 hp nx T H nd An Bm->(∀ j∈Vb.refs,nx<=j)->TreeG An Bm T H Vb (S.add b cs [(v:Int)])->K (.tup [iv ((S.vers.length+1:Nat):Int),iv 0]) An Bm) :
  KW (kN (k+f+21)) (.fn 29) [.pt T 0,sv b,iv (v:Nat),ls] hp nx K:=by
 obtain ⟨hl,N3⟩:=hl
 refine nN (Hl (by decide)) t29 (Ab rfl) λes e1 e2 he=>?_
 have a0:Ad es (.t .o)=.pt T 0:=he 0 _ rfl
 have a1:Ad es (.t (.l .o))=sv b:=he 1 _ rfl
 have a2:Ad es (.t (.r .o))=iv (v:Nat):=he 2 _ rfl
 have a3:Ad es (.t (.l (.l .o)))=ls:=he 3 _ rfl
 unfold r29
 subst e1 e2
 obtain ⟨d,a,z,hT,⟨f0,f3,f4,f1⟩,⟨l0,l1,l3,l4⟩,_⟩:=h.ld
 obtain ⟨ck,X6,hH,hM,_⟩:=h.m
 simp only [As,↓Au,a0]
 refine Fh (Yy (k+f+19) _ h ?_)
 simp only [As,↓Au,bP,a0,a1,↓Zt,Vk hT,eJ,f4,l4,↓mD]
 refine Ct7 (im:=H) (ck:=ck) (es':=X6) (hs:=S.heads) (s:=b) (by simp only [Dc,bR,bP,iZ hH]) hH hM (by simp only [Dc,bR,bP,Sa]) ?_
 rw [hb]
 have x0:Fb es.hp (.tup [iv ((some ((v:Nat):Int)).getD 0),bv (some ((v:Nat):Int)).isSome]) 0=some (iv (v:Nat)):=rfl
 have x1:Fb es.hp (.tup [iv ((some ((v:Nat):Int)).getD 0),bv (some ((v:Nat):Int)).isSome]) 1=some (bv true):=rfl
 simp only [As,↓Au,x0,x1,a0,a2,show decide (¬ (v:Int)=(v:Int))=false by simp,show decide (¬ v=v)=false by simp]
 refine Fh (Bn1 k _ (f+1) v h hv.2 hg (by omega) λGn Dy d3 Ub pF JN=>?_)
 have Iw:=Ub.le
 obtain ⟨dd,da,dc,rfl,v1,v2,v3⟩:=pF
 have z0:=Xp (e:=0) v1 v2 v3
 have z1:Fb Gn (.tup [.agg [dd,da,dc],iv 0]) 1=some (iv 0):=Ru
 simp only [As,↓Au,z0,z1]
 refine Rz λFq Kf Fl=>?_
 simp only [bR] at Kf Fl
 have w1:=v1.keep (An:=Fq) λj hj=>Fl j (by have:=hj.2;omega)
 have w2:=v2.keep (An:=Fq) λj hj=>Fl j (by have:=hj.2;omega)
 have w3:=v3.keep (An:=Fq) λj hj=>Fl j (by have:=hj.2;omega)
 simp only [As,↓Au]
 refine Qx (n:=3) (id:=Dy) (ds:=[dd,da,dc]) (by simp only [bR]) Kf (by simp only [Ha,bR];exact AR.live (x:=⟨S.dims,S.attrs,S.at' v⟩) w1 w2 w3) rfl rfl λGr Qw Jd=>?_
 simp only [bR] at Qw Jd
 have bI:Al Gn Dy Gr (Dy+1):=⟨by omega,λj hj=>by rw [Jd j (by omega),Fl j (by omega)]⟩
 have zY:=Ub.trans bI
 obtain ⟨_,_,_,_,lA⟩:=Qd Qw
 have hL5:=hL.keep (An:=Gr) λj hj=>zY.same j hj.1
 have y1:=v1.keep (An:=Gr) λj hj=>bI.same j hj.2
 have y2:=v2.keep (An:=Gr) λj hj=>bI.same j hj.2
 have y3:=v3.keep (An:=Gr) λj hj=>bI.same j hj.2
 obtain ⟨sc,so,sl⟩:=h.ok.chk v
 simp only [As,↓Au,a3,lA]
 refine Fh (Bm5 (k+f+1) (Dy+1) _ _ _ _ ls ⟨S.dims,S.attrs,S.at' v⟩ l (Ag _) ⟨dd,da,dc,rfl,y1.mono λj hj=>by (have:=hj.2;show j<Dy+1);omega,y2.mono λj hj=>by (have:=hj.2;show j<Dy+1);omega,y3.mono λj hj=>by (have:=hj.2;show j<Dy+1);omega⟩ (hL5.mono λj hj=>by (have:=hj.1;show j<Dy+1);omega) so ⟨by show _+l.length<=_;(have:(⟨S.dims,S.attrs,S.at' v⟩:PArr).cells.length=(S.at' v).length:=rfl);omega,N3⟩ Yl λIv It d6 r6 e6 Zr fR Q4 jO=>?_)
 have Rf:=Zr.le
 have ha6:=zY.trans Zr
 have g6:=(Zr.same Dy (by omega)).trans Qw
 obtain ⟨QV,QU,QT,rfl,u1,u2,u3⟩:=fR
 have t0:=Xp (e:=e6) u1 u2 u3
 have t1:Fb Iv (.tup [.agg [QV,QU,QT],iv e6]) 1=some (iv e6):=Ru
 simp only [As,↓Au,t0,t1]
 refine Rz λKl Pt Lr=>?_
 simp only [bR] at Pt Lr
 have i1:=u1.keep (An:=Kl) λj hj=>Lr j (by have:=hj.2;omega)
 have i2:=u2.keep (An:=Kl) λj hj=>Lr j (by have:=hj.2;omega)
 have i3:=u3.keep (An:=Kl) λj hj=>Lr j (by have:=hj.2;omega)
 simp only [As,↓Au]
 refine Qx (n:=3) (id:=It) (ds:=[QV,QU,QT]) (by simp only [bR]) Pt (by simp only [Ha,bR];exact AR.live (x:=r6) i1 i2 i3) rfl rfl λKi iE eD=>?_
 simp only [bR] at iE eD
 have bH:Al Iv It Ki (It+1):=⟨by omega,λj hj=>by rw [eD j (by omega),Lr j (by omega)]⟩
 have ha8:=ha6.trans bH
 have g8:=(bH.same Dy (by omega)).trans g6
 obtain ⟨_,_,_,_,lA8⟩:=Qd g8
 obtain ⟨_,_,_,_,lB8⟩:=Qd iE
 by_cases he:e6=0
 .have pG:uO ⟨S.dims,S.attrs,S.at' v⟩ l 0 r6:=he ▸ Q4
  have Rt:Jh S.dims S.attrs l=0/\∃ m,m.Perm l/\Ky m/\r6=⟨S.dims,S.attrs,Pw m (S.at' v)⟩:=by
   rcases Q4 with ⟨_,h1,_⟩ | ⟨_,h1,h2,_⟩ | ⟨_,_,_,h1,_⟩ | ⟨_,h1,_,_,m,h2,h3,h4⟩
   .omega
   .exact absurd (h2.symm.trans he) h1
   .omega
   .exact ⟨h1,m,h2,h3,h4⟩
  obtain ⟨Xm,m,iq,ik,rfl⟩:=Rt
  have hy:=Bm4 (x:=⟨S.dims,S.attrs,S.at' v⟩) sc Xm iq ik (by show _+l.length<=_;(have:(⟨S.dims,S.attrs,S.at' v⟩:PArr).cells.length=(S.at' v).length:=rfl);omega)
  have V2:=mX (x:=⟨S.dims,S.attrs,S.at' v⟩) so iq (by show _+l.length<=_;(have:(⟨S.dims,S.attrs,S.at' v⟩:PArr).cells.length=(S.at' v).length:=rfl);omega) Yl
  have hol:(Pw m (S.at' v)).length<=255:=by
   have h1:=Y4 m (S.at' v)
   have h2:=iq.length_eq
   omega
  simp only [As,↓Au,show decide (¬ e6=0)=false by simp [he],lA8,lB8]
  have c1:=y1.keep (An:=Ki) λj hj=>(bH.same j (by have:=hj.2;omega)).trans (Zr.same j (by have:=hj.2;omega))
  have c2:=y2.keep (An:=Ki) λj hj=>(bH.same j (by have:=hj.2;omega)).trans (Zr.same j (by have:=hj.2;omega))
  have c3:=y3.keep (An:=Ki) λj hj=>(bH.same j (by have:=hj.2;omega)).trans (Zr.same j (by have:=hj.2;omega))
  have e1:=u1.keep (An:=Ki) λj hj=>bH.same j hj.2
  have e2:=u2.keep (An:=Ki) λj hj=>bH.same j hj.2
  have e3:=u3.keep (An:=Ki) λj hj=>bH.same j hj.2
  refine Fh (UP (k+f+12) (It+1) _ _ _ _ _ ⟨S.dims,S.attrs,S.at' v⟩ ⟨S.dims,S.attrs,Pw m (S.at' v)⟩ (Ag _) ⟨dd,da,dc,rfl,c1.mono λj hj=>by (have:=hj.2;show j<It+1);omega,c2.mono λj hj=>by (have:=hj.2;show j<It+1);omega,c3.mono λj hj=>by (have:=hj.2;show j<It+1);omega⟩ ⟨QV,QU,QT,rfl,e1.mono λj hj=>by (have:=hj.2;show j<It+1);omega,e2.mono λj hj=>by (have:=hj.2;show j<It+1);omega,e3.mono λj hj=>by (have:=hj.2;show j<It+1);omega⟩ so V2 λLi Xw eI=>?_)
  have jd:=eI.le
  have SF:=ha8.trans eI
  have g9:=(eI.same It (by omega)).trans iE
  obtain ⟨_,_,_,_,lB9⟩:=Qd g9
  cases hs:Rn ⟨S.dims,S.attrs,S.at' v⟩ ⟨S.dims,S.attrs,Pw m (S.at' v)⟩ with
  | true=>
   simp only [As,↓Au,bP]
   exact hS _ _ _ pG hs SF
  | false=>
   simp only [As,↓Au,a0,a1,a2,lB9]
   refine eK (fl:=[iv (v:Nat)]) rfl (by simp only [Am,Az,Dc,bR,bP,Sa];rfl) λKd Xk Lx=>?_
   simp only [bR] at Xk Lx
   have Yo:Al es.hp es.nx Kd (Xw+1):=⟨by have:=SF.le;omega,λj hj=>by rw [Lx j (by have:=SF.le;omega),SF.same j hj]⟩
   have o1:=e1.keep (An:=Kd) λj hj=>(Lx j (by have:=hj.2;omega)).trans (eI.same j (by have:=hj.2;omega))
   have o2:=e2.keep (An:=Kd) λj hj=>(Lx j (by have:=hj.2;omega)).trans (eI.same j (by have:=hj.2;omega))
   have o3:=e3.keep (An:=Kd) λj hj=>(Lx j (by have:=hj.2;omega)).trans (eI.same j (by have:=hj.2;omega))
   have rP:RL rInt Kd (Bl (Xw+1)) (.ms Xw 0 1 1) [(v:Int)]:=(OL.ms (R:=rInt) (p:=Bl (Xw+1)) Xw _ [(v:Int)] Xk (Rows.one rfl)).rl.mono λj hj=>hj.elim id λh=>by
    have:j=Xw:=by simpa [DV.refs] using h
    show j<Xw+1
    omega
   simp only [As,↓Au]
   refine Fh (C45 k _ (f+8) _ b _ _ (Pw m (S.at' v)) [(v:Int)] (Ag _) (h.keep Yo) ⟨QV,QU,QT,rfl,o1.mono λj hj=>by (have:=hj.2;show j<Xw+1);omega,o2.mono λj hj=>by (have:=hj.2;show j<Xw+1);omega,o3.mono λj hj=>by (have:=hj.2;show j<Xw+1);omega⟩ rP ⟨by simp,by simp⟩ (λq hq=>by (have:q=(v:Int):=by simpa using hq);omega) ⟨hy,V2,hol⟩ hn (by rw [show ([(v:Int)].headD 0).toNat=v from Ee v];exact hg) (by omega) (λNq mZ qY OE=>?_) λNq mZ Vb fr Um ht=>?_)
   .have j0:Fb Nq (.tup [iv 0,iv 18]) 0=some (iv 0):=rfl
    have j1:Fb Nq (.tup [iv 0,iv 18]) 1=some (iv 18):=rfl
    simp only [As,↓Au,bP,j0,j1]
    exact hF _ _ _ pG hs qY (Yo.trans OE)
   have j0:Fb Nq (.tup [iv ((S.vers.length+1:Nat):Int),iv 0]) 0=some (iv ((S.vers.length+1:Nat):Int)):=rfl
   have j1:Fb Nq (.tup [iv ((S.vers.length+1:Nat):Int),iv 0]) 1=some (iv 0):=rfl
   simp only [As,↓Au,bP,j0,j1]
   exact hK _ _ Vb (Pw m (S.at' v)) pG hs hy V2 ⟨Dz Yo.le fr.le,λj h1 h2 h3 h4=>(fr.k j (by have:=Yo.le;omega) h2 h3 h4).trans (Yo.same j h1)⟩ (λj hj=>by (have:=Um j hj);have:=Yo.le;omega) (ht _ _ (Ag _) λ_ _=>rfl)
 .simp only [As,↓Au,bP,show decide (¬ e6=0)=true by simp [he]]
  exact hE _ _ _ _ Q4 he ha8
end
end Go.DD

/- Contracts: a new tree. Conditions: those that each theorem states. -/
namespace Go.DD
open Go Go.Proofs Go.Sort
section
variable {call:Bg} {es:ES} {dst:Option Pa} {n0 m i:Nat} {lo an:List Nat} {ws:List Look} {pp:List Past} {r:Hold (DSt->Prop)} {ps:List Pa}
theorem mF{wide c:Bool}{x:XU}{d:DV}{o:DObj}(hx:x es (n0+i)=some (d,.lay o))(h:∀ An,An.get (n0+i)=some o->(∀ j,j≠n0+i->An.get j=es.hp.get j)->r.val ⟨(ES.mk es.sl An es.nx).putE dst d,i::lo,Gg i an wide c (refsL es ps) n0 lo ws,pp⟩):S6 (Qa i an wide c dst x ps) call n0 m es lo ws pp:=by
 show TW _ _ _ _ _ _
 rw [Cg8]
 exact ⟨d,o,hx,h _ (by rw [F5];simp) λj hj=>by rw [F5];simp [hj]⟩
theorem WA{tgt:Nat}{x:XU}{Q:DSt->Prop} : TW (B5 i an tgt dst x ps) call n0 m ⟨es,lo,ws,pp⟩ Q↔@S6 (B5 i an tgt dst x ps) call n0 m es lo ws pp ⟨Q⟩:=Dg
theorem Cu1{t:Nat}{refs:List Nat}{c:Bool}(hr:∀ j∈refs,j=n0+t)(ht:t<m)(Gi:lo.contains t=true)(hp:∀ p∈pp,p.an.contains t=false)(h2:Pl n0 m ws pp=true):Pl n0 m (Gg i an true c refs n0 lo ws) pp=true:=by
 have e:Gg i an true c refs n0 lo ws=(refs.map λid=>⟨i,an,id,lo.contains (id-n0),c⟩)++ws:=by
  show Kw (bT _ refs) ws=_
  rw [dT,qL]
 rw [e]
 clear e
 induction refs with
 | nil=>exact h2
 | cons j refs ih=>
  refine okl_cons.2 ⟨λp hpp=>?_,ih λj hj=>hr j (Bh _ hj)⟩
  have hj:=hr j (by simp)
  subst hj
  rw [Ae (by simp;omega),Vn,hp p hpp]
  dsimp only
  rw [Vn,Gi]
  simp
end
theorem MR{a b c d e:Value}{x y z:DV}{i j n:Nat} : Ho [DV.v a,DV.v b,DV.v c,DV.v d,DV.v e] [(0,3,.agg [x,y,z]),(3,1,.ms i 0 n 3),(4,1,.mp j)]=some [x,y,z,.ms i 0 n 3,.mp j]:=rfl
theorem BH{es:ES}{T nid:Nat}{x:EO}{cs:List DV}(h:My es x=.agg cs):Nx T x es nid=some (.pt nid 0,.lay (.row T cs)):=by
 have e:Nx T x es nid=S1 nid T (My es x):=by unfold Nx S1;rw [Sq,PX,AI]
 rw [e,h];rfl
theorem C47{z w u:Value}{a:DV}(h1:a.okC=true/\a.cells=[a]):Ho [DV.v z,DV.v w,DV.v u] [(0,1,a)]=some [a,.v w,.v u]:=by
 simp [Ho,h1.1,h1.2]
section
variable (k:Nat) (hp:Tr DObj) (nx:Nat) (K:DV->Tr DObj->Nat->Prop)
end
end Go.DD

/- Contracts: a new tree, with stamps. Conditions: those that each theorem states. -/
namespace Go.DD
open Go Go.Proofs Go.Sort
theorem GR{es:ES}{t:Nat}{u v:Operand}{im ck:Nat}{es':List ME}{hs:List (ByteArray×Int)}{s:ByteArray}{n:Int}(e1:es.ds.ev (.tmp t)=.mp im)(hm:es.hp.get im=some (.mapo ck es'))(hk:Qc es' hs)(Ib:StO ck es')(e2:es.ds.ev u=sv s)(e3:es.ds.ev v=iv n):∃ Ua Cd,(∀ nid,Ba nid es.ds (.mup (.p .string) (.tmp t) u v)=some (.any,.wr im (.mapo Ua Cd)))/\Qc Cd (Pv hs s n)/\StO Ua Cd:=by
 have fin:∀ Ua Cd,Mj (.p .string) (.string s) (iv n) ck es'=some (Ua,Cd)->∀ nid,Ba nid es.ds (.mup (.p .string) (.tmp t) u v)=some (.any,.wr im (.mapo Ua Cd)):=by
  intro Ua Cd h1 nid
  simp only [Ba,e1,e2,e3]
  show (match es.hp.get im with
   | some (.mapo ck es)=>match Mj (.p .string) (.string s) (iv n) ck es with
    | some p=>some (DV.any,Upd.wr im (.mapo p.1 p.2))
    | none=>none
   | _=>none)=_
  rw [hm]
  simp only [h1]
 rcases TN s 0 hk with ⟨g1,g2,g3⟩ | ⟨v,j,e,g1,g2,g3,g4⟩
 .have hp:Mj (.p .string) (.string s) (iv n) ck es'=some (ck+1,es' ++ [⟨.string s,iv n,ck⟩]):=by unfold Mj;rw [g2]
  exact ⟨_,_,fin _ _ hp,g3 n ck,StO.put hp Ib⟩
 .have hp:Mj (.p .string) (.string s) (iv n) ck es'=some (ck,es'.set (0+j) ⟨.string s,iv n,e.b⟩):=by unfold Mj;rw [g2]
  exact ⟨_,_,fin _ _ hp,by rw [Df];exact g4 n e.b,StO.put hp Ib⟩
section
variable {call:Bg} {es:ES} {dst:Option Pa} {n0 m i:Nat} {lo an:List Nat} {ws:List Look} {pp:List Past} {r:Hold (DSt->Prop)} {ps:List Pa}
theorem Cu2{tgt t:Nat}{u v:Operand}{ck:Nat}{es':List ME}{hs:List (ByteArray×Int)}{s:ByteArray}{n:Int}(Gi:lo.contains tgt=true)(Jx:an.contains tgt=true)(Kz:refsL es ps=[n0+tgt])(e1:es.ds.ev (.tmp t)=.mp (n0+tgt))(hm:es.hp.get (n0+tgt)=some (.mapo ck es'))(hk:Qc es' hs)(Ib:StO ck es')(e2:es.ds.ev u=sv s)(e3:es.ds.ev v=iv n)
  (h:∀ An ck' Cd,An.get (n0+tgt)=some (.mapo ck' Cd)->Qc Cd (Pv hs s n)/\StO ck' Cd->(∀ j,j≠n0+tgt->An.get j=es.hp.get j)->r.val ⟨(ES.mk es.sl An es.nx).putE dst .any,lo,ws,pp⟩):S6 (B5 i an tgt dst (Bi (.mup (.p .string) (.tmp t) u v)) ps) call n0 m es lo ws pp:=by
 show TW _ _ _ _ _ _
 obtain ⟨Ua,Cd,hx,h2⟩:=GR e1 hm hk Ib e2 e3
 refine ⟨_,?_,h (Ka es.hp (n0+tgt) (some (.mapo Ua Cd))) Ua Cd (by rw [F5];simp) h2 λj hj=>by rw [F5];simp [hj]⟩
 have IK:=hx (n0+i)
 obtain ⟨sl,hp,nx⟩:=es
 unfold B5 DSt.cs ES.cs
 dsimp only
 rw [Ft,IK,Kz]
 show Fv (Nat.beq (n0+tgt) (n0+tgt)&&lo.contains tgt&&an.contains tgt&&Tp [n0+tgt] λr=>Nat.beq r (n0+tgt)) _ _=_
 rw [Sq,Gi,Jx,Af (by simp [Tp])]
end
section
variable (k:Nat) (hp:Tr DObj) (nx:Nat) (K:DV->Tr DObj->Nat->Prop)
theorem C48(n0:Nat)(dx:DV)(x:PArr)(hn:n0<=nx)(h1:AR hp (Bl n0) dx x)(hx:AOK x)(hc:x.cells.length<=255)
  (hE:∀ An Bm,Mf x≠0->Al hp nx An Bm->K (.tup [.v (.pointer none),iv 2]) An Bm)
  (hK:∀ An Bm T H nd,Mf x=0->Al hp nx An Bm->nx<=T->nx<=H->(∀ j∈nd.refs,nx<=j)->TreeG An Bm T H nd ⟨x.dims,x.attrs,[⟨x.cells,[],false⟩],[(bs [109,97,105,110],1)]⟩->K (.tup [.pt T 0,iv 0]) An Bm):KW (kN (k+12)) (.fn 27) [dx] hp nx K:=by
 obtain ⟨d,a,c,rfl,r1,r2,r3⟩:=h1
 refine nN (Hl (by decide)) t27 (Ab rfl) λes e1 e2 he=>?_
 have a0:Ad es (.t .o)=.agg [d,a,c]:=he 0 _ rfl
 unfold r27
 subst e1 e2
 simp only [↓Au]
 refine Xv (cs:=[d,a,c]) (by rw [Ha,a0];exact AR.live r1 r2 r3) λEi Dn Dd=>?_
 simp only [bR] at Dn Dd
 have Zs:Al es.hp es.nx Ei (es.nx+1):=⟨by omega,λj hj=>Dd j (by omega)⟩
 have fq:∀ {An Bm},Al es.hp es.nx An Bm->AR An (Bl n0) (.agg [d,a,c]) x:=λh=>⟨d,a,c,rfl,r1.ka hn h,r2.ka hn h,r3.ka hn h⟩
 obtain ⟨_,_,_,_,lA⟩:=Qd Dn
 simp only [As,↓Au,lA]
 refine Fh (UB (k:=k+4) n0 _ _ _ _ x (by omega) (fq Zs) hx λCw Dt Rj=>?_)
 have Gu:=Rj.le
 have aT:=Zs.trans Rj
 by_cases c1:Mf x=0
 .obtain ⟨⟨om,oj,_⟩,cf,cd,_,_⟩:=Qd ((Rj.same es.nx (by omega)).trans Dn)
  simp only [As,↓Au,show decide (¬ Mf x=0)=false by simp [c1],om,oj,cf,cd]
  have hz:Mf ⟨x.dims,x.attrs,[]⟩=0:=Bm1 (jC c1).2.2 (Fo _) (λc hc=>by cases hc) .nil
  have oz:AOK ⟨x.dims,x.attrs,[]⟩:=⟨hx.d,hx.a,(Nat.zero_lt_succ _),λc hc=>by cases hc⟩
  refine Fh (vr (k+1) Dt _ _ _ 0 d a Cb ⟨x.dims,x.attrs,[]⟩ (Ag _) ((r1.ka hn aT).bl (by omega)) ((r2.ka hn aT).bl (by omega)) .nil hz oz (Fo _) λGn Dy d3 Ub pF _=>?_)
  have Iw:=Ub.le
  have fS:=aT.trans Ub
  obtain ⟨dd,da,dc,rfl,v1,v2,v3⟩:=pF
  have x0:=Xp (e:=0) v1 v2 v3
  have x1:Fb Gn (.tup [.agg [dd,da,dc],iv 0]) 1=some (iv 0):=Ru
  simp only [As,↓Au,x0,x1]
  refine Rz λFq Kf Fl=>?_
  simp only [bR] at Kf Fl
  have w1:=v1.keep (An:=Fq) λj hj=>Fl j (by have:=hj.2;omega)
  have w2:=v2.keep (An:=Fq) λj hj=>Fl j (by have:=hj.2;omega)
  have w3:=v3.keep (An:=Fq) λj hj=>Fl j (by have:=hj.2;omega)
  simp only [As,↓Au]
  refine Qx (n:=3) (id:=Dy) (ds:=[dd,da,dc]) (by simp only [bR]) Kf (by simp only [Ha,bR];exact AR.live (x:=⟨x.dims,x.attrs,[]⟩) w1 w2 w3) rfl rfl λGr Qw Jd=>?_
  simp only [bR] at Qw Jd
  have bI:Al Gn Dy Gr (Dy+1):=⟨by omega,λj hj=>by rw [Jd j (by omega),Fl j (by omega)]⟩
  have zY:=fS.trans bI
  have y1:=w1.keep (An:=Gr) λj hj=>Jd j (by have:=hj.2;omega)
  have y2:=w2.keep (An:=Gr) λj hj=>Jd j (by have:=hj.2;omega)
  have y3:=w3.keep (An:=Gr) λj hj=>Jd j (by have:=hj.2;omega)
  have k5:∀ j,j<Dt->Gr.get j=Cw.get j:=λj hj=>(bI.same j (by omega)).trans (Ub.same j hj)
  have MP:=(k5 es.nx (by omega)).trans ((Rj.same es.nx (by omega)).trans Dn)
  obtain ⟨⟨_,_,MU⟩,_,_,xQ,_⟩:=Qd MP
  obtain ⟨_,_,_,_,lB⟩:=Qd Qw
  have q3:=r3.ka hn zY
  have bq:∀ j,j<n0->j<Dy+1:=λj hj=>by omega
  simp only [As,↓Au,lB,MU,xQ,jA q3 bq,Lp (n0:=Dy+1) (m:=13) MP (show es.nx<Dy+1 by omega),Lp (n0:=Dy+1) (m:=13) Qw (show Dy<Dy+1 by omega)]
  refine Ly rfl (Uy ?_)
  simp only [bR,Am,Az]
  refine yj (k+5) (Dy+1+13) _ _ _ Cb c [] x.cells (Ag _) .nil (q3.mono λj (hj:j<n0)=>by show j<Dy+1+13;omega) (by show 0+x.cells.length<=1024;omega) (λe he=>?_) λIv It z6 Zr wE=>?_
  .rcases he with he | he
   .cases he
   .exact ⟨AE c1 e he,(hx.e e he).1,F6 c1 e he,(hx.e e he).2.1⟩
  have Rf:=Zr.le
  have oz6:∀ {an:List Nat},Hh z6 (λid=>Cp (Dy+1) 13 an Iv id)↔True:=D7 wE λj hj=>by (have:=(wE.refs j hj).1.1);omega
  have qZ:=C47 (z:=.slice none 0 0) (w:=.slice none 0 0) (u:=.bool false) wE.ok
  have aD:∀ an,Hh (.agg [z6,.v (.slice none 0 0),.v (.bool false)]) (λid=>Cp (Dy+1) 13 an Iv id):=λan=>wM (oz6.2 trivial) (λj hj=>by cases hj)
  simp only [As,↓Au,bP,Rf,oz6,wE.live,S9,qZ,Ca,Bf (aD _)]
  have lab:Cg Iv (.agg [z6,.v (.slice none 0 0),.v (.bool false)])=.agg [z6,.v (.slice none 0 0),.v (.bool false)]:=VG (λj hj=>(wE.refs j hj).2) λj hj=>by cases hj
  refine PF (fl:=[z6,Cb,bv false]) rfl (by simp only [Am,Az,Dc,bR,bP,lab];exact Cm1 (z:=[.slice none 0 0,.slice none 0 0,.bool false]) rfl) λKl Pt Lr=>?_
  simp only [bR] at Pt Lr
  simp only [As,↓Au]
  refine mF (o:=.mapo 0 []) (d:=.mp (Dy+1+6)) (by rw [Ft];rfl) λKi iE eD=>?_
  simp only [bR] at iE eD
  simp only [As,↓Au,↓WA]
  refine ⟨kY iE rfl,?_⟩
  refine Cu2 (ck:=0) (es':=[]) (hs:=[]) (s:=bs [109,97,105,110]) (n:=1) rfl rfl (by show Kw (Uz (Ad _ _)) []=_;simp only [bR];rfl) (by simp only [Dc,bR,bP,iZ iE]) iE rfl ⟨λe he=>(by cases he),.nil⟩ rfl rfl λLi ss R6 Qv mo Ps=>?_
  simp only [bR] at Qv Ps
  simp only [As,↓Au]
  have k9:∀ j,j<Dy+1->Li.get j=Gr.get j:=λj hj=>by rw [Ps j (by omega),eD j (by omega),Lr j (by omega),Zr.same j (by omega)]
  have SO:Li.get (Dy+1+5)=_:=(Ps _ (by omega)).trans ((eD _ (by omega)).trans Pt)
  have up:∀ j,Bw Dt Dy j->Bl (Dy+1) j:=λj hj=>by have:=hj.2;show j<Dy+1;omega
  have u1:=(y1.keep (An:=Li) λj hj=>k9 j (by have:=hj.2;omega)).mono up
  have u2:=(y2.keep (An:=Li) λj hj=>k9 j (by have:=hj.2;omega)).mono up
  have u3:=(y3.keep (An:=Li) λj hj=>k9 j (by have:=hj.2;omega)).mono up
  have lag:Cg Li (.agg [dd,da,dc])=.agg [dd,da,dc]:=AR.live (x:=⟨x.dims,x.attrs,[]⟩) u1 u2 u3
  refine ⟨kY Qv rfl,⟨AR.rox (x:=⟨x.dims,x.attrs,[]⟩) u1 u2 u3 (Ag _),kY SO rfl,kY Qv rfl⟩,?_⟩
  simp only [As,bP,S9,MR,lag,Yb SO,iZ Qv,Ca]
  have wO:Hh (.agg [dd,da,dc,.ms (Dy+1+5) 0 1 3,.mp (Dy+1+6)]) (λid=>Cp (Dy+1) 13 [9,0,5,8,4,3,2,1,6,7] Li id):=λid hid=>by
   have:(id∈dd.refs\/id∈da.refs\/id∈dc.refs)\/id=Dy+1+5\/id=Dy+1+6:=by simpa [DV.refs,DV.refsL,or_assoc] using hid
   rcases this with h | h | h
   .exact AR.rox (x:=⟨x.dims,x.attrs,[]⟩) u1 u2 u3 (Ag _) id (by simpa [DV.refs,DV.refsL] using h)
   .rw [h];exact kY SO rfl
   .rw [h];exact kY Qv rfl
  refine ⟨wO,?_⟩
  refine mF (o:=.row 140 [dd,da,dc,.ms (Dy+1+5) 0 1 3,.mp (Dy+1+6)]) (d:=.pt (Dy+1+10) 0) (BH (by simp only [Ha,bR];exact Wm λid hid=>((rX Li id).1 (wO id hid)).1)) λKd Xk Lx=>?_
  simp only [bR] at Xk Lx
  simp only [As,↓Au,bP]
  have Hj:∀ c∈[dd,da,dc],Nk 6 c c=true:=AR.same (x:=⟨x.dims,x.attrs,[]⟩) y1 y2 y3
  refine ⟨kY Xk rfl,Cu1 (t:=6) (by simp [DV.refs]) (by decide) rfl (λp hp=>by rw [Aj.1 hp];rfl) (qK (id:=Dy) (λj hj=>by simpa [DV.refs] using hj) (by omega) (λq hq=>by rw [Aj.1 hq];exact ⟨Qw,(Zr.same Dy (by omega)).trans Qw⟩) Hj rfl),?_⟩
  rw [Vk Xk]
  have kX:∀ j,j<Dy+1->Kd.get j=Gr.get j:=λj hj=>(Lx j (by omega)).trans (k9 j hj)
  have nz:Kd.get (Dy+1+5)=_:=(Lx _ (by omega)).trans SO
  have qW:∀ j∈(DV.ms (Dy+1+5) 0 1 3).refs,j=Dy+1+5:=λj hj=>by simpa [DV.refs] using hj
  have pY:∀ j,Bw Dt Dy j->j<It/\j≠Dy+1+10/\j≠Dy+1+6/\j∉(DV.ms (Dy+1+5) 0 1 3).refs:=λj hj=>by
   have:=hj.2
   exact ⟨by omega,by omega,by omega,λh=>by have:=qW j h;omega⟩
  have pZ:∀ j,Bw (Dy+1+13) It j->j<It/\j≠Dy+1+10/\j≠Dy+1+6/\j∉(DV.ms (Dy+1+5) 0 1 3).refs:=λj hj=>by
   have:=hj.1
   exact ⟨hj.2,by omega,by omega,λh=>by have:=qW j h;omega⟩
  have H7:=(wE.keep (An:=Kd) λj hj=>by (have:=hj.1);rw [Lx j (by omega),Ps j (by omega),eD j (by omega),Lr j (by omega)]).mono pZ
  refine hK _ _ (Dy+1+10) (Dy+1+6) (.ms (Dy+1+5) 0 1 3) c1 ⟨by omega,λj hj=>(kX j (by omega)).trans (zY.same j hj)⟩ (by omega) (by omega) (λj hj=>by (have:=qW j hj);omega) ⟨⟨by omega,by omega,by omega⟩,⟨dd,da,dc,Xk,(y1.keep λj hj=>kX j (by have:=hj.2;omega)).mono pY,(y2.keep λj hj=>kX j (by have:=hj.2;omega)).mono pY,(y3.keep λj hj=>kX j (by have:=hj.2;omega)).mono pY⟩,⟨ss,R6,(Lx _ (by omega)).trans Qv,mo⟩,?_,λj hj=>by (have:=qW j hj);omega,⟨λy hy=>?_,⟨hz,oz⟩,λv W4 Ic q hq=>?_,(by show 1<200;decide),λy hy=>?_,λy hy=>?_⟩⟩
  .exact OL.ms (R:=rNode) (Dy+1+5) _ [⟨Rw (Hf [[],x.cells]),[],false⟩] nz (Rows.one (rNode_rd.2 ⟨z6,Cb,rfl,H7,.nil⟩))
  .obtain rfl:y=⟨x.cells,[],false⟩:=by simpa using hy
   exact ⟨c1,hx,hc⟩
  .obtain rfl:v=1:=by have:v<=1:=Ic;omega
   cases hq
  .obtain rfl:y=⟨x.cells,[],false⟩:=by simpa using hy
   exact Nat.zero_lt_succ _
  .obtain rfl:y=(bs [109,97,105,110],1):=by simpa using hy
   exact ⟨by decide,by show (1:Int)<=((1:Nat):Int);decide,rfl⟩
 .simp only [As,↓Au,bP,show decide (¬ Mf x=0)=true by simp [c1]]
  exact hE _ _ c1 aT
end
end Go.DD

/- Code that may come to more than one outcome: it is read as what holds behind it, whatever comes. Conditions: those that each theorem states. -/
namespace Go.DD
open Go
abbrev Ko:Type:=Nat->List DV->Tr DObj->Nat->(DV->Tr DObj->Nat->Prop)->Prop
def S5(P:Program)(wc:Ko):Prop:=∀ f ds hp nx K,wc f ds hp nx K->(∀ id,nx<=id->hp.get id=none)->Uc P f=true/\∀ (sv:Nat->DV) (K':DS->DV->Prop),(∀ d An Bm,K d An Bm->(∀ id,Bm<=id->An.get id=none)->K' ⟨sv,An.get,Bm⟩ d)->callC P f ds ⟨sv,hp.get,nx⟩ K'
section
variable (wc:Ko) (isW:Nat->Bool) (call:Bg)
def Wy:List DR->ES->(ES->Prop)->Prop
 | [],es,Q=>Q es
 | r::rest,es,Q=>match r.op,r.g with
  | .nxm k x,none=>∃ l,Vw es.ds k x=some l/\∀ p∈l,Wy rest ((ES.mk es.sl (Lv es.hp es.nx p.2) es.nx).putE (Fp r.dst) p.1) Q
  | .call f args,none=>if isW f=true then wc f (Zk es (args.map EO.of)) es.hp es.nx λd hp nx=>Wy rest ((ES.mk es.sl hp nx).putE (Fp r.dst) d) Q else SW (Ye r) call es λAi=>Wy rest Ai Q
  | .app T e b d x,none=>if isW 999999=true then (SW (Ye r) call es λAi=>Wy rest Ai Q)\/∃ l,To es.nx es.ds (.app T e b d x)=some l/\∀ p∈l,Wy rest ((ES.mk es.sl (Lv es.hp es.nx p.2) (es.nx+1)).putE (Fp r.dst) p.1) Q else SW (Ye r) call es λAi=>Wy rest Ai Q
  | _,_=>SW (Ye r) call es λAi=>Wy rest Ai Q
def DC.hasW(isW:Nat->Bool)(rg:Bool):DC->Bool
 | .seq a b=>a.hasW isW rg||b.hasW isW rg
 | .cond _ a b=>a.hasW isW rg||b.hasW isW rg
 | .blk _ c=>c.hasW isW rg
 | .loop c=>c.hasW isW rg
 | .rng _ _ _ _=>rg
 | .reg false ops _=>ops.any λr=>match r.op with
  | .nxm _ _=>true
  | .call f _=>isW f
  | .app _ _ _ _ _=>isW 999999
  | _=>false
 | _=>false
def xO(F:ES->(Exit->ES->Prop)->Prop)(es:ES)(Q:Exit->ES->Prop):Prop:=∃ (I:Nat->ES->Prop) (n:Nat),I n es/\∀ n es,I n es->F es (Nc (λAi=>∃ m,m<n/\I m Ai) Q)
def Ir(rg:Bool)(n nt:Nat):DC->ES->(Exit->ES->Prop)->Prop
 | .seq a b,es,Q=>if (DC.seq a b).hasW isW rg=true then Ir rg n nt a es (Nc (λAi=>Ir rg n nt b Ai Q) Q) else EW (Dv n nt false (.seq a b)) call es Q
 | .cond x a b,es,Q=>if (DC.cond x a b).hasW isW rg=true then ∃ t,Ad es (.of x)=.v (.bool t)/\(t=true->Ir rg n nt a es Q)/\(t=false->Ir rg n nt b es Q) else EW (Dv n nt false (.cond x a b)) call es Q
 | .blk id c,es,Q=>if (DC.blk id c).hasW isW rg=true then Ir rg n nt c es (Ms id Q) else EW (Dv n nt false (.blk id c)) call es Q
 | .loop c,es,Q=>if (DC.loop c).hasW isW rg=true then xO (Ir rg n nt c) es Q else EW (Dv n nt false (.loop c)) call es Q
 | .reg false ops i,es,Q=>if (DC.reg false ops i).hasW isW rg=true then Wy wc isW call ops es (Q .normal) else EW (Dv n nt false (.reg false ops i)) call es Q
 | .rng g ps a b,es,Q=>if rg=true then ∃ f cs,(My es (.of g)).asFn=some (f,cs)/\wc f (.yl es.nx::cs) (es.hp.set es.nx (some (.loop ⟨nt,.t es.sl,ps,a,b,.ready,none⟩))) (es.nx+1) λ_ hp nx=>∃ lp,hp.get es.nx=some (.loop lp)/\lp.st≠.busy/\match lp.pend with
   | none=>Q .normal ⟨es.sl,hp.set es.nx none,nx⟩
   | some .ret=>Q .ret ⟨es.sl,hp.set es.nx none,nx⟩
   | some (.exit i)=>Q (.exit i) ⟨es.sl,hp.set es.nx none,nx⟩
   | _=>False
  else EW (Dv n nt false (.rng g ps a b)) call es Q
 | d,es,Q=>EW (Dv n nt false d) call es Q
theorem B30{nid:Nat}{s:DS}{op:DOp}{l:List (DV×Upd)}(h:To nid s op=some l):Ba nid s op=none:=by
 unfold To at h
 split at h
 rotate_left
 .cases h
 rename_i T es b x y
 split at h
 rotate_left
 .cases h
 rename_i id off n es' news m hx qT
 split at h
 rotate_left
 .cases h
 rename_i T' cs If
 split at h
 rotate_left
 .cases h
 rename_i hh
 have:dstD s T es (s.ev x)=none:=by
  rw [hx]
  unfold dstD
  split
  .rename_i e;cases e
  .rename_i e;cases e;exact absurd rfl hh.2.2.1
  .rfl
 simp only [Ba,this]
variable {wc} {isW} {call} {P:Program} (hc:Uw P call) (hw:S5 P wc)
include hc hw
theorem QG:∀ (ops:List DR) (es:ES) (Q:ES->Prop),Wy wc isW call ops es Q->es.ds.Fr->bK P ops es.ds λs=>∃ es',s=es'.ds/\es'.ds.Fr/\Q es'
 | [],es,Q,h,Cy=>⟨es,rfl,Cy,h⟩
 | r::rest,es,Q,h,Cy=>by
  have dF:(SW (Ye r) call es λAi=>Wy wc isW call rest Ai Q)->bK P (r::rest) es.ds λs=>∃ es',s=es'.ds/\es'.ds.Fr/\Q es':=λ⟨Ai,h1,h2⟩=>by
   obtain ⟨g1,k1⟩:=wb hc h1 Cy
   exact k1 (QG rest Ai Q h2 (Gw.fr Cy g1))
  unfold Wy at h
  split at h
  .rename_i k x ho hg
   obtain ⟨lo,Gi,h⟩:=h
   simp only [bK,hg,DS.wanted]
   unfold Nd
   rw [ho]
   simp only [Gi]
   intro p hp
   have Of:((ES.mk es.sl (Lv es.hp es.nx p.2) es.nx).putE (Fp r.dst) p.1).ds=(es.ds.upd es.ds.nx p.2).put r.dst p.1:=by
    have e:(ES.mk es.sl (Lv es.hp es.nx p.2) es.nx).ds=es.ds.upd es.ds.nx p.2:=by
     simp only [ES.ds,Z0];rfl
    rw [eN,e]
   have:=QG rest _ Q (h p hp) (by rw [Of];exact Gw.fr Cy ((we (PI Gi p hp).1 (PI Gi p hp).2 _).trans (Gw.put _ _ _)))
   rw [Of] at this
   exact this
  .rename_i f args ho hg
   split at h
   .obtain ⟨Uq,hk⟩:=hw _ _ _ _ _ h Cy
    simp only [bK,hg,DS.wanted]
    unfold Nd
    rw [ho]
    rw [PW] at hk
    refine ⟨Uq,(hk es.ds.sv _ λd An Bm hK Xl=>?_).k⟩
    have e:((ES.mk es.sl An Bm).putE (Fp r.dst) d).ds=(⟨es.ds.sv,An.get,Bm⟩:DS).put r.dst d:=by rw [eN];rfl
    have:=QG rest _ Q hK (by rw [e];exact Gw.fr (s:=⟨es.ds.sv,An.get,Bm⟩) Xl (Gw.put _ _ _))
    rw [e] at this
    exact this
   .exact dF h
  .rename_i T e b d x ho hg
   split at h
   rotate_left
   .exact dF h
   rcases h with h | ⟨l,hl,h⟩
   .exact dF h
   simp only [bK,hg,DS.wanted]
   unfold Nd
   rw [ho]
   have cK:To es.ds.nx es.ds (.app T e b d x)=some l:=hl
   simp only [exec,B30 cK,cK]
   intro p hp
   obtain ⟨i,o,hu,hi⟩:=(Bt6 hl).2 p hp
   have Of:((ES.mk es.sl (Lv es.hp es.nx p.2) (es.nx+1)).putE (Fp r.dst) p.1).ds=({ es.ds.upd es.ds.nx p.2 with nx:=es.ds.nx+1 } : DS).put r.dst p.1:=by
    have e:(ES.mk es.sl (Lv es.hp es.nx p.2) (es.nx+1)).ds = { es.ds.upd es.ds.nx p.2 with nx:=es.ds.nx+1 }:=by
     simp only [ES.ds,Z0];rfl
    rw [eN,e]
   have Fw:Gw es.ds { es.ds.upd es.ds.nx p.2 with nx:=es.ds.nx+1 }:=by
    have:=Ce0 Cy (u:=p.2) (by rw [hu];exact hi)
    rw [hu] at this ⊢
    exact this
   have:=QG rest _ Q (h p hp) (by rw [Of];exact Gw.fr Cy (Fw.trans (Gw.put _ _ _)))
   rw [Of] at this
   exact this
  .exact dF h
theorem Cb2(hm:P.follows .mixedOrders=true){rg:Bool}{n nt:Nat} : ∀ (c:DC) (es:ES) (Q:Exit->ES->Prop),Ir wc isW call rg n nt c es Q->es.ds.Fr->∀ C:Ctx,C.P=P->C.nt=nt->C.rd=none->DW C c (λe s=>∃ es',s=es'.ds/\es'.ds.Fr/\Q e es') es.ds:=by
 intro c
 have dF:∀ (d:DC) (es:ES) (Q:Exit->ES->Prop),EW (Dv n nt false d) call es Q->es.ds.Fr->∀ C:Ctx,C.P=P->C.nt=nt->C.rd=none->DW C d (λe s=>∃ es',s=es'.ds/\es'.ds.Fr/\Q e es') es.ds:=by
  rintro d es Q ⟨e,es',h1,h2⟩ Cy C hP Hk Hs
  obtain ⟨g,k⟩:=PH hc hm d es e es' h1 Cy
  exact k C _ hP Hk (λ_=>Hs) ⟨es',rfl,Gw.fr Cy g,h2⟩
 induction c with
 | seq a b jK jJ=>
  intro es Q h Cy C hP Hk Hs
  unfold Ir at h
  split at h
  .refine DW.seq ((jK es _ h Cy C hP Hk Hs).mono ?_)
   rintro e s ⟨Ai,rfl,rD,h1⟩
   cases e with
   | normal=>exact jJ Ai Q h1 rD C hP Hk Hs
   | _=>exact ⟨Ai,rfl,rD,h1⟩
  .exact dF _ es Q h Cy C hP Hk Hs
 | cond x a b jK jJ=>
  intro es Q h Cy C hP Hk Hs
  unfold Ir at h
  split at h
  .obtain ⟨t,ht,h1,h2⟩:=h
   rw [Ts] at ht
   exact DW.cond (ot ht) (λe=>jK es Q (h1 e) Cy C hP Hk Hs) λe=>jJ es Q (h2 e) Cy C hP Hk Hs
  .exact dF _ es Q h Cy C hP Hk Hs
 | blk id c ih=>
  intro es Q h Cy C hP Hk Hs
  unfold Ir at h
  split at h
  .refine DW.blk ((ih es _ h Cy C hP Hk Hs).mono ?_)
   rintro e s ⟨Ai,rfl,rD,h1⟩
   cases e with
   | exit i=>
    simp only [Ms] at h1
    simp only [fZ]
    split
    .rename_i hi;rw [Af hi] at h1;exact ⟨Ai,rfl,rD,h1⟩
    .rename_i hi;rw [Ae hi] at h1;exact ⟨Ai,rfl,rD,h1⟩
   | _=>exact ⟨Ai,rfl,rD,h1⟩
  .exact dF _ es Q h Cy C hP Hk Hs
 | loop c ih=>
  intro es Q h Cy C hP Hk Hs
  unfold Ir at h
  split at h
  .obtain ⟨I,m,h0,h⟩:=h
   refine DW.loop (I:=λk s=>∃ Ai,s=Ai.ds/\Ai.ds.Fr/\I k Ai) m ⟨es,rfl,Cy,h0⟩ ?_
   rintro k s ⟨Ai,rfl,rD,h1⟩
   refine (ih Ai _ (h k Ai h1) rD C hP Hk Hs).mono ?_
   rintro e s ⟨Cd,rfl,lL,h2⟩
   cases e with
   | normal=>
    obtain ⟨m',bE,h3⟩:=h2
    exact ⟨m',bE,Cd,rfl,lL,h3⟩
   | _=>exact ⟨Cd,rfl,lL,h2⟩
  .exact dF _ es Q h Cy C hP Hk Hs
 | reg draw ops info=>
  intro es Q h Cy C hP Hk Hs
  cases draw with
  | false=>
   unfold Ir at h
   split at h
   .exact DW.reg (by rw [hP];exact QG hc hw ops es _ h Cy)
   .exact dF _ es Q h Cy C hP Hk Hs
  | true=>exact dF _ es Q h Cy C hP Hk Hs
 | skip=>exact λes Q h Cy C hP Hk Hs=>dF _ es Q h Cy C hP Hk Hs
 | ret=>exact λes Q h Cy C hP Hk Hs=>dF _ es Q h Cy C hP Hk Hs
 | exit id=>exact λes Q h Cy C hP Hk Hs=>dF _ es Q h Cy C hP Hk Hs
 | rng g ps a b _ _=>
  intro es Q h Cy C hP Hk Hs
  unfold Ir at h
  split at h
  .obtain ⟨f,cs,iI,h⟩:=h
   rw [lY] at iI
   obtain ⟨Uq,hI⟩:=hw _ _ _ _ _ h (λid hid=>by
    rw [Tr.set_ho]
    simp only [Gf]
    rw [Ae (by omega)]
    exact Cy id (by show es.nx<=id;omega))
   rw [Tr.set_ho] at hI
   subst hP Hk
   refine DW.rng (sl:=.t es.sl) rfl Hs iI Uq (callC.i (ds:=.yl es.nx::cs) ⟨.yl es.nx,Ct,by simp [DV.refs]⟩ (hI es.ds.sv _ λd An Bm hK Xl=>?_))
   have Oj:(ES.mk es.sl (An.set es.nx none) Bm).ds=⟨es.ds.sv,Gf An.get es.nx none,Bm⟩:=by rw [Rv,Tr.set_ho];rfl
   have LH:(ES.mk es.sl (An.set es.nx none) Bm).ds.Fr:=by
    rw [Oj]
    intro id hid
    simp only [Gf]
    split
    .rfl
    .exact Xl id hid
   obtain ⟨lp,h1,h2,h3⟩:=hK
   refine ⟨lp,h1,h2,?_⟩
   cases hp:lp.pend with
   | none=>rw [hp] at h3;exact ⟨_,Oj.symm,LH,h3⟩
   | some e=>
    rw [hp] at h3
    cases e with
    | ret=>exact ⟨_,Oj.symm,LH,h3⟩
    | exit i=>exact ⟨_,Oj.symm,LH,h3⟩
    | _=>exact h3.elim
  .exact dF _ es Q h Cy C hP Hk Hs
 | dfq t g cap=>exact λes Q h Cy C hP Hk Hs=>dF _ es Q h Cy C hP Hk Hs
 | bad=>exact λes Q h Cy C hP Hk Hs=>dF _ es Q h Cy C hP Hk Hs
end
section
variable (P:Program) (n:Nat) (wc:Ko) (isW:Nat->Bool) (rg:Bool) (call:Bg)
def Rl:Ko:=λf ds hp nx K=>∃ fn df,P.funcs[f]?=some fn/\Uc P f=true/\Yp P fn=some df/\ds.length<=df.nt/\Ir wc isW call rg n df.nt df.code ⟨Uu ds,hp,nx⟩ λe es=>(e=.normal\/e=.ret)/\∃ d,Mo df.res es=some (d,es.hp,es.nx)/\K d es.hp es.nx
variable {P} {n} {wc} {isW} {rg} {call} (hc:Uw P call) (hw:S5 P wc) (hm:P.follows .mixedOrders=true)
include hc hw hm
theorem PD:S5 P (Rl P n wc isW rg call):=by
 rintro f ds hp nx K ⟨fn,df,hf,Uq,oW,hlen,h⟩ Cy
 refine ⟨Uq,λsv K' hK=>.inl ⟨fn,df,hf,oW,hlen,λS G w0 X M Y R=>?_⟩⟩
 have Ib:(ES.mk (Uu ds) hp nx).ds=⟨Xt ds,hp.get,nx⟩:=by
  rw [Rv]
  congr 1
  funext t
  exact zh ds t
 have:=Cb2 hc hw hm df.code _ _ h (by rw [Ib];exact Cy) ⟨P,S,G,w0,df.nt,X,M,none,Y,R⟩ rfl rfl rfl
 rw [Ib] at this
 refine this.mono ?_
 rintro e s ⟨es,rfl,ke,Xy,d,Oj,hk⟩
 obtain ⟨cF,_,_⟩:=Bv7 Oj
 exact ⟨Xy,d,cF,hK _ _ _ hk ke⟩
theorem Known.ofW{f:Nat}{args:List DV}{r:DV}(hr:∀ x∈args,x.refs=[])(h:Rl P n wc isW rg call f args .e 0 λd hp _=>rz hp.get 6 d=some r):Known P f args r:=by
 obtain ⟨Uq,hI⟩:=PD hc hw hm _ _ _ _ _ h (λid _=>by cases id <;> rfl)
 refine ⟨Uq,hr,DCall.of_callC (sv:=λ_=>.any) ?_⟩
 have:=hI (λ_=>.any) (λs d=>∃ r',rz s.ho 6 d=some r'/\r'=r) λd An Bm hk _=>⟨r,hk,rfl⟩
 have e:(Tr.e:Tr DObj).get=λ_=>none:=by funext id;cases id <;> rfl
 rw [e] at this
 exact this
end
end Go.DD

/- Code with more than one outcome, as it is printed. Conditions: those that each theorem states. -/
namespace Go.DD
open Go
abbrev WE:Type:=Ko->Bg->ES->(Exit->ES->Prop)->Prop
abbrev RE:Type:=Ko->Bg->ES->(ES->Prop)->Prop
def wD(c:CE):WE:=λ_ call es Q=>EW c call es Q
def wS(a b:WE):WE:=λwc call es Q=>a wc call es (Nc (λAi=>b wc call Ai Q) Q)
def wB(id:Nat)(c:WE):WE:=λwc call es Q=>c wc call es (Ms id Q)
def wL(c:WE):WE:=λwc call es Q=>xO (c wc call) es Q
def wN(r:RE):WE:=λwc call es Q=>r wc call es (Q .normal)
def rE:RE:=λ_ _ es Q=>Q es
def rS(s:Nw)(k:RE):RE:=λwc call es Q=>SW s call es λAi=>k wc call Ai Q
def rN(k:Bool)(x:Operand)(dst:Option Pa)(n:RE):RE:=λwc call es Q=>∃ l,Vw es.ds k x=some l/\∀ p∈l,n wc call ((ES.mk es.sl (Lv es.hp es.nx p.2) es.nx).putE dst p.1) Q
def rA(T e b:Nat)(d x:Operand)(dst:Option Pa)(n:RE):RE:=λwc call es Q=>(SW (sU dst (Bi (.app T e b d x))) call es λAi=>n wc call Ai Q)\/∃ l,To es.nx es.ds (.app T e b d x)=some l/\∀ p∈l,n wc call ((ES.mk es.sl (Lv es.hp es.nx p.2) (es.nx+1)).putE dst p.1) Q
def rW(f:Nat)(args:List EO)(dst:Option Pa)(n:RE):RE:=λwc call es Q=>wc f (Zk es args) es.hp es.nx λd hp nx=>n wc call ((ES.mk es.sl hp nx).putE dst d) Q
def wG(nt:Nat)(g:EO)(ps:List Nat)(a b:DC):WE:=λwc _ es Q=>∃ f cs,(My es g).asFn=some (f,cs)/\wc f (.yl es.nx::cs) (es.hp.set es.nx (some (.loop ⟨nt,.t es.sl,ps,a,b,.ready,none⟩))) (es.nx+1) λ_ hp nx=>∃ lp,hp.get es.nx=some (.loop lp)/\lp.st≠.busy/\match lp.pend with
   | none=>Q .normal ⟨es.sl,hp.set es.nx none,nx⟩
   | some .ret=>Q .ret ⟨es.sl,hp.set es.nx none,nx⟩
   | some (.exit i)=>Q (.exit i) ⟨es.sl,hp.set es.nx none,nx⟩
   | _=>False
section
variable {wc:Ko} {call:Bg} {es:ES} {Q:Exit->ES->Prop} {R:ES->Prop}
theorem Rk{c:CE} : wD c wc call es Q↔EW c call es Q:=Dg
theorem Qs{a b:WE} : wS a b wc call es Q↔a wc call es (Nc (λAi=>b wc call Ai Q) Q):=Dg
theorem sD{id:Nat}{c:WE} : wB id c wc call es Q↔c wc call es (Ms id Q):=Dg
theorem sC{r:RE} : wN r wc call es Q↔r wc call es (Q .normal):=Dg
theorem Pf{s:Nw}{k:RE} : rS s k wc call es R↔SW s call es λAi=>k wc call Ai R:=Dg
theorem Uf:rE wc call es R↔R es:=Dg
theorem QJ{c:WE}(I:Nat->ES->Prop)(n:Nat)(h0:I n es)(step:∀ n es,I n es->c wc call es (Nc (λAi=>∃ m,m<n/\I m Ai) Q)):wL c wc call es Q:=⟨I,n,h0,step⟩
end
end Go.DD

/- Steps through a map: whatever entry comes. Conditions: those that each theorem states. -/
namespace Go.DD
open Go
theorem Cu3{since:Nat}{seen:List Nat}{es:List ME}(hb:∀ e∈es,e.b<since):Qo since seen es=(if (es.filter λe=>!seen.contains e.b).isEmpty then [none] else [])++(es.filter λe=>!seen.contains e.b).map some:=by
 have h1:∀ l:List ME,(∀ e∈l,e.b<since)->l.filter (λe=>decide (e.b<since))=l/\l.filter (λe=>decide (e.b≥since))=[]:=λl hl=>by
  refine ⟨List.filter_eq_self.2 λe he=>Ak (hl e he),List.filter_eq_nil_iff.2 λe he=>?_⟩
  have:=hl e he
  simp;omega
 obtain ⟨e1,e2⟩:=h1 (es.filter λe=>!seen.contains e.b) λe he=>hb e (Dp.1 he).1
 unfold Qo
 simp only [e1,e2,Da]
section
variable {wc:Ko} {call:Bg} {es:ES} {R:ES->Prop} {x:Operand} {dst:Option Pa} {n:RE} {im id ck:Nat} {es':List ME} {seen:List Nat}
theorem G3(ex:es.ds.ev x=.pt id 0)(hi:es.hp.get id=some (.miter (.mp im) ck seen ck))(hm:es.hp.get im=some (.mapo ck es'))(hb:∀ e∈es',e.b<ck)
  (h0:(∀ e∈es',e.b∈seen)->n wc call (es.putE dst (.tup [.v (.bool false)])) R)
  (h1:∀ e∈es',e.b∉seen->∀ An,An.get id=some (.miter (.mp im) ck (seen ++ [e.b]) ck)->(∀ j,j≠id->An.get j=es.hp.get j)->n wc call ((ES.mk es.sl An es.nx).putE dst (.tup [.v (.bool true),Qf e.k,e.v])) R):rN false x dst n wc call es R:=by
 have qX:¬ (!seen.isEmpty && !es'.isEmpty&&es'.all (λe=>decide (e.b≥ck)))=true:=λh=>by
  rw [Bo,Bo] at h
  obtain ⟨⟨_,h2⟩,h3⟩:=h
  cases es' with
  | nil=>simp at h2
  | cons e l=>
   have a:=hb e (by simp)
   have b:=(Bd.1 h3) e (by simp)
   simp at b
   omega
 refine ⟨(Qo ck seen es').map λc=>jH id (jI (.mp im) ck seen ck c),?_,λp hp=>?_⟩
 .unfold Vw
  rw [Ae (by simp),ex]
  show (match es.hp.get id with
   | some (.miter (.v (.map none)) _ _ _)=>some [(DV.tup [.v (.bool false)],Upd.keep)]
   | some (.miter (.mp im) since seen last)=>match es.hp.get im with
    | some (.mapo ck es)=>if (!seen.isEmpty && !es.isEmpty&&es.all (λe=>decide (e.b≥last)))=true then none else
      some ((Qo since seen es).map λc=>jH id (jI (.mp im) since seen ck c))
    | _=>none
   | _=>none)=_
  rw [hi]
  simp only [hm]
  rw [Ae qX]
 .obtain ⟨c,hc,rfl⟩:=Bn.1 hp
  rw [Cu3 hb] at hc
  rcases Ax.1 hc with hc | hc
  .split at hc
   .rename_i he
    rw [Aj] at hc
    subst hc
    refine h0 λe Xy=>Classical.byContradiction λhn=>?_
    have:e∈es'.filter λe=>!seen.contains e.b:=Dp.2 ⟨Xy,by simpa using hn⟩
    rw [List.isEmpty_iff.1 he] at this
    cases this
   .cases hc
  .obtain ⟨e,he,rfl⟩:=Bn.1 hc
   obtain ⟨h2,h3⟩:=Dp.1 he
   exact h1 e h2 (by simpa using h3) (es.up (.wr id (.miter (.mp im) ck (seen ++ [e.b]) ck))).hp (by rw [Ld,get_set,Af rfl]) λj hj=>by rw [Ld,get_set,Ae hj]
theorem G4{e:ME}{s0:List Nat}(ex:es.ds.ev x=.pt id 0)(hi:es.hp.get id=some (.miter (.mp im) ck (s0 ++ [e.b]) ck))(hm:es.hp.get im=some (.mapo ck es'))(he:e∈es')(hn:(es'.map ME.b).Nodup)(h:n wc call (es.putE dst (.tup [Qf e.k,e.v])) R):rN true x dst n wc call es R:=by
 have hf:es'.find? (λe'=>e'.b==e.b)=some e:=by
  clear hm h
  induction es' with
  | nil=>cases he
  | cons a l ih=>
   rw [Am,Jr] at hn
   rcases Ap.1 he with rfl | he
   .simp
   .have:a.b≠e.b:=λh=>hn.1 (h ▸ Bn.2 ⟨e,he,rfl⟩)
    rw [List.find?_cons_of_neg (by simpa using this)]
    exact ih he hn.2
 refine ⟨[(.tup [Qf e.k,e.v],.keep)],?_,λp hp=>?_⟩
 .unfold Vw
  rw [Af rfl]
  unfold pV
  rw [ex]
  show (match es.hp.get id with
   | some (.miter (.mp im) _ seen last)=>match es.hp.get im with
    | some (.mapo ck es)=>if ck=last then match seen.getLast? with
      | some st=>match es.find? (λe:ME=>e.b==st) with
       | some e=>some [(DV.tup [Qf e.k,e.v],Upd.keep)]
       | none=>none
      | none=>none
     else none
    | _=>none
   | _=>none)=_
  rw [hi]
  simp only [hm,Gl,List.getLast?_append,List.getLast?_singleton,Option.some_or,hf]
 .rw [Aj] at hp
  subst hp
  exact h
end
end Go.DD

/- Calls of code with more than one outcome, by what is printed. Conditions: those that each theorem states. -/
namespace Go.DD
open Go
theorem bU{a b n:Nat}(h:b=n)(h2:Nat.ble a n=true):a<=b:=h ▸ Ab h2
section
variable {P:Program} {n:Nat} {wc:Ko} {isW:Nat->Bool} {rg:Bool} {call:Bg} {f:Nat} {ds:List DV} {hp:Tr DObj} {nx:Nat} {K:DV->Tr DObj->Nat->Prop} {fn:Func} {df:DF} {w:WE}
theorem vl(ha:P.funcs[f]?=some fn)(hb:Uc P f=true)(oW:Yp P fn=some df)(hw:(λwc call=>Ir wc isW call rg n df.nt df.code)=w)(hlen:ds.length<=df.nt)(h:∀ es,es.hp=hp->es.nx=nx->qF es ds->w wc call es λe es=>(e=.normal\/e=.ret)/\∃ d,Mo df.res es=some (d,es.hp,es.nx)/\K d es.hp es.nx):Rl P n wc isW rg call f ds hp nx K:=by
 have h':=h ⟨Uu ds,hp,nx⟩ rfl rfl (Bw2 ds hp nx)
 rw [<- hw] at h'
 exact ⟨fn,df,ha,hb,oW,hlen,h'⟩
theorem Cu4(ha:P.funcs[f]?=some fn)(hb:Uc P f=true)(oW:Yp P fn=some df)(hr:df.res=[])(hw:(λwc call=>Ir wc isW call rg n df.nt df.code)=w)(hlen:ds.length<=df.nt)(h:∀ es,es.hp=hp->es.nx=nx->qF es ds->w wc call es λe es=>(e=.normal\/e=.ret)/\K (.tup []) es.hp es.nx):Rl P n wc isW rg call f ds hp nx K:=by
 refine vl ha hb oW hw hlen λes h1 h2 h3=>?_
 have e:(λe es=>(e=Exit.normal\/e=.ret)/\∃ d,Mo df.res es=some (d,es.hp,es.nx)/\K d es.hp es.nx)=λe es=>(e=Exit.normal\/e=.ret)/\K (.tup []) es.hp es.nx:=by
  funext e es
  rw [hr,fe0]
  refine propext (and_congr_right λ_=>⟨λ⟨d,h4,h5⟩=>?_,λh=>⟨_,rfl,h⟩⟩)
  cases h4;exact h5
 rw [e];exact h es h1 h2 h3
theorem vk{t:Nat}(ha:P.funcs[f]?=some fn)(hb:Uc P f=true)(oW:Yp P fn=some df)(hr:df.res=[(t,none)])(hw:(λwc call=>Ir wc isW call rg n df.nt df.code)=w)(hlen:ds.length<=df.nt)(h:∀ es,es.hp=hp->es.nx=nx->qF es ds->w wc call es λe es=>(e=.normal\/e=.ret)/\K (Cg es.hp (Ad es (.t (Cq t)))) es.hp es.nx):Rl P n wc isW rg call f ds hp nx K:=by
 refine vl ha hb oW hw hlen λes h1 h2 h3=>?_
 have e:(λe es=>(e=Exit.normal\/e=.ret)/\∃ d,Mo df.res es=some (d,es.hp,es.nx)/\K d es.hp es.nx)=λe es=>(e=Exit.normal\/e=.ret)/\K (Cg es.hp (Ad es (.t (Cq t)))) es.hp es.nx:=by
  funext e es
  rw [hr,fe1]
  refine propext (and_congr_right λ_=>⟨λ⟨d,h4,h5⟩=>?_,λh=>⟨_,rfl,h⟩⟩)
  cases h4;exact h5
 rw [e];exact h es h1 h2 h3
theorem Cu5{t u:Nat}(ha:P.funcs[f]?=some fn)(hb:Uc P f=true)(oW:Yp P fn=some df)(hr:df.res=[(t,none),(u,none)])(hw:(λwc call=>Ir wc isW call rg n df.nt df.code)=w)(hlen:ds.length<=df.nt)(h:∀ es,es.hp=hp->es.nx=nx->qF es ds->w wc call es λe es=>(e=.normal\/e=.ret)/\K (.tup [Cg es.hp (Ad es (.t (Cq t))),Cg es.hp (Ad es (.t (Cq u)))]) es.hp es.nx):Rl P n wc isW rg call f ds hp nx K:=by
 refine vl ha hb oW hw hlen λes h1 h2 h3=>?_
 have e:(λe es=>(e=Exit.normal\/e=.ret)/\∃ d,Mo df.res es=some (d,es.hp,es.nx)/\K d es.hp es.nx)=λe es=>(e=Exit.normal\/e=.ret)/\K (.tup [Cg es.hp (Ad es (.t (Cq t))),Cg es.hp (Ad es (.t (Cq u)))]) es.hp es.nx:=by
  funext e es
  rw [hr,fe2]
  refine propext (and_congr_right λ_=>⟨λ⟨d,h4,h5⟩=>?_,λh=>⟨_,rfl,h⟩⟩)
  cases h4;exact h5
 rw [e];exact h es h1 h2 h3
end
end Go.DD

/- The code of functions with more than one outcome: printed by a program out of the translation. -/
namespace Go.DD
noncomputable section
open Pa
instance NM:Coe Pa EO:=⟨EO.t⟩
open Go
set_option maxRecDepth 100000
def B31:WE:=(wS (wN (rN false (.tmp 6) ")" (rS (sX "(" (Gd ")" 0)) rE))) (wS (wD (cC "(" (cE .normal) (cE (.exit 0)))) (wB 1 (wS (wN (rN true (.tmp 6) "$" (rS (sX "*" (Gd "$" 1)) (rS (sM "!" "*") rE)))) (wD (cT [(sM "," o),(sM "." "!"),(eA none "," ["."] "+"),(sX "1" (Nz .not "+"))] (cC "1" (cE .ret) (cE .normal))))))))
def BU:WE:=(wS (wD (cN (sL [(sX "&" (Cf none o.l)),(sU "%" (Bi (.rgm (.tmp 5))))]))) (wB 0 (wL B31)))
end
end Go.DD

/- The printed code is the program's. -/
namespace Go.DD
open Go Go.Proofs
set_option maxRecDepth 100000
theorem CM:Tryz.prog.funcs[146]?=some Tryz.f146:=by kernel_rfl
theorem CI:Uc Tryz.prog 146=true:=by kernel_rfl
def d146:DF:=(Yp Tryz.prog Tryz.f146).getD default
theorem CG:Yp Tryz.prog Tryz.f146=some d146:=by kernel_rfl
theorem BY:d146.res=[]:=by kernel_rfl
theorem CD:d146.nt=15:=by kernel_rfl
theorem Cu6:(λwc call=>Ir wc (λ_=>false) call false 1000000 d146.nt d146.code)=BU:=by kernel_rfl
end Go.DD

/- The code of functions with more than one outcome: printed by a program out of the translation. -/
namespace Go.DD
noncomputable section
open Pa
instance NL:Coe Pa EO:=⟨EO.t⟩
open Go
set_option maxRecDepth 100000
def QF:DC:=.reg false [⟨some 5,none,.mv (.tmp 7),[]⟩] ⟨[],true⟩
def QE:DC:=.blk 1 (.reg false [⟨some 8,none,.ld none (.tmp 2),[]⟩,⟨some 9,none,.mv (.tmp 5),[]⟩,⟨some 10,none,.bsl 3 1 1 [.int .i64 0] [(0,1,.tmp 9)],[]⟩,⟨some 11,none,.app 3 1 8 (.tmp 8) (.tmp 10),[]⟩,⟨none,none,.st 1 (.tmp 2) (.tmp 11),[]⟩] ⟨[],true⟩)
def BV:WE:=(wS (wD (cN (sL [(sU o.r (Nx 36 o)),(sM "!" (.c (.v (.slice none 0 0))))]))) (wS (wS (wD (cN (sL [(sM "%" o.l)]))) (wB 0 (wG 13 "%" [7] QF QE))) (wD (cT [(sX "." (Cf none o.r)),(sM "!" ".")] (cE .ret)))))
def vj:CE:=(cN (sL [(sM "&" ")")]))
def vi:CE:=(cB 1 (cN (sL [(sX "(" (Cf none o.r)),(sM "$" "&"),(sU "*" (Bi (.bsl 3 1 1 [.int .i64 0] [(0,1,.tmp 9)]))),(sU "," (Bi (.app 3 1 8 (.tmp 8) (.tmp 10)))),(sU none (Is 1 o.r ","))])))
end
end Go.DD

/- The printed code is the program's. -/
namespace Go.DD
open Go Go.Proofs
set_option maxRecDepth 100000
theorem CN:Tryz.prog.funcs[145]?=some Tryz.f145:=by kernel_rfl
theorem CL:Uc Tryz.prog 145=true:=by kernel_rfl
def d145:DF:=(Yp Tryz.prog Tryz.f145).getD default
theorem CH:Yp Tryz.prog Tryz.f145=some d145:=by kernel_rfl
theorem BZ:d145.res=[(4,none)]:=by kernel_rfl
theorem CF:d145.nt=13:=by kernel_rfl
theorem Cu7:(λwc call=>Ir wc (λ_=>false) call true 1000000 d145.nt d145.code)=BV:=by kernel_rfl
theorem Cb3:Dv 1000000 13 true QF=vj:=by kernel_rfl
theorem Cb4:Dv 1000000 13 true QE=vi:=by kernel_rfl
end Go.DD

/- The code of functions with more than one outcome: printed by a program out of the translation. -/
namespace Go.DD
noncomputable section
open Pa
instance NK:Coe Pa EO:=⟨EO.t⟩
open Go
set_option maxRecDepth 100000
def w95:WE:=(wS (wD (cN (sL [(sM o.r (.c (.v (.slice none 0 0))))]))) (wS (wN (rS (sM ">" o) (rW 145 [(.c (.v (.slice none 0 0))),">"] "!" (rS (sM o.r "!") rE)))) (wD (cE .ret))))
end
end Go.DD

/- The printed code is the program's. -/
namespace Go.DD
open Go Go.Proofs
set_option maxRecDepth 100000
theorem WQ:Tryz.prog.funcs[95]?=some Tryz.f95:=by kernel_rfl
theorem WN:Uc Tryz.prog 95=true:=by kernel_rfl
def d95:DF:=(Yp Tryz.prog Tryz.f95).getD default
theorem WL:Yp Tryz.prog Tryz.f95=some d95:=by kernel_rfl
theorem WH:d95.res=[(2,none)]:=by kernel_rfl
theorem WJ:d95.nt=5:=by kernel_rfl
theorem C49:(λwc call=>Ir wc (λf=>Nat.beq f 145) call false 1000000 d95.nt d95.code)=w95:=by kernel_rfl
end Go.DD

/- Contracts: the values of a map, in whatever order. Conditions: those that each theorem states. -/
namespace Go.DD
open Go Go.Proofs Go.Sort
def SS(k:Nat):Ko:=Rl Tryz.prog 1000000 (λ_ _ _ _ _=>False) (λ_=>false) false (kN k)
theorem C50{k:Nat} : S5 Tryz.prog (SS k):=PD (Z7 (n:=1000000) mixed Wt OR k) (λ_ _ _ _ _ h=>h.elim) mixed
theorem zu{α:Type} : ∀ {l m:List α},l.Nodup->m.Nodup->(∀ x,x∈l↔x∈m)->l.Perm m
 | [],m,_,_,h=>by
  cases m with
  | nil=>exact .nil
  | cons a m=>exact absurd ((h a).2 (by simp)) (by simp)
 | a::l,m,hl,hm,h=>by
  obtain ⟨m1,m2,rfl⟩:=List.append_of_mem ((h a).1 (by simp))
  obtain ⟨ha,cK⟩:=Jr.1 hl
  have hp:(m1++a::m2).Perm (a::(m1++m2)):=List.perm_middle
  have bE:=hp.nodup_iff.1 hm
  obtain ⟨aT,oJ⟩:=Jr.1 bE
  refine (List.Perm.cons a (zu cK oJ λx=>?_)).trans hp.symm
  have hx:=(h x).trans hp.mem_iff
  constructor
  .intro RB
   have:=hx.1 (Bh _ RB)
   rcases Ap.1 this with rfl | h3
   .exact absurd RB ha
   .exact h3
  .intro hxm
   have:=hx.2 (Bh _ hxm)
   rcases Ap.1 this with rfl | h3
   .exact absurd hxm aT
   .exact h3
theorem yh:∀ {l:List ME},(l.map ME.b).Nodup->l.Nodup
 | [],_=>.nil
 | a::l,h=>by
  rw [Am,Jr] at h
  exact Jr.2 ⟨λha=>h.1 (Bn.2 ⟨a,ha,rfl⟩),yh h.2⟩
theorem vh{call:Bg}{es:ES}{dst:Option Pa}{R:ES->Prop}{t im ck:Nat}{es':List ME}(e1:es.ds.ev (.tmp t)=.mp im)(hm:es.hp.get im=some (.mapo ck es'))(h:∀ An,An.get es.nx=some (.miter (.mp im) ck [] ck)->(∀ j,j≠es.nx->An.get j=es.hp.get j)->R ((ES.mk es.sl An (es.nx+1)).putE dst (.pt es.nx 0))):SW (sU dst (Bi (.rgm (.tmp t)))) call es R:=by
 rw [sw_u,Ft]
 refine ⟨.pt es.nx 0,.lay (.miter (.mp im) ck [] ck),?_,h (es.up (.lay (.miter (.mp im) ck [] ck))).hp (by rw [Zu,get_set,Af rfl]) λj hj=>by rw [Zu,get_set,Ae hj]⟩
 simp only [Ba,e1]
 show (match es.hp.get im with
  | some (.mapo ck _)=>some (DV.pt es.nx 0,Upd.lay (.miter (.mp im) ck [] ck))
  | _=>none)=_
 rw [hm]
section
variable (k:Nat)
theorem B32{hp:Tr DObj}{nx L B H U ck:Nat}{es':List ME}{K:DV->Tr DObj->Nat->Prop}(J:List ME->Tr DObj->Nat->Prop)
  (hd:L<nx/\B<nx/\H<nx) (hL:∃ o,hp.get L=some o) (hB:hp.get B=some (.row U [.mp H])) (hH:hp.get H=some (.mapo ck es')) (Ib:StO ck es') (hv:∀ e∈es',∀ An:Tr DObj,Fb An (.tup [Qf e.k,e.v]) 1=some e.v)
  (h0:∀ Ei,Ei.get nx=some (.miter (.mp H) ck [] ck)->(∀ j,j≠nx->Ei.get j=hp.get j)->J [] Ei (nx+1))
  (hJ:∀ W Ei xA,J W Ei xA->nx+1<=xA/\(∃ o,Ei.get L=some o)/\Ei.get H=some (.mapo ck es')/\Ei.get nx=some (.miter (.mp H) ck (W.map ME.b) ck))
  (hw:∀ W Ei xA e Cw,J W Ei xA->e∈es'->e∉W->W.length<es'.length->Cw.get nx=some (.miter (.mp H) ck ((W ++ [e]).map ME.b) ck)->(∀ j,j≠nx->Cw.get j=Ei.get j)->KW (kN k) (.yl L) [e.v] Cw xA λd Gn Dy=>d=bv true/\J (W ++ [e]) Gn Dy)
  (hK:∀ W Ei xA,J W Ei xA->W.Perm es'->K (.tup []) Ei xA):SS k 146 [.yl L,.pt B 0] hp nx K:=by
 refine Cu4 CM CI CG BY Cu6 (bU CD rfl) λes e1 e2 he=>?_
 have a0:Ad es (.t .o)=.yl L:=he 0 _ rfl
 have a1:Ad es (.t (.l .o))=.pt B 0:=he 1 _ rfl
 subst e1 e2
 unfold BU
 rw [Qs,Rk]
 simp only [As,↓Au,a1,qG hB]
 refine vh (im:=H) (ck:=ck) (es':=es') (by simp only [Dc,bR,bP,iZ hH]) hH λEi Dn Dd=>?_
 simp only [bR] at Dn Dd
 have KK:∀ W:List ME,W.Nodup->(∀ e∈W,e∈es')->W.length<=es'.length:=λW h1 h2=>Ja h1 h2
 have Um:es'.Nodup:=yh Ib.2
 rw [sD]
 refine QJ (λm Ai=>∃ W,m=es'.length-W.length/\W.Nodup/\(∀ e∈W,e∈es')/\J W Ai.hp Ai.nx/\Ad Ai (.t .o)=.yl L/\Ad Ai (.t (.r (.r .o)))=.pt es.nx 0) es'.length ⟨[],rfl,.nil,λe h=>(by cases h),h0 _ Dn Dd,by simp only [bR,a0],by simp only [bR]⟩ ?_
 rintro m Ai ⟨W,rfl,pJ,kF,hj,b0,b6⟩
 obtain ⟨j1,⟨o,j2⟩,j3,j4⟩:=hJ W _ _ hj
 unfold B31
 rw [Qs,sC]
 refine G3 (id:=es.nx) (im:=H) (ck:=ck) (es':=es') (seen:=W.map ME.b) (by simp only [Dc,bP,b6,Vk j4]) j4 j3 Ib.1 (λJu=>?_) λe Xy Gt Cw Fw Fa=>?_
 .have x0:∀ {An:Tr DObj},Fb An (.tup [.v (.bool false)]) 0=some (bv false):=rfl
  simp only [As,↓Au,↓Pf,↓Uf,↓Qs,↓Rk,x0]
  refine hK W _ _ hj (zu pJ Um λx=>⟨kF x,λhx=>?_⟩)
  obtain ⟨y,hy,hb⟩:=Bn.1 (Ju x hx)
  have:y=x:=by
   obtain ⟨i1,h1,e1⟩:=Em (kF y hy)
   obtain ⟨i2,h2,e2⟩:=Em hx
   have Gt:∀ i j,(hi:i<es'.length)->(hj:j<es'.length)->i<j->es'[i].b≠es'[j].b:=λi j hi hj Nu=>by
    have:=Db.1 Ib.2 i j (by rw [Bp];exact hi) (by rw [Bp];exact hj) Nu
    simpa using this
   rcases Nat.lt_trichotomy i1 i2 with Et | Et | Et
   .exact absurd (by rw [e1,e2,hb]) (Gt i1 i2 h1 h2 Et)
   .subst Et;rw [<- e1,<- e2]
   .exact absurd (by rw [e1,e2,hb]) (Gt i2 i1 h2 h1 Et)
  rw [<- this];exact hy
 .have x0:∀ {An:Tr DObj},Fb An (.tup [.v (.bool true),Qf e.k,e.v]) 0=some (bv true):=rfl
  have Ic:Cw.get es.nx=some (.miter (.mp H) ck (W.map ME.b ++ [e.b]) ck):=Fw
  have hH2:=(Fa H (by omega)).trans j3
  have Q8:=(Fa L (by omega)).trans j2
  have P3:e∉W:=λh=>Gt (Bn.2 ⟨e,h,rfl⟩)
  simp only [As,↓Au,↓Pf,↓Uf,↓Qs,↓Rk,↓sD,↓sC,x0]
  refine G4 (e:=e) (s0:=W.map ME.b) (id:=es.nx) (im:=H) (ck:=ck) (es':=es') (by simp only [Dc,bR,bP,b6,Vk Ic]) (by simp only [];exact Ic) (by simp only [];exact hH2) Xy Ib.2 ?_
  simp only [As,↓Au,↓Pf,↓Uf,hv e Xy,b0]
  have Xh:(W ++ [e]).Nodup:=Ij.2 ⟨pJ,by simp,λa ha b hb=>by rw [Aj.1 hb];exact λh=>P3 (h ▸ ha)⟩
  have Uj:∀ x∈W ++ [e],x∈es':=λx hx=>(Ax.1 hx).elim (kF x) λh=>by rw [Aj.1 h];exact Xy
  have hlen:=KK (W ++ [e]) Xh Uj
  rw [Ao,Bk] at hlen
  obtain ⟨d,Gn,Dy,hc,rfl,RX⟩:=hw W _ _ e Cw hj Xy P3 (by omega) (by rw [Cn];exact Ic) Fa
  refine mG (L:=L) (o:=o) (by simp only [bR]) Q8 ⟨_,Gn,Dy,(by simpa only [bR,Am,Az] using hc),?_⟩
  simp only [As,↓Au,b0,b6]
  exact ⟨es'.length-(W ++ [e]).length,by rw [Ao,Bk];omega,W ++ [e],rfl,Xh,Uj,RX⟩
end
end Go.DD
