/- A part. -/
import Derived.Test.YtnphfnhhpcelbaaGreatYf
set_option linter.unusedSectionVars false
set_option linter.unusedVariables false
namespace Go.DD
open Go
structure PVal where
 kind:Int
 n:Int
 d:Int
 s:ByteArray
 deriving DecidableEq,Inhabited
structure PDim where
 name:ByteArray
 lo:Int
 hi:Int
 deriving DecidableEq,Inhabited
structure PAttr where
 name:ByteArray
 type:Int
 deriving DecidableEq,Inhabited
structure PCell where
 pos:List Int
 vals:List PVal
 deriving DecidableEq,Inhabited
structure PArr where
 dims:List PDim
 attrs:List PAttr
 cells:List PCell
 deriving DecidableEq,Inhabited
def vc(v:PVal):List DV:=[iv v.kind,iv v.n,iv v.d,sv v.s]
def dc(x:PDim):List DV:=[sv x.name,iv x.lo,iv x.hi]
def ac(x:PAttr):List DV:=[sv x.name,iv x.type]
def ZD(c:DV):Prop:=c.refs=[]/\(c.okC=true/\c.cells=[c])/\∀ n,1<=n->Nk n c c=true
theorem Xa(n:Int):ZD (iv n):=⟨rfl,⟨rfl,rfl⟩,λn h=>by
 obtain ⟨n,rfl⟩:∃ k,n=k+1:=⟨n-1,by omega⟩
 simp [Nk,Qh]⟩
theorem GA(b:Bool):ZD (bv b):=⟨rfl,⟨rfl,rfl⟩,λn h=>by
 obtain ⟨n,rfl⟩:∃ k,n=k+1:=⟨n-1,by omega⟩
 simp [Nk,Qh]⟩
theorem mW(s:ByteArray):ZD (sv s):=⟨rfl,⟨rfl,rfl⟩,λn h=>by
 obtain ⟨n,rfl⟩:∃ k,n=k+1:=⟨n-1,by omega⟩
 simp [Nk,Qh]⟩
def rInt:Rep Int:=Yw 1 3 (λn=>[iv n]) (by decide) (λ_=>rfl) λx c h=>by
 obtain rfl:=Aj.1 h
 exact Xa x
def rVal:Rep PVal:=Yw 4 41 vc (by decide) (λ_=>rfl) λx c h=>by
 simp only [vc,Ap,Pb,or_false] at h
 rcases h with rfl | rfl | rfl | rfl
 .exact Xa _
 .exact Xa _
 .exact Xa _
 .exact mW _
def rDim:Rep PDim:=Yw 3 129 dc (by decide) (λ_=>rfl) λx c h=>by
 simp only [dc,Ap,Pb,or_false] at h
 rcases h with rfl | rfl | rfl
 .exact mW _
 .exact Xa _
 .exact Xa _
def rAttr:Rep PAttr:=Yw 2 131 ac (by decide) (λ_=>rfl) λx c h=>by
 simp only [ac,Ap,Pb,or_false] at h
 rcases h with rfl | rfl
 .exact mW _
 .exact Xa _
def Po:Rep (List Int):=Nf rInt 36
def wR:Rep (List PVal):=Nf rVal 37
def rCell:Rep PCell:=Wz Po wR 39 PCell.pos PCell.vals
theorem Cq0{hp:Tr DObj}{p:Nat->Prop}{ds:List DV}{x:Int} : rInt.rd hp p ds x↔ds=[iv x]:=Dg
theorem Bx6{hp:Tr DObj}{p:Nat->Prop}{ds:List DV}{x:PVal} : rVal.rd hp p ds x↔ds=vc x:=Dg
theorem Cq1{hp:Tr DObj}{p:Nat->Prop}{ds:List DV}{x:PDim} : rDim.rd hp p ds x↔ds=dc x:=Dg
theorem B83{hp:Tr DObj}{p:Nat->Prop}{ds:List DV}{x:PAttr} : rAttr.rd hp p ds x↔ds=ac x:=Dg
theorem rCell_rd{hp:Tr DObj}{p:Nat->Prop}{ds:List DV}{x:PCell} : rCell.rd hp p ds x↔∃ a b,ds=[a,b]/\RL rInt hp p a x.pos/\RL rVal hp p b x.vals:=by
 constructor
 .rintro ⟨_,_,rfl,⟨a,rfl,h1⟩,⟨b,rfl,h2⟩⟩
  exact ⟨a,b,rfl,h1,h2⟩
 .rintro ⟨a,b,rfl,h1,h2⟩
  exact ⟨[a],[b],rfl,⟨a,rfl,h1⟩,⟨b,rfl,h2⟩⟩
def rArr:Rep PArr:=Wz (Wz (Nf rDim 22) (Nf rAttr 23) 0 PArr.dims PArr.attrs) (Nf rCell 24) 26 id PArr.cells
theorem rArr_rd{hp:Tr DObj}{p:Nat->Prop}{ds:List DV}{x:PArr} : rArr.rd hp p ds x↔∃ a b c,ds=[a,b,c]/\RL rDim hp p a x.dims/\RL rAttr hp p b x.attrs/\RL rCell hp p c x.cells:=by
 constructor
 .rintro ⟨_,_,rfl,⟨_,_,rfl,⟨a,rfl,h1⟩,⟨b,rfl,h2⟩⟩,⟨c,rfl,h3⟩⟩
  exact ⟨a,b,c,rfl,h1,h2,h3⟩
 .rintro ⟨a,b,c,rfl,h1,h2,h3⟩
  exact ⟨_,_,rfl,⟨_,_,rfl,⟨a,rfl,h1⟩,⟨b,rfl,h2⟩⟩,⟨c,rfl,h3⟩⟩
section
variable {hp:Tr DObj} {p:Nat->Prop} {d:DV}
theorem ints_at{l:List Int}(h:RL rInt hp p d l){i:Nat}(hi:i<l.length):Fy hp none (Bz 1 d i)=some (iv l[i]):=by
 obtain ⟨ds,hr,_,h2,_⟩:=h.at hi
 rw [Cq0] at hr
 exact h2 _ (by rw [hr];rfl)
theorem Y8{l:List PVal}(h:RL rVal hp p d l){i:Nat}(hi:i<l.length):Fy hp (some 4) (Bz 4 d i)=some (.agg (vc l[i])):=by
 obtain ⟨ds,hr,h1,_⟩:=h.at hi
 rw [Bx6] at hr
 rw [hr] at h1;exact h1
theorem rQ{l:List PDim}(h:RL rDim hp p d l){i:Nat}(hi:i<l.length):Fy hp (some 3) (Bz 3 d i)=some (.agg (dc l[i]))/\Fy hp none (Bz 3 d i)=some (sv l[i].name)/\Fy hp none (Fx (Bz 3 d i) 0)=some (sv l[i].name)/\Fy hp none (Fx (Bz 3 d i) 1)=some (iv l[i].lo)/\Fy hp none (Fx (Bz 3 d i) 2)=some (iv l[i].hi):=by
 obtain ⟨ds,hr,h1,h0,h2⟩:=h.at hi
 rw [Cq1] at hr
 rw [hr] at h1
 exact ⟨h1,h0 _ (by rw [hr];rfl),h2 0 _ (by rw [hr];rfl),h2 1 _ (by rw [hr];rfl),h2 2 _ (by rw [hr];rfl)⟩
theorem E9{l:List PAttr}(h:RL rAttr hp p d l){i:Nat}(hi:i<l.length):Fy hp (some 2) (Bz 2 d i)=some (.agg (ac l[i]))/\Fy hp none (Bz 2 d i)=some (sv l[i].name)/\Fy hp none (Fx (Bz 2 d i) 0)=some (sv l[i].name)/\Fy hp none (Fx (Bz 2 d i) 1)=some (iv l[i].type):=by
 obtain ⟨ds,hr,h1,h0,h2⟩:=h.at hi
 rw [B83] at hr
 rw [hr] at h1
 exact ⟨h1,h0 _ (by rw [hr];rfl),h2 0 _ (by rw [hr];rfl),h2 1 _ (by rw [hr];rfl)⟩
theorem Ek{l:List PCell}(h:RL rCell hp p d l){i:Nat}(hi:i<l.length):∃ a b,RL rInt hp p a l[i].pos/\RL rVal hp p b l[i].vals/\Fy hp (some 2) (Bz 2 d i)=some (.agg [a,b])/\Fy hp none (Bz 2 d i)=some a/\Fy hp none (Fx (Bz 2 d i) 0)=some a/\Fy hp none (Fx (Bz 2 d i) 1)=some b:=by
 obtain ⟨ds,hr,h1,h0,h2⟩:=h.at hi
 obtain ⟨a,b,rfl,h3,h4⟩:=rCell_rd.1 hr
 exact ⟨a,b,h3,h4,h1,h0 _ rfl,h2 0 _ rfl,h2 1 _ rfl⟩
end
def Bl(n:Nat):Nat->Prop:=λj=>j<n
def Bw(n m:Nat):Nat->Prop:=λj=>n<=j/\j<m
section
variable {α:Type} {R:Rep α} {hp An:Tr DObj} {n n':Nat} {d:DV} {l:List α}
end
end Go.DD

/- Chapters 01 and 02 in plain Lean: which names, values, schemas, cells and arrays are valid; the order of coordinates. -/
namespace Go.DD
open Go
def iV(c:UInt8):Bool:=decide ((97:Int)<=(c.toNat:Int))&&decide ((c.toNat:Int)<=122)
def Ob(c:UInt8):Bool:=iV c||(decide ((48:Int)<=(c.toNat:Int))&&decide ((c.toNat:Int)<=57))||decide ((c.toNat:Int)=95)
def Sy:List UInt8->Bool
 | []=>false
 | c::cs=>iV c&&cs.all Ob
def Pp(s:ByteArray):Bool:=decide (s.size<=12)&&Sy s.data.toList
def NB(s:ByteArray):Bool:=s.toList==(bs []).toList
def AT(v:PVal):Bool:=decide (v.d=0)&&NB v.s
def mV(c:UInt8):Bool:=decide ((32:Int)<=(c.toNat:Int))&&decide ((c.toNat:Int)<=126)
def Vj(s:ByteArray):Bool:=s.data.toList.all mV
def iU(v:PVal):Bool:=
 if v.kind=0 then AT v&&(decide (1<=v.n)&&decide (v.n<=255))
 else if v.kind=1 then AT v&&(decide (v.n=0)||decide (v.n=1))
 else if v.kind=2 then NB v.s&&(decide (1<=v.d)&&(decide (v.d<=1099511627776)&&(decide (-1099511627776<=v.n)&&(decide (v.n<=1099511627776)&&decide (Nat.gcd v.n.natAbs v.d.natAbs=1)))))
 else if v.kind=3 then decide (v.n=0)&&(decide (v.d=0)&&(decide (v.s.size<=16)&&Vj v.s))
 else false
def Zi(v:PVal)(t:Int):Bool:=
 if iU v=false\/t<1\/4<t then false
 else if v.kind=1 then decide (t=1)
 else if v.kind=2 then decide (t=3)||(decide (t=2)&&decide (v.d=1))
 else if v.kind=3 then decide (t=4)
 else true
def Y7(d:PDim):Bool:=decide (-1073741824<=d.lo)&&(decide (d.lo<=1073741824)&&(decide (d.lo<=d.hi)&&decide (d.hi<=1073741825)))
def bQ(s:ByteArray)(l:List ByteArray):Bool:=l.any λt=>decide (t=s)
def Zm:List ByteArray->List PDim->Int
 | _,[]=>0
 | met,x::l=>if Pp x.name=false\/bQ x.name met=true then 11 else if Y7 x=false then 3 else Zm (met ++ [x.name]) l
def Oo(l:List PDim):Int:=if l.length<1\/4<l.length then 13 else Zm [] l
def AS:List ByteArray->List PAttr->Int
 | _,[]=>0
 | met,x::l=>if Pp x.name=false\/bQ x.name met=true then 11 else if x.type<1\/4<x.type then 12 else AS (met ++ [x.name]) l
def iY(d:List PDim)(a:List PAttr):Int:=if Oo d≠0 then Oo d else if a.length<1\/6<a.length then 9 else AS (d.map PDim.name) a
def bV(d:PDim):Int:=min d.hi 1073741824
def gM:List PDim->List Int->Bool
 | d::ds,x::xs=>if x<d.lo\/bV d<x then false else gM ds xs
 | _,_=>true
def sS(d:List PDim)(x:List Int):Bool:=decide (x.length=d.length)&&gM d x
def On:List PVal->List PAttr->Bool
 | v::vs,a::as=>if Zi v a.type=false then false else On vs as
 | _,_=>true
def Hb(d:List PDim)(a:List PAttr)(c:PCell):Int:=if c.pos.length≠d.length\/c.vals.length≠a.length then 13 else if sS d c.pos=false then 3 else if On c.vals a=false then 12 else 0
def Md(a b:Int):Int:=if a<b then -1 else if b<a then 1 else 0
def Cs:List Int->List Int->Int
 | [],[]=>0
 | [],_::_=>-1
 | _::_,[]=>1
 | a::l,b::m=>if Md a b=0 then Cs l m else Md a b
def Qb(d:List PDim)(a:List PAttr):Option PCell->List PCell->Int
 | _,[]=>0
 | none,c::l=>if Hb d a c≠0 then Hb d a c else Qb d a (some c) l
 | some b,c::l=>if Hb d a c≠0 then Hb d a c else if Cs b.pos c.pos=0 then 5 else if Cs b.pos c.pos=1 then 2 else Qb d a (some c) l
def Mf(x:PArr):Int:=if iY x.dims x.attrs≠0 then iY x.dims x.attrs else if 4096<x.cells.length then 9 else Qb x.dims x.attrs none x.cells
theorem Bp7(a b:Int):Md a b = -1\/Md a b=0\/Md a b=1:=by
 unfold Md
 split
 .exact .inl rfl
 .split
  .exact .inr (.inr rfl)
  .exact .inr (.inl rfl)
theorem cmpI_0{a b:Int} : Md a b=0↔a=b:=by
 unfold Md
 split
 .constructor
  .intro h;exact absurd h (by decide)
  .intro h;omega
 .split
  .constructor
   .intro h;exact absurd h (by decide)
   .intro h;omega
  .constructor
   .intro _;omega
   .intro _;rfl
theorem kZ:∀ l m:List Int,Cs l m = -1\/Cs l m=0\/Cs l m=1
 | [],[]=>.inr (.inl rfl)
 | [],_::_=>.inl rfl
 | _::_,[]=>.inr (.inr rfl)
 | a::l,b::m=>by
  unfold Cs
  split
  .exact kZ l m
  .exact Bp7 a b
theorem cmpL_0:∀ {l m:List Int},Cs l m=0↔l=m
 | [],[]=>by simp [Cs]
 | [],_::_=>by simp [Cs]
 | _::_,[]=>by simp [Cs]
 | a::l,b::m=>by
  unfold Cs
  by_cases h:Md a b=0
  .rw [Af h,cmpL_0,List.cons.injEq,cmpI_0.1 h];simp
  .rw [Ae h,List.cons.injEq]
   constructor
   .intro h2;exact absurd h2 h
   .intro h2;exact absurd (cmpI_0.2 h2.1) h
theorem B84(a b:Int):Md b a = - Md a b:=by
 unfold Md
 by_cases h:a<b
 .rw [Af h,Ae (by omega),Af h];rfl
 .by_cases h2:b<a
  .rw [Af h2,Ae h,Af h2]
  .rw [Ae h,Ae h2,Ae h2,Ae h];rfl
theorem uU:∀ l m:List Int,Cs m l = - Cs l m
 | [],[]=>rfl
 | [],_::_=>rfl
 | _::_,[]=>rfl
 | a::l,b::m=>by
  unfold Cs
  rw [B84 a b]
  by_cases h:Md a b=0
  .rw [Af h,Af (by omega),uU l m]
  .rw [Ae h,Ae (by omega)]
theorem Cq2{a b:Int} : Md a b = -1↔a<b:=by
 unfold Md
 by_cases h:a<b
 .simp [h]
 .rw [Ae h]
  constructor
  .intro h2;split at h2 <;> exact absurd h2 (by decide)
  .intro h2;exact absurd h2 h
theorem mC:∀ {l m n:List Int},Cs l m = -1->Cs m n = -1->Cs l n = -1
 | [],[],_,h,_=>by simp [Cs] at h
 | [],_::_,[],_,h=>by simp [Cs] at h
 | [],_::_,_::_,_,_=>rfl
 | _::_,[],_,h,_=>by simp [Cs] at h
 | _::_,_::_,[],_,h=>by simp [Cs] at h
 | a::l,b::m,c::n,h1,h2=>by
  unfold Cs at h1 h2 ⊢
  by_cases e1:Md a b=0
  .have:=cmpI_0.1 e1
   subst this
   rw [Af e1] at h1
   by_cases e2:Md a c=0
   .rw [Af e2] at h2 ⊢
    exact mC h1 h2
   .rw [Ae e2] at h2 ⊢;exact h2
  .rw [Ae e1] at h1
   by_cases e2:Md b c=0
   .have:=cmpI_0.1 e2
    subst this
    rw [Ae e1];exact h1
   .rw [Ae e2] at h2
    have h3:Md a c = -1:=by rw [Cq2] at h1 h2 ⊢;omega
    rw [Ae (by omega)];exact h3
end Go.DD
