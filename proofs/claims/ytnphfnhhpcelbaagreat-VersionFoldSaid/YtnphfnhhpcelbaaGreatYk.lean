/- A part. -/
import Derived.Test.YtnphfnhhpcelbaaGreatYg
import Derived.Test.YtnphfnhhpcelbaaGreatYi
import Derived.Test.YtnphfnhhpcelbaaGreatYj
import Derived.Laws.RangeAny
import Derived.Laws.RangeString
noncomputable section
set_option linter.unusedSectionVars false
set_option linter.unusedVariables false
namespace Go.DD
open Go Go.Proofs
theorem Wt:dQ Tryz.prog 1000000 te:=um _ _
theorem Bx9{f:Nat}(NN:∀ cap,Known Tryz.prog f [.v (.slice none 0 cap)] (.v (.slice none 0 0)))(sn:∀ a cap,Known Tryz.prog f [.v (.slice (some a) 0 cap)] (.sl [] 0)):Known Tryz.prog f [.sl [] 0] (.sl [] 0):=by
 refine ⟨(NN 0).1,λx hx=>by rw [Aj] at hx;subst hx;rfl,λw S vs h1 h2 h3 hg=>?_⟩
 obtain ⟨v,rfl⟩:∃ v,vs=[v]:=by
  match vs,h2 with
  | [v],_=>exact ⟨v,rfl⟩
 have hr:=h3 0 v _ rfl rfl
 have fin:∀ a cap,v=.slice a 0 cap->Calls Tryz.prog f [v].toArray w λe w'=>∃ v r,e=.returned v/\r=.sl [] 0/\Go.RowKit.Below w.heap.size w w'/\RelI w' (λb=>(S b\/w.heap.size<=b)/\b<w'.heap.size) v r:=by
  intro a cap hv
  subst hv
  cases a with
  | none=>
   refine ((NN cap).2.2 w S [.slice none 0 cap] h1 rfl (λj u d hu hd=>?_) hg).mono λe w' ⟨v,r,h4,h5,h6,h7⟩=>?_
   .match j with
    | 0=>cases hu;cases hd;exact .v _
    | j+1=>cases hu
   .subst h5
    cases h7
    exact ⟨_,_,h4,rfl,h6,.sl0 _ _⟩
  | some a=>
   refine (sn a cap).2.2 w S [.slice (some a) 0 cap] h1 rfl (λj u d hu hd=>?_) hg
   match j with
   | 0=>cases hu;cases hd;exact .v _
   | j+1=>cases hu
 cases hr with
 | sl0 a cap=>exact fin a cap rfl
 | sl ad n cap us cs hl hn ha ho hc h=>exact fin (some ad) cap rfl
def TR:List Nat:=[70,142,139,162,163]
theorem C21:∀ f∈TR,Known Tryz.prog f [.sl [] 0] (.sl [] 0):=by
 intro f hf
 simp only [TR,Ap,Pb,or_false] at hf
 rcases hf with rfl | rfl | rfl | rfl | rfl <;> exact Bx9 (λcap=>Ba4 (n:=1000) (k:=3) mixed Wt (MemoOK.nil _) rfl (by kernel_rfl)) λa cap=>Ba4 (n:=1000) (k:=3) mixed Wt (MemoOK.nil _) rfl (by kernel_rfl)
def Kt(f:Nat)(ds:List DV):Option DV:=if f=15 then (match ds with
 | []=>some (.v (.bool true))
 | _=>none) else if f∈TR then (match ds with
 | [.sl [] 0]=>some (.sl [] 0)
 | _=>none) else none
theorem OR:∀ f ds d,Kt f ds=some d->Known Tryz.prog f ds d:=by
 intro f ds d h
 unfold Kt at h
 split at h
 .rename_i hf
  subst hf
  cases ds with
  | nil=>cases h;exact C20
  | cons _ _=>cases h
 .split at h
  .rename_i hf
   split at h
   .cases h;exact C21 f hf
   .cases h
  .cases h
theorem Hl{f:Nat}{ds:List DV}(h:f≠15/\f∉TR):Kt f ds=none:=by unfold Kt;rw [Ae h.1,Ae h.2]
def kN(k:Nat):Bg:=Hg te 1000000 Kt k
theorem Z6(k:Nat)(hp:Tr DObj)(nx:Nat)(K:DV->Tr DObj->Nat->Prop)(h:K (.v (.bool true)) hp nx):KW (kN (k+1)) (.fn 15) [] hp nx K:=OQ (d:=.v (.bool true)) rfl h
section
variable {α:Type} {R:Rep α} {hp An:Tr DObj} {n0 nx Bm:Nat} {d:DV} {l:List α}
theorem RL.ka(h:RL R hp (Bl n0) d l)(hn:n0<=nx)(a:Al hp nx An Bm):RL R An (Bl n0) d l:=h.keep λj hj=>a.same j (Bs hj hn)
theorem RL.bl{n:Nat}(h:RL R hp (Bl n0) d l)(hn:n0<=n):RL R hp (Bl n) d l:=h.mono λ_ hj=>Bs hj hn
theorem RL.rox{n m:Nat}{an:List Nat}(h:RL R hp (Bl n0) d l)(hn:n0<=n):Hh d (λid=>Cp n m an hp id):=h.ro λ_ hj=>Bs hj hn
theorem RL.roax{n m i:Nat}{an:List Nat}(h:RL R hp (Bl n0) d l)(hn:n0<=n):Hh (Bz R.e d i) (λid=>Cp n m an hp id):=h.roa λ_ hj=>Bs hj hn
theorem RL.rofx{n m i k:Nat}{an:List Nat}(h:RL R hp (Bl n0) d l)(hn:n0<=n):Hh (Fx (Bz R.e d i) k) (λid=>Cp n m an hp id):=h.rof λ_ hj=>Bs hj hn
end
theorem Al.nx{hp An:Tr DObj}{n n' m:Nat}(a:Al hp n An n')(h:n'<=m):Al hp n An m:=⟨Dz a.le h,a.same⟩
theorem Al.new{hp An Cw:Tr DObj}{n n' n2:Nat}(a:Al hp n An n')(h:n'<=n2)(hk:∀ j,j<n->Cw.get j=An.get j):Al hp n Cw n2:=⟨Dz a.le h,λj hj=>(hk j hj).trans (a.same j hj)⟩
theorem Al.ini(hp:Tr DObj){n m:Nat}(h:n<=m):Al hp n hp m:=⟨h,λ_ _=>rfl⟩
section
variable {hp:Tr DObj} {n0:Nat} {p:Nat->Prop} {d:DV} {l:List Int} {i:Nat}
theorem kS(h:RL rInt hp p d l)(hi:i<l.length):Qu hp 1 d (.v (.int .i64 (i:Int)))=some (Bz 1 d i):=h.ia hi
theorem U0{n m:Nat}{an:List Nat}(h:RL rInt hp (Bl n0) d l)(hn:n0<=n):Hh (Bz 1 d i) (λid=>Cp n m an hp id)↔True:=Bf (h.roax hn)
end
section
variable {hp:Tr DObj} {n0:Nat} {p:Nat->Prop} {d:DV} {l:List PVal} {i:Nat}
theorem T5(h:RL rVal hp p d l)(hi:i<l.length):Qu hp 4 d (.v (.int .i64 (i:Int)))=some (Bz 4 d i):=h.ia hi
theorem Cq3{k:Nat}(h:RL rVal hp p d l)(hi:i<l.length):Mx hp k (Bz 4 d i)=some (Fx (Bz 4 d i) k):=h.fa hi
theorem UD{n m:Nat}{an:List Nat}(h:RL rVal hp (Bl n0) d l)(hn:n0<=n):Hh (Bz 4 d i) (λid=>Cp n m an hp id)↔True:=Bf (h.roax hn)
end
section
variable {hp:Tr DObj} {n0:Nat} {p:Nat->Prop} {d:DV} {l:List PDim} {i:Nat}
theorem uP(h:RL rDim hp p d l)(hi:i<l.length):Qu hp 3 d (.v (.int .i64 (i:Int)))=some (Bz 3 d i):=h.ia hi
theorem vx{k:Nat}(h:RL rDim hp p d l)(hi:i<l.length):Mx hp k (Bz 3 d i)=some (Fx (Bz 3 d i) k):=h.fa hi
theorem UC{n m:Nat}{an:List Nat}(h:RL rDim hp (Bl n0) d l)(hn:n0<=n):Hh (Bz 3 d i) (λid=>Cp n m an hp id)↔True:=Bf (h.roax hn)
end
section
variable {hp:Tr DObj} {n0:Nat} {p:Nat->Prop} {d:DV} {l:List PAttr} {i:Nat}
theorem E8(h:RL rAttr hp p d l)(hi:i<l.length):Qu hp 2 d (.v (.int .i64 (i:Int)))=some (Bz 2 d i):=h.ia hi
theorem zd{k:Nat}(h:RL rAttr hp p d l)(hi:i<l.length):Mx hp k (Bz 2 d i)=some (Fx (Bz 2 d i) k):=h.fa hi
theorem AF{n m:Nat}{an:List Nat}(h:RL rAttr hp (Bl n0) d l)(hn:n0<=n):Hh (Bz 2 d i) (λid=>Cp n m an hp id)↔True:=Bf (h.roax hn)
theorem Bb1{n m k:Nat}{an:List Nat}(h:RL rAttr hp (Bl n0) d l)(hn:n0<=n):Hh (Fx (Bz 2 d i) k) (λid=>Cp n m an hp id)↔True:=Bf (h.rofx hn)
end
section
variable {hp:Tr DObj} {n0:Nat} {p:Nat->Prop} {d:DV} {l:List PCell} {i:Nat}
theorem Yq(h:RL rCell hp p d l)(hi:i<l.length):Qu hp 2 d (.v (.int .i64 (i:Int)))=some (Bz 2 d i):=h.ia hi
theorem mA{k:Nat}(h:RL rCell hp p d l)(hi:i<l.length):Mx hp k (Bz 2 d i)=some (Fx (Bz 2 d i) k):=h.fa hi
theorem U3{n m:Nat}{an:List Nat}(h:RL rCell hp (Bl n0) d l)(hn:n0<=n):Hh (Bz 2 d i) (λid=>Cp n m an hp id)↔True:=Bf (h.roax hn)
theorem xu{n m k:Nat}{an:List Nat}(h:RL rCell hp (Bl n0) d l)(hn:n0<=n):Hh (Fx (Bz 2 d i) k) (λid=>Cp n m an hp id)↔True:=Bf (h.rofx hn)
end
section
variable {hp:Tr DObj} {n0:Nat} {p:Nat->Prop} {d:DV} {l:List (List Int)} {i:Nat}
end
section
variable {hp:Tr DObj} {n0:Nat} {p:Nat->Prop} {d:DV} {l:List (List PVal)} {i:Nat}
end
theorem B85{hp:Tr DObj}{p:Nat->Prop}{d:DV}{l:List (List Int)}(h:RL Po hp p d l){i:Nat}(hi:i<l.length):∃ a,RL rInt hp p a l[i]/\Fy hp none (Bz 1 d i)=some a:=by
 obtain ⟨ds,hr,h1,h0,h2⟩:=h.at hi
 obtain ⟨a,rfl,h3⟩:=hr
 exact ⟨a,h3,h0 _ rfl⟩
theorem PE{α:Type}{l m:List α}{i:Nat}(h1:i<l.length)(h2:i<m.length):(l.drop i=m.drop i)↔(l[i]=m[i]/\l.drop (i+1)=m.drop (i+1)):=by
 rw [Bb h1,Bb h2,List.cons.injEq]
theorem AO(neg:Bool)(ks:List Nat)(x y:Operand)(nid:Nat)(es:ES):Fu (Bi (.eqs neg ks x y)) nid es=uD neg ks (es.ds.ev x) (es.ds.ev y):=eQ (X:=λes=>uD neg ks (es.ds.ev x) (es.ds.ev y)) (HX neg ks x y) nid
theorem Z5{hp:Tr DObj}{cs:List DV}(h:DV.refsL cs=[]):Cg hp (.agg cs)=.agg cs:=dW (by rw [DV.refs];exact h)
theorem E0{cs:List DV}{f:Nat->Bool}(h:DV.refsL cs=[]):Hh (.agg cs) f↔True:=OP (by rw [DV.refs];exact h)
theorem Ln(a b:ByteArray):(a.toList==b.toList)=decide (a=b):=by
 by_cases h:a=b
 .subst h;simp
 .have:a.toList≠b.toList:=λe=>h (by
   rw [ByteArray.toList_eq,ByteArray.toList_eq] at e
   have e2:=Jb.1 e
   obtain ⟨a⟩:=a;obtain ⟨b⟩:=b
   simp only at e2;rw [e2])
  simp [h,this]
theorem B1(x y:PVal):Ri [0,0,0,2] (vc x) (vc y)=some (decide (x=y)):=by
 obtain ⟨k,n,d,s⟩:=x
 obtain ⟨k',n',d',s'⟩:=y
 simp only [vc,Ri,fX,iv,sv,Gl,Ln,PVal.mk.injEq]
 by_cases h1:k=k'
 .by_cases h2:n=n'
  .by_cases h3:d=d'
   .by_cases h4:s=s' <;> simp [h1,h2,h3,h4]
   .simp [h1,h2,h3,Dl.2 h3]
  .simp [h1,h2,Dl.2 h2]
 .simp [h1,Dl.2 h1]
theorem B2(x y:PDim):Ri [2,0,0] (dc x) (dc y)=some (decide (x=y)):=by
 obtain ⟨n,a,b⟩:=x
 obtain ⟨n',a',b'⟩:=y
 simp only [dc,Ri,fX,iv,sv,Gl,Ln,PDim.mk.injEq]
 by_cases h1:n=n'
 .by_cases h2:a=a'
  .by_cases h3:b=b'
   .simp [h1,h2,h3]
   .simp [h1,h2,h3,Dl.2 h3]
  .simp [h1,h2,Dl.2 h2]
 .simp [h1]
theorem B3(x y:PAttr):Ri [2,0] (ac x) (ac y)=some (decide (x=y)):=by
 obtain ⟨n,a⟩:=x
 obtain ⟨n',a'⟩:=y
 simp only [ac,Ri,fX,iv,sv,Gl,Ln,PAttr.mk.injEq]
 by_cases h1:n=n'
 .by_cases h2:a=a'
  .simp [h1,h2]
  .simp [h1,h2,Dl.2 h2]
 .simp [h1]
theorem DE{p:Pa}{b:Bool}{f:Nat}{args:List EO}{dst:Option Pa}{call:Bg}{es:ES}{Q:ES->Prop} : SW (sG p b dst (Bj f args dst)) call es Q↔GW (Ad es (.t p)) b (SW (Bj f args dst) call es Q) (Q (es.putE dst (.v undef))):=mJ
theorem yQ(kd:KD)(z:Value)(x k:Operand)(es:ES)(nid:Nat):Bi (.lkp kd z x k false) es nid=Ip (Ql es.hp kd z (es.ds.ev x) (es.ds.ev k)):=by
 rw [Ft]
 simp only [Ba,Ql]
 cases Vx (es.ds.ev k) with
 | none=>rfl
 | some kv=>
  simp only []
  by_cases hk:iX kd kv=true
  .rw [Af hk,Af hk]
   cases es.ds.ev x with
   | v a=>
    cases a with
    | map a=>cases a <;> rfl
    | _=>rfl
   | mp id=>
    show (match es.hp.get id with
     | some (.mapo _ es)=>match findD kd kv es 0 with
      | some (some p)=>some (Gm false p.2.v true,Upd.keep)
      | some none=>some (Gm false (.v z) false,.keep)
      | none=>none
     | _=>none)=Ip (match es.hp.get id with
     | some (.mapo _ es)=>match findD kd kv es 0 with
      | some (some p)=>some (Gm false p.2.v true)
      | some none=>some (Gm false (.v z) false)
      | none=>none
     | _=>none)
    cases es.hp.get id with
    | none=>rfl
    | some o=>
     cases o with
     | mapo c l=>
      simp only []
      cases findD kd kv l 0 with
      | none=>rfl
      | some r=>cases r <;> rfl
     | _=>rfl
   | _=>rfl
  .rw [Ae hk,Ae hk];rfl
theorem Ci4{dst:Option Pa}{kd:KD}{z:Value}{x k:Operand}{call:Bg}{es:ES}{Q:ES->Prop} : SW (sU dst (Bi (.lkp kd z x k false))) call es Q↔XW (Ql es.hp kd z (es.ds.ev x) (es.ds.ev k)) λd=>Q (es.putE dst d):=aC (yQ kd z x k)
theorem Cq4{p:Pa}{g:Bool}{dst:Option Pa}{kd:KD}{z:Value}{x k:Operand}{call:Bg}{es:ES}{Q:ES->Prop} : SW (sG p g dst (sU dst (Bi (.lkp kd z x k false)))) call es Q↔XW (dC (Ad es (.t p)) g (Ql es.hp kd z (es.ds.ev x) (es.ds.ev k))) λd=>Q (es.putE dst d):=mI (yQ kd z x k)
theorem kb{K:DV->Tr DObj->Nat->Prop}{a b:Bool}{hp:Tr DObj}{nx:Nat}(h:K (bv b) hp nx)(e:a=b):K (.v (.bool a)) hp nx:=by rw [e];exact h
theorem BX{l:List UInt8}{i:Nat}(h:i<l.length):Io none ((l.map λc=>DV.v (.int .u8 (c.toNat:Int))).drop (i*1))=some (.v (.int .u8 (l[i].toNat:Int))):=by
 rw [Nat.mul_one,Bb (by simpa using h)]
 simp [Io]
theorem C22{s:ByteArray}{i:Nat}{k:IntKind}(h:i<s.data.toList.length):Ra (.v (.string s)) (.v (.int k (i:Int)))=some (.v (.int .u8 (s.data.toList[i].toNat:Int))):=by
 show (if 0<=(i:Int) then (s[(i:Int).toNat]?).map λc=>DV.v (.int .u8 (c.toNat:Int)) else none)=_
 rw [Af (by omega)]
 have hs:i<s.size:=h
 have:s[(i:Int).toNat]?=some s.data.toList[i]:=by
  rw [Ee,getElem?_pos s i hs];rfl
 rw [this];rfl
theorem yR(x y:Operand)(es:ES)(nid:Nat):Bi (.ixs x y) es nid=Ip (Ra (es.ds.ev x) (es.ds.ev y)):=by
 rw [Ft];simp only [Ba]
 cases es.ds.ev x with
 | v a=>
  cases a with
  | string b=>
   cases es.ds.ev y with
   | v c=>
    cases c with
    | int kk j=>
     show (if 0<=j then (b[j.toNat]?).map λc=>(DV.v (.int .u8 (c.toNat:Int)),Upd.keep) else none)=Ip (if 0<=j then (b[j.toNat]?).map λc=>DV.v (.int .u8 (c.toNat:Int)) else none)
     by_cases h:0<=j
     .rw [Af h,Af h];cases b[j.toNat]? <;> rfl
     .rw [Ae h,Ae h];rfl
    | _=>rfl
   | _=>rfl
  | _=>cases es.ds.ev y with
   | v c=>cases c <;> rfl
   | _=>rfl
 | _=>cases es.ds.ev y with
  | v c=>cases c <;> rfl
  | _=>rfl
theorem Ci5{dst:Option Pa}{x:Operand}{v:Value}{call:Bg}{es:ES}{Q:ES->Prop} : SW (sU dst (Bi (.ixs x (.const v)))) call es Q↔XW (Ra (es.ds.ev x) (Qf v)) λd=>Q (es.putE dst d):=aC (yR x (.const v))
theorem uZ{call:Bg}{es:ES}{Q:ES->Prop}{dst:Option Pa}{kd:KD}{x k y:Operand} : SW (sU dst (Bi (.mup kd x k y))) call es Q↔@Na (sU dst (Bi (.mup kd x k y))) call es ⟨Q⟩:=Dg
def Y1(t:Bool)[a:Hold Prop][b:Hold Prop]:Prop:=(t=true->a.val)/\(t=false->b.val)
theorem Cq5{t:Bool}{A B:Prop} : CW (.v (.bool t)) A B↔@Y1 t ⟨A⟩ ⟨B⟩:=R9
theorem ND{A B:Prop} : @Y1 true ⟨A⟩ ⟨B⟩↔A:=by unfold Y1;simp
theorem NF{A B:Prop} : @Y1 false ⟨A⟩ ⟨B⟩↔B:=by unfold Y1;simp
theorem rH{t:Bool}{a b:Hold Prop}(h1:t=true->a.val)(h2:t=false->b.val) : @Y1 t a b:=⟨h1,h2⟩
theorem C23{c:Bool}{hp:Tr DObj}{kd:KD}{z:Value}{a b y:DV} : Ql hp kd z (if c=true then a else b) y=if c=true then Ql hp kd z a y else Ql hp kd z b y:=by cases c <;> rfl
theorem C24{c:Bool}{hp:Tr DObj}{kd:KD}{z:Value}{a b y:DV} : Ql hp kd z y (if c=true then a else b)=if c=true then Ql hp kd z y a else Ql hp kd z y b:=by cases c <;> rfl
theorem Ci6(a b:ByteArray):Dm .eql (.v (.string a)) (.v (.string b))=some (.v (.bool (decide (a=b)))):=by
 rw [C5]
 show (some (Value.bool (a.toList==b.toList))).map DV.v=_
 rw [Ln];rfl
theorem Ci7(a b:ByteArray):Dm .neq (.v (.string a)) (.v (.string b))=some (.v (.bool (!decide (a=b)))):=by
 rw [C5]
 show (some (Value.bool !(a.toList==b.toList))).map DV.v=_
 rw [Ln];rfl
theorem C6(a:Bool):NR false (.v (.bool a)) (.v (.bool true))=some (.v (.bool a)):=by cases a <;> rfl
theorem C7(a:Bool):NR false (.v (.bool a)) (.v (.bool false))=some (.v (.bool (!a))):=by cases a <;> rfl
theorem ay:Cq 100=.r (.l (.r (.l (.l (.r .o))))):=nr rfl
theorem aw:Cq 101=.l (.r (.r (.l (.l (.r .o))))):=nr rfl
theorem au:Cq 102=.r (.r (.r (.l (.l (.r .o))))):=nr rfl
theorem aq:Cq 103=.l (.l (.l (.r (.l (.r .o))))):=nr rfl
theorem ao:Cq 104=.r (.l (.l (.r (.l (.r .o))))):=nr rfl
theorem ak:Cq 105=.l (.r (.l (.r (.l (.r .o))))):=nr rfl
theorem aj:Cq 106=.r (.r (.l (.r (.l (.r .o))))):=nr rfl
theorem ai:Cq 107=.l (.l (.r (.r (.l (.r .o))))):=nr rfl
theorem ah:Cq 108=.r (.l (.r (.r (.l (.r .o))))):=nr rfl
theorem ag:Cq 109=.l (.r (.r (.r (.l (.r .o))))):=nr rfl
theorem af:Cq 110=.r (.r (.r (.r (.l (.r .o))))):=nr rfl
theorem ae:Cq 111=.l (.l (.l (.l (.r (.r .o))))):=nr rfl
theorem ab:Cq 112=.r (.l (.l (.l (.r (.r .o))))):=nr rfl
theorem ZZ:Cq 113=.l (.r (.l (.l (.r (.r .o))))):=nr rfl
theorem ZY:Cq 114=.r (.r (.l (.l (.r (.r .o))))):=nr rfl
theorem ZX:Cq 115=.l (.l (.r (.l (.r (.r .o))))):=nr rfl
theorem ZW:Cq 116=.r (.l (.r (.l (.r (.r .o))))):=nr rfl
theorem ZV:Cq 117=.l (.r (.r (.l (.r (.r .o))))):=nr rfl
theorem ZU:Cq 118=.r (.r (.r (.l (.r (.r .o))))):=nr rfl
theorem ZT:Cq 119=.l (.l (.l (.r (.r (.r .o))))):=nr rfl
theorem ZS:Cq 120=.r (.l (.l (.r (.r (.r .o))))):=nr rfl
theorem ZR:Cq 121=.l (.r (.l (.r (.r (.r .o))))):=nr rfl
theorem ZQ:Cq 122=.r (.r (.l (.r (.r (.r .o))))):=nr rfl
theorem ZP:Cq 123=.l (.l (.r (.r (.r (.r .o))))):=nr rfl
theorem ZO:Cq 124=.r (.l (.r (.r (.r (.r .o))))):=nr rfl
theorem ZN:Cq 125=.l (.r (.r (.r (.r (.r .o))))):=nr rfl
theorem ZM:Cq 126=.r (.r (.r (.r (.r (.r .o))))):=nr rfl
theorem ZL:Cq 127=.l (.l (.l (.l (.l (.l (.l .o)))))):=nr rfl
theorem ZK:Cq 128=.r (.l (.l (.l (.l (.l (.l .o)))))):=nr rfl
theorem ZJ:Cq 129=.l (.r (.l (.l (.l (.l (.l .o)))))):=nr rfl
theorem ZI:Cq 130=.r (.r (.l (.l (.l (.l (.l .o)))))):=nr rfl
end Go.DD

/- Lists of lemmas as one name each. Conditions: those that each lemma states. -/
namespace Go.DD
open Go
set_option linter.defProp false
def J{a b:Prop}(x:a)(y:b):a/\b:=⟨x,y⟩
theorem HI{α:Type}(l:List α):l ++ []=l:=Da l
theorem HG{α:Type}(l:List α):l.drop 0=l:=Gb
theorem GY{α β:Type}(f:α->β)(a:α)(l:List α):(a::l).map f=f a::l.map f:=Am
theorem GX{α β:Type}(f:α->β):([]:List α).map f=[]:=Az
theorem GV{α:Type}(l:List α):[]++l=l:=By l
theorem HF{α:Type}(a:α):(a=a)=True:=eq_self a
theorem HE{α:Type}[LE α]{x y:α} : x≥y↔y<=x:=ge_iff_le
theorem HD{α:Type}[LT α]{x y:α} : x>y↔y<x:=gt_iff_lt
theorem HC{α:Type}[Decidable False](a b:α):(if False then a else b)=b:=Ae id
theorem HB[Decidable False](a b:Prop):(if False then a else b)=b:=Ae id
theorem GZ{α:Type}[Decidable True](a b:α):(if True then a else b)=a:=Af trivial
theorem HA[Decidable True](a b:Prop):(if True then a else b)=a:=Af trivial
theorem K3(a b:Pa):(a.l=b.r)=False:=Vl nofun
theorem J8(a b:Pa):(a.r=b.l)=False:=Vl nofun
theorem K0(b:Pa):(Pa.o=b.l)=False:=Vl nofun
theorem J9(b:Pa):(Pa.o=b.r)=False:=Vl nofun
theorem K4(b:Pa):(b.l=.o)=False:=Vl nofun
theorem J7(b:Pa):(b.r=.o)=False:=Vl nofun
theorem J6{α:Type}(a:α):(some a=none)=False:=Vl nofun
theorem K1{α:Type}(a:α):(none=some a)=False:=Vl nofun
theorem K2{α:Type}(a b:α):(a≠b)=¬ (a=b):=ne_eq a b
def As:=(J (J (J (J (J (J (J @mU @HF) (J @A1 @A4)) (J (J @A2 @A3) (J @MI @xw_some))) (J (J (J @T7 @Bw6) (J @si @sj)) (J (J @Cf9 @vK) (J @BP @BN)))) (J (J (J (J @BQ @HR) (J @R4 @GY)) (J (J @GX @uk) (J @zf @bj))) (J (J (J @J5 @uj) (J @nx_put @ui)) (J (J @GP @vL) (J @Cf2 @BK))))) (J (J (J (J (J @xI @Sa) (J @Bw4 @Bw5)) (J (J @Cf3 @K2) (J @Tt @not_true_eq_false))) (J (J (J @Bool.false_eq_true @Bool.true_eq_false) (J @true_imp_iff @false_imp_iff)) (J (J @and_true @true_and) (J @or_true @true_or)))) (J (J (J (J @and_self @GZ) (J @HA @HC)) (J (J @HB @Bool.not_true) (J @Bool.not_false @HE))) (J (J (J @HD @decide_true) (J @decide_false @Pa.l.injEq)) (J (J @Pa.r.injEq @Ch2) (J @Yu @Cg9)))))) (J (J (J (J (J (J @vJ @OU) (J @DU @wF)) (J (J @wK @wI) (J @wH @wJ))) (J (J (J @Bl0 @Ce8) (J @vz @uf)) (J (J @ue @look_nil) (J @Cf0 @Ce9)))) (J (J (J (J @Cf1 @GV) (J @HI @BI)) (J (J @Ru @A7) (J @A6 @Dc))) (J (J (J @xK @xG) (J @xH @xF)) (J (J @xE @Ci6) (J @Ci7 @Int.natCast_zero))))) (J (J (J (J (J @C8 @D0) (J @C9 @D1)) (J (J @Ch3 @Ch4) (J @Int.ofNat_lt @Int.ofNat_le))) (J (J (J @Int.ofNat_inj @Nat.le_refl) (J @HG @Al.refl)) (J (J @Bool.false_xor @Bool.true_xor) (J @Bool.xor_false @Bool.xor_true)))) (J (J (J (J @C6 @C7) (J @xP @xD)) (J (J @Cg1 @Cg2) (J @Cg3 @xJ))) (J (J (J @xC @K3) (J @J8 @K0)) (J (J @J9 @K4) (J @J7 (J @J6 @K1))))))))
def Au:=(J (J (J (J (J @ew_s (J @R5 @MY)) (J (J @A8 @NA) (J @H3 @vX))) (J (J (J @vW @MX) (J @vV @H2)) (J (J @eS @mJ) (J @Cf6 @Cf7)))) (J (J (J @Cf8 (J @C4 @C3)) (J (J @C1 @C0) (J @BD @BC))) (J (J (J @vC @vI) (J @vF @AZ)) (J (J @uX @vH) (J @F8 @Ch0))))) (J (J (J (J @z_l (J @zy @vG)) (J (J @uY @Ce6) (J @vP @vO))) (J (J (J @G7 @G6) (J @vR @vQ)) (J (J @vS @Ce7) (J @Bw3 @CR)))) (J (J (J (J @Ch1 @vE) (J @Bx3 @Bk9)) (J (J @ym @Bk6) (J @Cg5 @Bx0))) (J (J (J @vU @vY) (J @uZ @uh)) (J (J @ug @Ci5) (J @Cg0 @Ci4))))))
def Jj:=(J (J (J (J (J (J (J @C23 @C24) (J @Cq5 (J @ND @NF))) (J (J @IB @ID) (J @IC (J @de @dg)))) (J (J (J @mU @HF) (J @A1 (J @A4 @A2))) (J (J @A3 @MI) (J @nm (J @np @nk))))) (J (J (J (J @nn @C03) (J @cz (J @dh @C04))) (J (J @C05 @cy) (J @Cp6 (J @C06 @IA)))) (J (J (J @C07 @C08) (J @cw (J @db @IE))) (J (J @C09 (J @Bool.true_or @Bool.false_or)) (J @Bool.or_false (J @Bool.or_true @Bool.true_and)))))) (J (J (J (J (J @Bool.false_and @Bool.and_true) (J @Bool.and_false (J @xw_some @T7))) (J (J @Bw6 @Cf9) (J @vK (J @BP @BN)))) (J (J (J @BQ @HR) (J @R4 (J @GY @GX))) (J (J @uk @zf) (J @bj (J @J5 @uj))))) (J (J (J (J @nx_put @ui) (J @GP (J @vL @Cf2))) (J (J @BK @xI) (J @Sa (J @Bw4 @Bw5)))) (J (J (J @Cf3 @K2) (J @Tt (J @not_true_eq_false @Bool.false_eq_true))) (J (J @Bool.true_eq_false (J @true_imp_iff @false_imp_iff)) (J @and_true (J @true_and @or_true))))))) (J (J (J (J (J (J @true_or @and_self) (J @GZ (J @HA @HC))) (J (J @HB @Bool.not_true) (J @Bool.not_false (J @HE @HD)))) (J (J (J @decide_true @decide_false) (J @Pa.l.injEq (J @Pa.r.injEq @Ch2))) (J (J @Yu @Cg9) (J @vJ (J @OU @DU))))) (J (J (J (J @wF @wK) (J @wI (J @wH @wJ))) (J (J @Bl0 @Ce8) (J @vz (J @uf @ue)))) (J (J (J @look_nil @Cf0) (J @Ce9 (J @Cf1 @GV))) (J (J @HI (J @BI @Ru)) (J @A7 (J @A6 @Dc)))))) (J (J (J (J (J @xK @xG) (J @xH (J @xF @xE))) (J (J @Ci6 @Ci7) (J @Int.natCast_zero (J @C8 @D0)))) (J (J (J @C9 @D1) (J @Ch3 (J @Ch4 @Int.ofNat_lt))) (J (J @Int.ofNat_le @Int.ofNat_inj) (J @Nat.le_refl (J @HG @Al.refl))))) (J (J (J (J @Bool.false_xor @Bool.true_xor) (J @Bool.xor_false (J @Bool.xor_true @C6))) (J (J @C7 @xP) (J @xD (J @Cg1 @Cg2)))) (J (J (J @Cg3 @xJ) (J @xC (J @K3 @J8))) (J (J @K0 (J @J9 @K4)) (J @J7 (J @J6 @K1))))))))
def Ji:=(J (J (J (J (J (J @C10 @C11) (J @ew_s @R5)) (J (J @MY @A8) (J @NA @H3))) (J (J (J @vX @vW) (J @MX @vV)) (J (J @H2 @eS) (J @DA (J @DB @Cp4))))) (J (J (J (J @Cp5 @Cq4) (J @DE @Cf6)) (J (J @Cf7 @Cf8) (J @C4 @C3))) (J (J (J @C1 @C0) (J @BD @BC)) (J (J @vC @vI) (J @vF (J @AZ @uX)))))) (J (J (J (J (J @vH @F8) (J @Ch0 @z_l)) (J (J @zy @vG) (J @uY @Ce6))) (J (J (J @vP @vO) (J @G7 @G6)) (J (J @vR @vQ) (J @vS (J @Ce7 @Bw3))))) (J (J (J (J @CR @Ch1) (J @vE @Bx3)) (J (J @Bk9 @ym) (J @Bk6 @Cg5))) (J (J (J @Bx0 @vU) (J @vY @uZ)) (J (J @uh @ug) (J @Ci5 (J @Cg0 @Ci4)))))))
def bR:=(J (J (J (J @mU @uk) (J @zf (J @bj @J5))) (J (J @uj (J @nx_put @ui)) (J @vz (J @uf @ue)))) (J (J (J @K2 (J @Tt @Pa.l.injEq)) (J @Pa.r.injEq (J @K3 @J8))) (J (J @K0 (J @J9 @K4)) (J @J7 (J @J6 @K1)))))
def bP:=(J (J (J (J (J (J (J @p0 @p1) (J @p2 @p3)) (J (J @p4 @p5) (J @p6 @p7))) (J (J (J @p8 @p9) (J @p10 @p11)) (J (J @p12 @p13) (J @p14 @p15)))) (J (J (J (J @p16 @p17) (J @p18 @p19)) (J (J @p20 @p21) (J @p22 @p23))) (J (J (J @p24 @p25) (J @p26 @p27)) (J (J @p28 @p29) (J @p30 @p31))))) (J (J (J (J (J @p32 @p33) (J @p34 @p35)) (J (J @p36 @p37) (J @p38 @p39))) (J (J (J @p40 @p41) (J @p42 @p43)) (J (J @p44 @p45) (J @p46 @p47)))) (J (J (J (J @p48 @p49) (J @p50 @p51)) (J (J @p52 @p53) (J @p54 @p55))) (J (J (J @p56 @p57) (J @p58 @p59)) (J (J @p60 @p61) (J @p62 (J @p63 @p64))))))) (J (J (J (J (J (J @p65 @p66) (J @p67 @p68)) (J (J @p69 @p70) (J @p71 @p72))) (J (J (J @p73 @p74) (J @p75 @p76)) (J (J @p77 @p78) (J @p79 @p80)))) (J (J (J (J @p81 @p82) (J @p83 @p84)) (J (J @p85 @p86) (J @p87 @p88))) (J (J (J @p89 @p90) (J @p91 @p92)) (J (J @p93 @p94) (J @p95 (J @p96 @p97)))))) (J (J (J (J (J @p98 @p99) (J @ay @aw)) (J (J @au @aq) (J @ao @ak))) (J (J (J @aj @ai) (J @ah @ag)) (J (J @af @ae) (J @ab @ZZ)))) (J (J (J (J @ZY @ZX) (J @ZW @ZV)) (J (J @ZU @ZT) (J @ZS @ZR))) (J (J (J @ZQ @ZP) (J @ZO @ZN)) (J (J @ZM @ZL) (J @ZK (J @ZJ @ZI))))))))
end Go.DD

/- Contracts: integers compared; lists of integers compared. Conditions: those that each theorem states. -/
namespace Go.DD
open Go Go.Proofs
section
variable (k:Nat) (hp:Tr DObj) (nx:Nat) (K:DV->Tr DObj->Nat->Prop)
theorem Bl4(a:Int)(hK:K (bv false) hp nx):KW (kN (k+1)) (.fn 173) [iv a] hp nx K:=by
 refine Es (Hl (by decide)) XK (Ab rfl) λes e1 e2 he=>?_
 have a0:Ad es (.t .o)=iv a:=he 0 _ rfl
 unfold EY
 simp only [As,↓Au,bP,a0,e1,e2]
 exact hK
theorem C25(a b:Int)(hK:K (iv (Md a b)) hp nx):KW (kN (k+2)) (.fn 141) [iv a,iv b] hp nx K:=by
 refine Es (Hl (by decide)) XY (Ab rfl) λes e1 e2 he=>?_
 have a0:Ad es (.t .o)=iv a:=he 0 _ rfl
 have a1:Ad es (.t (.l .o))=iv b:=he 1 _ rfl
 unfold FK
 simp only [As,↓Au,a0,e1,e2]
 refine Fh (Bl4 k _ _ _ _ ?_)
 simp only [As,↓Au,a1,bv]
 refine Fh (Bl4 k _ _ _ _ ?_)
 unfold Md at hK
 by_cases h1:a<b
 .rw [Af h1] at hK
  simp only [As,↓Au,bP,a0,a1,h1,bv]
  exact hK
 .rw [Ae h1] at hK
  by_cases h2:b<a
  .rw [Af h2] at hK
   simp only [As,↓Au,bP,a0,a1,h1,h2,bv]
   exact hK
  .rw [Ae h2] at hK
   simp only [As,↓Au,bP,a0,a1,h1,h2,bv]
   exact hK
end
section
variable (k n0:Nat) (hp:Tr DObj) (nx:Nat) (K:DV->Tr DObj->Nat->Prop) (d1 d2:DV) (l m:List Int) (hn:n0<=nx) (h1:RL rInt hp (Bl n0) d1 l) (h2:RL rInt hp (Bl n0) d2 m) (hl:l.length<900000)
include hn h1 h2 hl
theorem Cq6(hK:K (iv (Cs l m)) hp nx):KW (kN (k+3)) (.fn 75) [d1,d2] hp nx K:=by
 refine Es (Hl (by decide)) t75 (Ab rfl) λes e1 e2 he=>?_
 have a0:Ad es (.t .o)=d1:=he 0 _ rfl
 have a1:Ad es (.t (.l .o))=d2:=he 1 _ rfl
 unfold r75
 simp only [As,↓Au,a0,e1,h1.len]
 refine EW.up l.length (λi Ai=>Ai.hp=hp/\Ai.nx=nx/\Ad Ai (.t .o)=d1/\Ad Ai (.t (.l .o))=d2/\Ad Ai (.t (.l (.r (.l .o))))=d1/\Ad Ai (.t (.r (.r (.l .o))))=iv l.length/\Ad Ai (.t (.l (.l (.r .o))))=iv (i:Nat)/\Cs l m=Cs (l.drop i) (m.drop i)) ?_ ?_ (by omega)
 .rintro i Ai hi ⟨g1,g2,b0,b1,b9,b10,b11,hc⟩
  unfold yA
  by_cases c1:i<l.length
  .by_cases c2:i<m.length
   .have hd:Cs (l.drop i) (m.drop i)=if Md l[i] m[i]=0 then Cs (l.drop (i+1)) (m.drop (i+1)) else Md l[i] m[i]:=by
     rw [Bb c1,Bb c2];rfl
    have c3:¬ m.length<=i:=by omega
    simp only [As,↓Au,b1,b9,b10,b11,g1,kS h1 c1,kS h2 c2,ints_at h1 c1,ints_at h2 c2,h2.len,c1,c3]
    refine Fh (C25 k _ _ _ _ _ ?_)
    by_cases c4:Md l[i] m[i]=0
    .rw [Af c4] at hd
     simp only [As,↓Au,b0,b1,b9,b10,b11,c4,Hz (show i<_ by omega)]
     exact ⟨c1,g2,by rw [hc,hd]⟩
    .rw [Ae c4] at hd
     simp only [As,↓Au,bP,c4]
     rw [<- hd,<- hc,g2];exact hK
   .have hd:Cs (l.drop i) (m.drop i)=1:=by
     rw [Bb c1,Bc (show m.length<=i by omega)];rfl
    have c3:m.length<=i:=by omega
    simp only [As,↓Au,bP,b1,b9,b10,b11,g1,kS h1 c1,ints_at h1 c1,h2.len,c1,c3]
    rw [hc,hd] at hK;rw [g2];exact hK
  .have oM:i=l.length:=by omega
   have hd:Cs (l.drop i) (m.drop i)=if l.length<m.length then -1 else 0:=by
    rw [Bc (show l.length<=i by omega)]
    by_cases c3:i<m.length
    .rw [Bb c3,Af (by omega)];rfl
    .rw [Bc (show m.length<=i by omega),Ae (by omega)];rfl
   by_cases c3:l.length<m.length
   .rw [Af c3] at hd
    simp only [As,↓Au,bP,b0,b1,b10,b11,g1,h1.len,h2.len,c1,c3]
    rw [hc,hd] at hK;rw [g2];exact hK
   .rw [Ae c3] at hd
    simp only [As,↓Au,bP,b0,b1,b10,b11,g1,h1.len,h2.len,c1,c3]
    rw [hc,hd] at hK;rw [g2];exact hK
 .simp only [As,a0,a1,e1,e2]
theorem F7(hK:K (iv (Cs l m)) hp nx):KW (kN (k+4)) (.fn 24) [d1,d2] hp nx K:=by
 refine Es (Hl (by decide)) t24 (Ab rfl) λes e1 e2 he=>?_
 have a0:Ad es (.t .o)=d1:=he 0 _ rfl
 have a1:Ad es (.t (.l .o))=d2:=he 1 _ rfl
 unfold r24
 simp only [As,↓Au,a0,a1,e1,e2]
 refine Fh (Cq6 k n0 _ _ _ d1 d2 l m hn h1 h2 hl ?_)
 simp only [As,↓Au,bP]
 exact hK
end
end Go.DD

/- Contracts: equal lists of integers, values, dimensions, attributes. Conditions: those that each theorem states. -/
namespace Go.DD
open Go Go.Proofs
theorem C26(k n0:Nat)(hp:Tr DObj)(nx:Nat)(K:DV->Tr DObj->Nat->Prop)(d1 d2:DV)(l m:List Int)(hn:n0<=nx)(h1:RL rInt hp (Bl n0) d1 l)(h2:RL rInt hp (Bl n0) d2 m)(hl:l.length<900000)(hK:∀ Bm,nx<=Bm->K (bv (decide (l=m))) hp Bm):KW (kN (k+1)) (.fn 80) [d1,d2] hp nx K:=by
 refine Es (Hl (by decide)) t80 (Ab rfl) λes e1 e2 he=>?_
 have a0:Ad es (.t .o)=d1:=he 0 _ rfl
 have a1:Ad es (.t (.l .o))=d2:=he 1 _ rfl
 unfold r80
 by_cases hlen:l.length=m.length
 .simp only [As,↓Au,a0,a1,e1,h1.len,h2.len,hlen]
  refine EW.up l.length (λi Ai=>Ai.hp=hp/\nx<=Ai.nx/\Ad Ai (.t .o)=d1/\Ad Ai (.t (.l .o))=d2/\Ad Ai (.t (.r (.l (.r .o))))=iv l.length/\Ad Ai (.t (.l (.r (.r .o))))=iv (i:Nat)/\(l=m↔l.drop i=m.drop i)) ?_ ?_ (by omega)
  .rintro i Ai hi ⟨g1,g2,b0,b1,Ny,Qq,hc⟩
   unfold xW
   by_cases c1:i<l.length
   .have c2:i<m.length:=by omega
    rw [PE c1 c2] at hc
    by_cases c4:l[i]=m[i]
    .simp only [As,↓Au,b0,b1,Ny,Qq,g1,c1,kS h1 c1,kS h2 c2,ints_at h1 c1,ints_at h2 c2,h1.rox (show n0<=Ai.nx by omega),h2.rox (show n0<=Ai.nx by omega),U0 h1 (show n0<=Ai.nx by omega),U0 h2 (show n0<=Ai.nx by omega),c4,Hz (show i<_ by omega)]
     exact ⟨by omega,by rw [hc];simp [c4]⟩
    .simp only [As,↓Au,bP,b0,b1,Ny,Qq,g1,c1,kS h1 c1,kS h2 c2,ints_at h1 c1,ints_at h2 c2,h1.rox (show n0<=Ai.nx by omega),h2.rox (show n0<=Ai.nx by omega),U0 h1 (show n0<=Ai.nx by omega),U0 h2 (show n0<=Ai.nx by omega),c4]
     have:¬ l=m:=by rw [hc];simp [c4]
     have hh:=hK (Ai.nx+9) (by omega)
     rw [Ah this] at hh
     exact hh
   .have:l=m:=hc.2 (by rw [Bc (by omega),Bc (by omega)])
    simp only [As,↓Au,bP,Ny,Qq,g1,c1]
    have hh:=hK Ai.nx g2
    rw [Ak this] at hh
    exact hh
  .simp only [As,a0,a1,e1,e2,hlen]
 .simp only [As,↓Au,bP,a0,a1,e1,e2,h1.len,h2.len,hlen]
  have:¬ l=m:=λe=>hlen (by rw [e])
  have hh:=hK nx (Ag _)
  rw [Ah this] at hh
  exact hh
theorem Ci8(k n0:Nat)(hp:Tr DObj)(nx:Nat)(K:DV->Tr DObj->Nat->Prop)(d1 d2:DV)(l m:List PVal)(hn:n0<=nx)(h1:RL rVal hp (Bl n0) d1 l)(h2:RL rVal hp (Bl n0) d2 m)(hl:l.length<900000)(hK:∀ Bm,nx<=Bm->K (bv (decide (l=m))) hp Bm):KW (kN (k+1)) (.fn 69) [d1,d2] hp nx K:=by
 refine Es (Hl (by decide)) t69 (Ab rfl) λes e1 e2 he=>?_
 have a0:Ad es (.t .o)=d1:=he 0 _ rfl
 have a1:Ad es (.t (.l .o))=d2:=he 1 _ rfl
 unfold r69
 by_cases hlen:l.length=m.length
 .simp only [As,↓Au,a0,a1,e1,h1.len,h2.len,hlen]
  refine EW.up l.length (λi Ai=>Ai.hp=hp/\nx<=Ai.nx/\Ad Ai (.t .o)=d1/\Ad Ai (.t (.l .o))=d2/\Ad Ai (.t (.r (.l (.r .o))))=iv l.length/\Ad Ai (.t (.l (.r (.r .o))))=iv (i:Nat)/\(l=m↔l.drop i=m.drop i)) ?_ ?_ (by omega)
  .rintro i Ai hi ⟨g1,g2,b0,b1,Ny,Qq,hc⟩
   unfold yB
   by_cases c1:i<l.length
   .have c2:i<m.length:=by omega
    rw [PE c1 c2] at hc
    by_cases c4:l[i]=m[i]
    .simp only [As,↓Au,bP,b0,b1,Ny,Qq,g1,c1,T5 h1 c1,T5 h2 c2,Y8 h1 c1,Y8 h2 c2,h1.rox (show n0<=Ai.nx by omega),h2.rox (show n0<=Ai.nx by omega),UD h1 (show n0<=Ai.nx by omega),UD h2 (show n0<=Ai.nx by omega),AO,Z5 (show DV.refsL (vc _)=[] from rfl),E0 (show DV.refsL (vc _)=[] from rfl),Zl,B1,Ca,c4,Hz (show i<_ by omega)]
     exact ⟨by omega,by rw [hc];simp [c4]⟩
    .simp only [As,↓Au,bP,b0,b1,Ny,Qq,g1,c1,T5 h1 c1,T5 h2 c2,Y8 h1 c1,Y8 h2 c2,h1.rox (show n0<=Ai.nx by omega),h2.rox (show n0<=Ai.nx by omega),UD h1 (show n0<=Ai.nx by omega),UD h2 (show n0<=Ai.nx by omega),AO,Z5 (show DV.refsL (vc _)=[] from rfl),E0 (show DV.refsL (vc _)=[] from rfl),Zl,B1,Ca,c4]
     have:¬ l=m:=by rw [hc];simp [c4]
     have hh:=hK (Ai.nx+9) (by omega)
     rw [Ah this] at hh
     exact hh
   .have:l=m:=hc.2 (by rw [Bc (by omega),Bc (by omega)])
    simp only [As,↓Au,bP,Ny,Qq,g1,c1]
    have hh:=hK Ai.nx g2
    rw [Ak this] at hh
    exact hh
  .simp only [As,a0,a1,e1,e2,hlen]
 .simp only [As,↓Au,bP,a0,a1,e1,e2,h1.len,h2.len,hlen]
  have:¬ l=m:=λe=>hlen (by rw [e])
  have hh:=hK nx (Ag _)
  rw [Ah this] at hh
  exact hh
theorem C27(k n0:Nat)(hp:Tr DObj)(nx:Nat)(K:DV->Tr DObj->Nat->Prop)(d1 d2:DV)(l m:List PDim)(hn:n0<=nx)(h1:RL rDim hp (Bl n0) d1 l)(h2:RL rDim hp (Bl n0) d2 m)(hl:l.length<900000)(hK:∀ Bm,nx<=Bm->K (bv (decide (l=m))) hp Bm):KW (kN (k+1)) (.fn 76) [d1,d2] hp nx K:=by
 refine Es (Hl (by decide)) t76 (Ab rfl) λes e1 e2 he=>?_
 have a0:Ad es (.t .o)=d1:=he 0 _ rfl
 have a1:Ad es (.t (.l .o))=d2:=he 1 _ rfl
 unfold r76
 by_cases hlen:l.length=m.length
 .simp only [As,↓Au,a0,a1,e1,h1.len,h2.len,hlen]
  refine EW.up l.length (λi Ai=>Ai.hp=hp/\nx<=Ai.nx/\Ad Ai (.t .o)=d1/\Ad Ai (.t (.l .o))=d2/\Ad Ai (.t (.r (.l (.r .o))))=iv l.length/\Ad Ai (.t (.l (.r (.r .o))))=iv (i:Nat)/\(l=m↔l.drop i=m.drop i)) ?_ ?_ (by omega)
  .rintro i Ai hi ⟨g1,g2,b0,b1,Ny,Qq,hc⟩
   unfold xZ
   by_cases c1:i<l.length
   .have c2:i<m.length:=by omega
    rw [PE c1 c2] at hc
    by_cases c4:l[i]=m[i]
    .simp only [As,↓Au,bP,b0,b1,Ny,Qq,g1,c1,uP h1 c1,uP h2 c2,(rQ h1 c1).1,(rQ h2 c2).1,h1.rox (show n0<=Ai.nx by omega),h2.rox (show n0<=Ai.nx by omega),UC h1 (show n0<=Ai.nx by omega),UC h2 (show n0<=Ai.nx by omega),AO,Z5 (show DV.refsL (dc _)=[] from rfl),E0 (show DV.refsL (dc _)=[] from rfl),Zl,B2,Ca,c4,Hz (show i<_ by omega)]
     exact ⟨by omega,by rw [hc];simp [c4]⟩
    .simp only [As,↓Au,bP,b0,b1,Ny,Qq,g1,c1,uP h1 c1,uP h2 c2,(rQ h1 c1).1,(rQ h2 c2).1,h1.rox (show n0<=Ai.nx by omega),h2.rox (show n0<=Ai.nx by omega),UC h1 (show n0<=Ai.nx by omega),UC h2 (show n0<=Ai.nx by omega),AO,Z5 (show DV.refsL (dc _)=[] from rfl),E0 (show DV.refsL (dc _)=[] from rfl),Zl,B2,Ca,c4]
     have:¬ l=m:=by rw [hc];simp [c4]
     have hh:=hK (Ai.nx+9) (by omega)
     rw [Ah this] at hh
     exact hh
   .have:l=m:=hc.2 (by rw [Bc (by omega),Bc (by omega)])
    simp only [As,↓Au,bP,Ny,Qq,g1,c1]
    have hh:=hK Ai.nx g2
    rw [Ak this] at hh
    exact hh
  .simp only [As,a0,a1,e1,e2,hlen]
 .simp only [As,↓Au,bP,a0,a1,e1,e2,h1.len,h2.len,hlen]
  have:¬ l=m:=λe=>hlen (by rw [e])
  have hh:=hK nx (Ag _)
  rw [Ah this] at hh
  exact hh
theorem C28(k n0:Nat)(hp:Tr DObj)(nx:Nat)(K:DV->Tr DObj->Nat->Prop)(d1 d2:DV)(l m:List PAttr)(hn:n0<=nx)(h1:RL rAttr hp (Bl n0) d1 l)(h2:RL rAttr hp (Bl n0) d2 m)(hl:l.length<900000)(hK:∀ Bm,nx<=Bm->K (bv (decide (l=m))) hp Bm):KW (kN (k+1)) (.fn 77) [d1,d2] hp nx K:=by
 refine Es (Hl (by decide)) t77 (Ab rfl) λes e1 e2 he=>?_
 have a0:Ad es (.t .o)=d1:=he 0 _ rfl
 have a1:Ad es (.t (.l .o))=d2:=he 1 _ rfl
 unfold r77
 by_cases hlen:l.length=m.length
 .simp only [As,↓Au,a0,a1,e1,h1.len,h2.len,hlen]
  refine EW.up l.length (λi Ai=>Ai.hp=hp/\nx<=Ai.nx/\Ad Ai (.t .o)=d1/\Ad Ai (.t (.l .o))=d2/\Ad Ai (.t (.r (.l (.r .o))))=iv l.length/\Ad Ai (.t (.l (.r (.r .o))))=iv (i:Nat)/\(l=m↔l.drop i=m.drop i)) ?_ ?_ (by omega)
  .rintro i Ai hi ⟨g1,g2,b0,b1,Ny,Qq,hc⟩
   unfold xY
   by_cases c1:i<l.length
   .have c2:i<m.length:=by omega
    rw [PE c1 c2] at hc
    by_cases c4:l[i]=m[i]
    .simp only [As,↓Au,bP,b0,b1,Ny,Qq,g1,c1,E8 h1 c1,E8 h2 c2,(E9 h1 c1).1,(E9 h2 c2).1,h1.rox (show n0<=Ai.nx by omega),h2.rox (show n0<=Ai.nx by omega),AF h1 (show n0<=Ai.nx by omega),AF h2 (show n0<=Ai.nx by omega),AO,Z5 (show DV.refsL (ac _)=[] from rfl),E0 (show DV.refsL (ac _)=[] from rfl),Zl,B3,Ca,c4,Hz (show i<_ by omega)]
     exact ⟨by omega,by rw [hc];simp [c4]⟩
    .simp only [As,↓Au,bP,b0,b1,Ny,Qq,g1,c1,E8 h1 c1,E8 h2 c2,(E9 h1 c1).1,(E9 h2 c2).1,h1.rox (show n0<=Ai.nx by omega),h2.rox (show n0<=Ai.nx by omega),AF h1 (show n0<=Ai.nx by omega),AF h2 (show n0<=Ai.nx by omega),AO,Z5 (show DV.refsL (ac _)=[] from rfl),E0 (show DV.refsL (ac _)=[] from rfl),Zl,B3,Ca,c4]
     have:¬ l=m:=by rw [hc];simp [c4]
     have hh:=hK (Ai.nx+9) (by omega)
     rw [Ah this] at hh
     exact hh
   .have:l=m:=hc.2 (by rw [Bc (by omega),Bc (by omega)])
    simp only [As,↓Au,bP,Ny,Qq,g1,c1]
    have hh:=hK Ai.nx g2
    rw [Ak this] at hh
    exact hh
  .simp only [As,a0,a1,e1,e2,hlen]
 .simp only [As,↓Au,bP,a0,a1,e1,e2,h1.len,h2.len,hlen]
  have:¬ l=m:=λe=>hlen (by rw [e])
  have hh:=hK nx (Ag _)
  rw [Ah this] at hh
  exact hh
end Go.DD

/- Contracts: names, bounds of dimensions; maps of names. Conditions: those that each theorem states. -/
namespace Go.DD
open Go Go.Proofs
def J1(l:List UInt8)(i:Nat):Prop:=∀ j,(h:j<l.length)->j<i->(j=0->iV l[j]=true)/\Ob l[j]=true
theorem B86{l:List UInt8}(h:J1 l l.length)(h0:l≠[]):Sy l=true:=by
 cases l with
 | nil=>exact absurd rfl h0
 | cons c cs=>
  have h1:=h 0 (by simp) (by simp)
  simp only [Sy,Bo,Bd]
  refine ⟨h1.1 rfl,λx hx=>?_⟩
  obtain ⟨j,hj,rfl⟩:=Br.1 hx
  exact (h (j+1) (by simpa using hj) (by simpa using hj)).2
theorem Bl5{l:List UInt8}(h:Sy l=true):J1 l l.length:=by
 cases l with
 | nil=>intro j hj;simp at hj
 | cons c cs=>
  simp only [Sy,Bo,Bd] at h
  intro j hj _
  cases j with
  | zero=>exact ⟨λ_=>h.1,by simp [Ob,h.1]⟩
  | succ j=>exact ⟨λh=>by omega,h.2 _ (by simp)⟩
theorem GK{l:List UInt8}{i:Nat}(h:J1 l i)(hi:i<l.length)(h1:i=0->iV l[i]=true)(h2:Ob l[i]=true):J1 l (i+1):=λj hj Et=>by
 by_cases e:j=i
 .subst e;exact ⟨h1,h2⟩
 .exact h j hj (by omega)
theorem A22{s:ByteArray}(h:¬ (1<=s.data.toList.length/\s.data.toList.length<=12)):Pp s=false:=by
 unfold Pp
 by_cases h1:s.size<=12
 .have:s.data.toList=[]:=Ef (by have:s.data.toList.length=s.size:=rfl;omega)
  rw [this];simp [Sy]
 .rw [Ah h1];rfl
theorem By0{s:ByteArray}(h:Sy s.data.toList=false):Pp s=false:=by unfold Pp;rw [h,Se]
theorem Cq7{s:ByteArray}(h:J1 s.data.toList s.data.toList.length)(h1:1<=s.data.toList.length/\s.data.toList.length<=12):Pp s=true:=by
 unfold Pp
 rw [B86 h (λe=>by rw [e] at h1;simp at h1),Ak (show s.size<=12 from h1.2)];rfl
theorem GN{l:List UInt8}{i:Nat}(hi:i<l.length)(h:Ob l[i]=false):Sy l=false:=by
 rw [Gc]
 intro hn
 have:=(Bl5 hn i hi hi).2
 rw [h] at this;cases this
theorem GO{l:List UInt8}(hi:0<l.length)(h:iV l[0]=false):Sy l=false:=by
 rw [Gc]
 intro hn
 have:=(Bl5 hn 0 hi hi).1 rfl
 rw [h] at this;cases this
section
variable (k:Nat) (hp:Tr DObj) (nx:Nat) (K:DV->Tr DObj->Nat->Prop)
theorem By1(s:ByteArray)(hK:K (bv (Pp s)) hp nx):KW (kN (k+1)) (.fn 83) [sv s] hp nx K:=by
 refine Es (Hl (by decide)) t83 (Ab rfl) λes e1 e2 he=>?_
 have a0:Ad es (.t .o)=sv s:=he 0 _ rfl
 unfold r83
 have Hj:s.data.toList.length=s.size:=rfl
 by_cases c1:(s.size:Int)<1
 .simp only [As,↓Au,bP,a0,e1,e2,c1]
  exact kb hK (Eq.symm (A22 (by omega)))
 by_cases c2:(12:Int)<s.size
 .simp only [As,↓Au,bP,a0,e1,e2,c1,c2]
  exact kb hK (Eq.symm (A22 (by omega)))
 simp only [As,↓Au,bP,a0,e1,c1,c2]
 refine EW.up s.data.toList.length (λi Ai=>Ai.hp=hp/\Ai.nx=nx/\Ad Ai (.t (.l (.l (.l (.l .o)))))=.sl (s.data.toList.map λc=>.v (.int .u8 (c.toNat:Int))) s.size/\Ad Ai (.t (.r (.l (.l (.l .o)))))=iv (s.size:Nat)/\Ad Ai (.t (.l (.r (.l (.l .o)))))=iv (i:Nat)/\J1 s.data.toList i) ?_ ?_ (by omega)
 .rintro i Ai hi ⟨g1,g2,b15,b16,Vi,hc⟩
  unfold xV
  by_cases h1:i<s.size
  .have aO:Qu hp 1 (.sl (s.data.toList.map λc=>.v (.int .u8 (c.toNat:Int))) s.size) (.v (.int .i64 (i:Int)))=some (.ia ((s.data.toList.map λc=>.v (.int .u8 (c.toNat:Int))).drop (i*1))):=cu h1
   have hu:=BX (show i<s.data.toList.length from h1)
   have Wd:∀ c,c=s.data.toList[i]->(Ob c=false\/(i=0/\iV c=false))->false=Pp s:=by
    rintro c rfl (h | ⟨h0,h⟩)
    .exact (By0 (GN h1 h)).symm
    .subst h0;exact (By0 (GO h1 h)).symm
   have Zg:∀ c,c=s.data.toList[i]->Ob c=true->(i=0->iV c=true)->J1 s.data.toList (i+1):=by
    rintro c rfl h h2
    exact GK hc h1 h2 h
   generalize s.data.toList[i]=c at hu Wd Zg
   have Wd:=Wd c rfl
   have Zg:=Zg c rfl
   by_cases c1:(97:Int)<=c.toNat
   .by_cases c2:(c.toNat:Int)<=122
    .simp only [As,↓Au,b15,b16,Vi,g1,g2,h1,aO,hu,c1,c2,Hz (show i<_ by omega)]
     exact ⟨h1,Zg (by simp [Ob,iV,c1,c2]) (by simp [iV,c1,c2])⟩
    .by_cases c0:(i:Int)=0
     .simp only [As,↓Au,bP,b15,b16,Vi,g1,g2,h1,aO,hu,c1,c2,Ak c0]
      exact kb hK (Wd (.inr ⟨by omega,by simp [iV,c1,c2]⟩))
     .simp only [As,↓Au,bP,b15,b16,Vi,g1,g2,h1,aO,hu,c1,c2,c0,show ¬ (c.toNat:Int)=95 by omega,show ¬ (c.toNat:Int)<48 by omega,show (57:Int)<c.toNat by omega]
      exact kb hK (Wd (.inl (by simp [Ob,iV,c1,c2];omega)))
   .by_cases c0:(i:Int)=0
    .simp only [As,↓Au,bP,b15,b16,Vi,g1,g2,h1,aO,hu,c1,Ak c0]
     exact kb hK (Wd (.inr ⟨by omega,by simp [iV,c1]⟩))
    .by_cases c3:(c.toNat:Int)=95
     .simp only [As,↓Au,b15,b16,Vi,g1,g2,h1,aO,hu,c1,c0,show decide (¬ (c.toNat:Int)=95)=false by simp [c3],Hz (show i<_ by omega)]
      exact ⟨h1,Zg (by simp [Ob,c3]) (λh=>by omega)⟩
     .by_cases c4:(c.toNat:Int)<48
      .simp only [As,↓Au,bP,b15,b16,Vi,g1,g2,h1,aO,hu,c1,c0,c3,c4]
       exact kb hK (Wd (.inl (by simp [Ob,iV,c1,c3];omega)))
      .by_cases c5:(57:Int)<c.toNat
       .simp only [As,↓Au,bP,b15,b16,Vi,g1,g2,h1,aO,hu,c1,c0,c3,c4,c5]
        exact kb hK (Wd (.inl (by simp [Ob,iV,c1,c3];omega)))
       .simp only [As,↓Au,b15,b16,Vi,g1,g2,h1,aO,hu,c1,c0,c3,c4,c5,Hz (show i<_ by omega)]
        exact ⟨h1,Zg (by simp [Ob,c3];omega) (λh=>by omega)⟩
  .simp only [As,↓Au,bP,b16,Vi,g1,g2,h1]
   obtain rfl:i=s.data.toList.length:=by omega
   exact kb hK (Eq.symm (Cq7 hc (by omega)))
 .simp only [As,e1,e2]
  exact λj _ h=>by omega
end
end Go.DD

/- Contracts: bounds of dimensions; maps of names. Conditions: those that each theorem states. -/
namespace Go.DD
open Go Go.Proofs
theorem zc(a:Int):sY false (.v (.int .i64 a)) (.v (.int .i64 1073741824))=some (.v (.int .i64 (min a 1073741824))):=Cg6 _ _ _ _
theorem pW{hp:Tr DObj}{id T:Nat}{x:PDim}(h:hp.get id=some (.row T (dc x))):(Mx hp 0 (.pt id 0)=some (.pt id 0)/\Mx hp 1 (.pt id 0)=some (.pt id 1)/\Mx hp 2 (.pt id 0)=some (.pt id 2))/\Fy hp none (.pt id 0)=some (sv x.name)/\Fy hp none (.pt id 1)=some (iv x.lo)/\Fy hp none (.pt id 2)=some (iv x.hi):=by
 refine ⟨⟨Py h,Py h,Py h⟩,?_,?_,?_⟩ <;> rw [Qz h] <;> rfl
theorem OF{hp:Tr DObj}{id T:Nat}{x:PAttr}(h:hp.get id=some (.row T (ac x))):(Mx hp 0 (.pt id 0)=some (.pt id 0)/\Mx hp 1 (.pt id 0)=some (.pt id 1))/\Fy hp none (.pt id 0)=some (sv x.name)/\Fy hp none (.pt id 1)=some (iv x.type):=by
 refine ⟨⟨Py h,Py h⟩,?_,?_⟩ <;> rw [Qz h] <;> rfl
section
variable (k:Nat) (hp:Tr DObj) (nx:Nat) (K:DV->Tr DObj->Nat->Prop) (x:PDim)
theorem Cq8(hK:∀ An Bm,Al hp nx An Bm->K (iv (bV x)) An Bm):KW (kN (k+1)) (.fn 180) [.agg (dc x)] hp nx K:=by
 refine Es (Hl (by decide)) XI (Ab rfl) λes e1 e2 he=>?_
 have a0:Ad es (.t .o)=.agg (dc x):=he 0 _ rfl
 unfold EV
 simp only [↓Au]
 refine Xv (cs:=dc x) (by rw [Ha,a0];exact dW rfl) λEi Dn Dd=>?_
 simp only [bR,e1,e2] at Dn Dd
 obtain ⟨⟨_,_,f2⟩,_,_,l2⟩:=pW Dn
 simp only [As,↓Au,bP,e2,f2,l2,zc]
 exact hK _ _ ⟨by omega,λj hj=>Dd j (by omega)⟩
end
structure MapS (hp:Tr DObj) (im:Nat) (met:List ByteArray):Prop where
 ex:∃ ck es,hp.get im=some (.mapo ck es)/\(∀ e∈es,e.v=bv true/\∃ s∈met,e.k=.string s)/\∀ s∈met,∃ e∈es,e.k=.string s
theorem MapS.nil{hp:Tr DObj}{im ck:Nat}(h:hp.get im=some (.mapo ck [])):MapS hp im []:=⟨ck,[],h,(λ_ h=>by cases h),(λ_ h=>by cases h)⟩
theorem MapS.keep{hp An:Tr DObj}{im:Nat}{met:List ByteArray}(h:MapS hp im met)(hk:An.get im=hp.get im):MapS An im met:=by
 obtain ⟨ck,es,h1,h2,h3⟩:=h
 exact ⟨ck,es,hk.trans h1,h2,h3⟩
theorem memB_iff{s:ByteArray}{l:List ByteArray} : bQ s l=true↔s∈l:=by
 unfold bQ
 rw [Vs]
 constructor
 .rintro ⟨x,hx,he⟩
  rw [<- En he];exact hx
 .intro h;exact ⟨s,h,Ak rfl⟩
theorem NC(a b:ByteArray):(a.data.toList==b.data.toList)=decide (a=b):=by
 rw [<- Ln,ByteArray.toList_eq,ByteArray.toList_eq]
theorem pM:∀ (es:List ME) (s:ByteArray) (i:Nat),(∀ e∈es,∃ t,e.k=.string t)->(findD (.p .string) (.string s) es i=some none/\∀ e∈es,e.k≠.string s)\/∃ j e,findD (.p .string) (.string s) es i=some (some (i+j,e))/\e∈es/\e.k=.string s/\es[j]?=some e
 | [],s,i,_=>.inl ⟨rfl,λ_ h=>by cases h⟩
 | e::es,s,i,hk=>by
  obtain ⟨t,ht⟩:=hk e (Ct ..)
  have hs:Oa (.p .string) (.string s) e.k=some (decide (s=t)):=by
   rw [ht]
   show some (s.data.toList==t.data.toList)=_
   rw [NC]
  by_cases h:s=t
  .refine .inr ⟨0,e,?_,Ct ..,by rw [ht,h],rfl⟩
   unfold findD;rw [hs,Ak h];rfl
  .have hfd:findD (.p .string) (.string s) (e::es) i=findD (.p .string) (.string s) es (i+1):=by
    conv=>lhs;unfold findD
    rw [hs,Ah h]
   rcases pM es s (i+1) (λe he=>hk e (Bh _ he)) with ⟨h1,h2⟩ | ⟨j,e',h1,h2,h3,h4⟩
   .refine .inl ⟨hfd.trans h1,λx hx=>?_⟩
    rcases Ap.1 hx with rfl | hx
    .rw [ht];intro e;exact h (Value.string.inj e).symm
    .exact h2 x hx
   .exact .inr ⟨j+1,e',by rw [hfd,h1,Pm,Wo 1 j],Bh _ h2,h3,by simpa using h4⟩
theorem MapS.lkp{hp:Tr DObj}{im:Nat}{met:List ByteArray}(h:MapS hp im met)(s:ByteArray):Ql hp (.p .string) (.bool false) (.mp im) (.v (.string s))=some (.v (.bool (bQ s met))):=by
 obtain ⟨ck,es,h1,h2,h3⟩:=h
 unfold Ql
 show (if iX (.p .string) (.string s)=true then _ else none)=_
 rw [Af (by rfl)]
 simp only [h1]
 rcases pM es s 0 (λe he=>by obtain ⟨_,t,_,ht⟩:=h2 e he;exact ⟨t,ht⟩) with ⟨h4,h5⟩ | ⟨j,e,h4,h5,h6,_⟩
 .rw [h4]
  have:bQ s met=false:=by
   rw [Gc]
   intro hm
   obtain ⟨e,he,hs⟩:=h3 s (memB_iff.1 hm)
   exact h5 e he hs
  rw [this];rfl
 .rw [h4]
  obtain ⟨hv,t,ht,hkt⟩:=h2 e h5
  have:t=s:=by rw [h6] at hkt;exact (Value.string.inj hkt).symm
  subst this
  rw [memB_iff.2 ht]
  simp only [Gm]
  rw [hv];rfl
theorem Bl6{call:Bg}{es:ES}{dst:Option Pa}{q:Hold (ES->Prop)}{x k y:Operand}{im:Nat}{met:List ByteArray}{s:ByteArray}(hm:MapS es.hp im met)(e1:es.ds.ev x=.mp im)(e2:es.ds.ev k=sv s)(e3:es.ds.ev y=bv true)
  (h:∀ An,MapS An im (met ++ [s])->(∀ j,j≠im->An.get j=es.hp.get j)->q.val ((ES.mk es.sl An es.nx).putE dst .any)) :
  Na (sU dst (Bi (.mup (.p .string) x k y))) call es:=by
 obtain ⟨ck,l,h1,h2,h3⟩:=hm
 show SW _ _ _ _
 rw [sw_u,Ft]
 have key:∀ Ua Cd,Mj (.p .string) (.string s) (bv true) ck l=some (Ua,Cd)->Ba es.nx es.ds (.mup (.p .string) x k y)=some (.any,.wr im (.mapo Ua Cd)):=by
  intro Ua Cd hp
  simp only [Ba,e1,e2,e3,Vx,sv]
  rw [Af (by rfl)]
  show (match es.hp.get im with
   | some (.mapo ck es)=>match Mj (.p .string) (.string s) (bv true) ck es with
    | some p=>some (DV.any,Upd.wr im (.mapo p.1 p.2))
    | none=>none
   | _=>none)=_
  rw [h1]
  simp only [hp]
 have fin:∀ Ua Cd,Mj (.p .string) (.string s) (bv true) ck l=some (Ua,Cd)->(∀ e∈Cd,e.v=bv true/\∃ t∈met ++ [s],e.k=.string t)->(∀ t∈met ++ [s],∃ e∈Cd,e.k=.string t)->UW (Ba es.nx es.ds (.mup (.p .string) x k y)) λd u=>q.val ((es.up u).putE dst d):=by
  intro Ua Cd hp h4 h5
  exact ⟨_,_,key Ua Cd hp,h (es.up (.wr im (.mapo Ua Cd))).hp ⟨Ua,Cd,by rw [Ld,get_set,Af rfl],h4,h5⟩ λj hj=>by rw [Ld,get_set,Ae hj]⟩
 rcases pM l s 0 (λe he=>by obtain ⟨_,t,_,ht⟩:=h2 e he;exact ⟨t,ht⟩) with ⟨h4,h5⟩ | ⟨j,e,h4,h5,h6,h7⟩
 .refine fin (ck+1) (l ++ [⟨.string s,bv true,ck⟩]) (by unfold Mj;rw [h4]) (λe he=>?_) (λt ht=>?_)
  .rcases Ax.1 he with he | he
   .obtain ⟨a,t,b,c⟩:=h2 e he
    exact ⟨a,t,Cj _ b,c⟩
   .obtain rfl:=Aj.1 he
    exact ⟨rfl,s,by simp,rfl⟩
  .rcases Ax.1 ht with ht | ht
   .obtain ⟨e,he,hk⟩:=h3 t ht
    exact ⟨e,Cj _ he,hk⟩
   .obtain rfl:=Aj.1 ht
    exact ⟨_,Ce _ (Aj.2 rfl),rfl⟩
 .have hj:j<l.length:=(Aq.1 h7).1
  refine fin ck (l.set j ⟨.string s,bv true,e.b⟩) (by unfold Mj;rw [h4,Df]) (λx hx=>?_) (λt ht=>?_)
  .rcases Sr hx with hx | hx
   .obtain ⟨a,t,b,c⟩:=h2 x hx
    exact ⟨a,t,Cj _ b,c⟩
   .subst hx
    exact ⟨rfl,s,by simp,rfl⟩
  .by_cases ee:t=s
   .subst ee
    exact ⟨_,List.mem_set hj _,rfl⟩
   .have Wi:t∈met:=by
     rcases Ax.1 ht with ht | ht
     .exact ht
     .exact absurd (Aj.1 ht) ee
    obtain ⟨x,hx,hk⟩:=h3 t Wi
    obtain ⟨i,hi,rfl⟩:=Br.1 hx
    refine ⟨l[i],?_,hk⟩
    have Nu:j≠i:=by
     intro e2
     subst e2
     rw [Aa hi] at h7
     have:=Hc h7
     rw [this,h6] at hk
     exact ee (Value.string.inj hk).symm
    refine Br.2 ⟨i,by simpa using hi,?_⟩
    rw [List.getElem_set_ne Nu]
end Go.DD

/- Contracts: schemas. Conditions: those that each theorem states. -/
namespace Go.DD
open Go Go.Proofs
theorem UZ{α β:Type}(f:α->β){l:List α}{i:Nat}(h:i<l.length):(l.take (i+1)).map f=(l.take i).map f ++ [f l[i]]:=by
 rw [Ga h,Cn];rfl
theorem Cq9{met:List ByteArray}{l:List PDim}{i:Nat}(h:i<l.length):Zm met (l.drop i)=if Pp l[i].name=false\/bQ l[i].name met=true then 11 else if Y7 l[i]=false then 3 else Zm (met ++ [l[i].name]) (l.drop (i+1)):=by
 rw [Bb h];rfl
theorem B87{met:List ByteArray}{l:List PAttr}{i:Nat}(h:i<l.length):AS met (l.drop i)=if Pp l[i].name=false\/bQ l[i].name met=true then 11 else if l[i].type<1\/4<l[i].type then 12 else AS (met ++ [l[i].name]) (l.drop (i+1)):=by
 rw [Bb h];rfl
theorem MapS.live{hp:Tr DObj}{im:Nat}{met:List ByteArray}(h:MapS hp im met):Cg hp (.mp im)=.mp im:=by
 obtain ⟨ck,es,h1,_⟩:=h
 exact iZ h1
section
variable (k n0:Nat) (hp:Tr DObj) (nx:Nat) (K:DV->Tr DObj->Nat->Prop)
theorem Cr0(d:DV)(l:List PDim)(im:Nat)(hn:n0<=nx)(h1:RL rDim hp (Bl n0) d l)(hm:MapS hp im [])(Ty:n0<=im/\im<nx)
  (hK:∀ An Bm,nx<=Bm->(∀ j,j<nx->j≠im->An.get j=hp.get j)->(Oo l=0->MapS An im (l.map PDim.name))->K (iv (Oo l)) An Bm):KW (kN (k+2)) (.fn 156) [d,.mp im] hp nx K:=by
 refine Es (Hl (by decide)) XT (Ab rfl) λes e1 e2 he=>?_
 have a0:Ad es (.t .o)=d:=he 0 _ rfl
 have a1:Ad es (.t (.l .o))=.mp im:=he 1 _ rfl
 unfold FH
 by_cases c1:(l.length:Int)<1
 .simp only [As,↓Au,bP,a0,e1,e2,h1.len,c1]
  have hh:=hK hp nx (Ag _) (λ_ _ _=>rfl)
  unfold Oo at hh
  rw [Af (.inl (by omega))] at hh
  exact hh (λh=>by cases h)
 by_cases c2:(4:Int)<l.length
 .simp only [As,↓Au,bP,a0,e1,e2,h1.len,c1,c2]
  have hh:=hK hp nx (Ag _) (λ_ _ _=>rfl)
  unfold Oo at hh
  rw [Af (.inr (by omega))] at hh
  exact hh (λh=>by cases h)
 unfold Oo at hK
 rw [Ae (by omega)] at hK
 simp only [As,↓Au,a0,e1,h1.len,c1,c2]
 refine EW.up l.length (λi Ai=>nx<=Ai.nx/\(∀ j,j<nx->j≠im->Ai.hp.get j=hp.get j)/\MapS Ai.hp im ((l.take i).map PDim.name)/\Ad Ai (.t (.l .o))=.mp im/\Ad Ai (.t (.l (.l (.l (.l .o)))))=d/\Ad Ai (.t (.r (.l (.l (.l .o)))))=iv l.length/\Ad Ai (.t (.l (.r (.l (.l .o)))))=iv (i:Nat)/\Zm [] l=Zm ((l.take i).map PDim.name) (l.drop i)) ?_ ?_ (by omega)
 .rintro i Ai hi ⟨g1,g2,gm,b1,b15,b16,Vi,hc⟩
  unfold Ci0
  by_cases h:i<l.length
  .have r1:RL rDim Ai.hp (Bl n0) d l:=h1.keep λj hj=>g2 j (Bs hj hn) (Nat.ne_of_lt (Bs hj Ty.1))
   rw [Cq9 h] at hc
   simp only [Jj,↓Ji,b15,b16,Vi,h,uP r1 h,(rQ r1 h).1]
   refine Rz λEi Dn Dd=>?_
   simp only [bR] at Dn Dd
   simp only [Jj,↓Ji]
   refine Qx (id:=Ai.nx) (ds:=dc l[i]) (by simp only [bR]) Dn (by simp only [Ha,bR];exact dW rfl) rfl rfl λCw Fw Fa=>?_
   simp only [bR] at Fw Fa
   obtain ⟨⟨f0,f1,f2⟩,l0,l1,l2⟩:=pW Fw
   have SL:MapS Cw im ((l.take i).map PDim.name):=gm.keep (by rw [Fa im (by omega),Dd im (by omega)])
   have oc:∀ j,j<nx->j≠im->Cw.get j=hp.get j:=λj hj Gt=>by rw [Fa j (by omega),Dd j (by omega),g2 j hj Gt]
   simp only [Jj,↓Ji,f0,l0]
   refine Fh (By1 (k:=k) _ _ _ _ ?_)
   simp only [Jj,↓Ji,bP,b1,f0,l0,SL.live,SL.lkp]
   refine rH (λc=>?_) (λc=>?_)
   .rw [Af (by simpa using c)] at hc
    rw [hc] at hK
    simp only [Jj,↓Ji,bP]
    exact hK _ _ (by omega) oc (λh=>by cases h)
   .rw [Ae (by simpa using c)] at hc
    simp only [Jj,↓Ji,f1,f2,l1,l2]
    refine rH (λc2=>?_) (λc2=>?_)
    .have:Y7 l[i]=false:=by
      unfold Y7
      rw [Gc]
      intro hb
      simp at c2 hb
      omega
     rw [Af this] at hc
     rw [hc] at hK
     simp only [Jj,↓Ji,bP]
     exact hK _ _ (by omega) oc (λh=>by cases h)
    .have:¬ Y7 l[i]=false:=by
      unfold Y7
      simp at c2 ⊢
      omega
     rw [Ae this] at hc
     simp only [Jj,↓Ji,b1,f0,l0]
     refine Bl6 (im:=im) (s:=l[i].name) SL (by simp only [Dc,bR,bP];exact SL.live) (by simp only [Dc,bR,bP];exact vy _ _) (by rfl) λGn hm3 Hy=>?_
     simp only [bR] at Hy
     simp only [Jj,↓Ji,b1,b15,b16,Vi,h,Hz (show i<_ by omega)]
     refine ⟨by omega,λj hj Gt=>by rw [Hy j Gt,oc j hj Gt],by rw [UZ _ h];exact hm3,by rw [UZ _ h];exact hc⟩
  .simp only [Jj,↓Ji,bP,b16,Vi,h]
   have e:l.drop i=[]:=Bc (by omega)
   rw [e] at hc
   rw [hc] at hK
   refine hK _ _ g1 g2 (λ_=>?_)
   rwa [Bq (by omega)] at gm
 .simp only [As,a1,e1,e2]
  exact ⟨λ_ _ _=>trivial,hm,rfl⟩
end
end Go.DD

/- Contracts: schemas, by the program and by the reference. Conditions: those that each theorem states. -/
namespace Go.DD
open Go Go.Proofs
section
variable (k n0:Nat) (hp:Tr DObj) (nx:Nat) (K:DV->Tr DObj->Nat->Prop) (d a:DV) (l:List PDim) (m:List PAttr) (hn:n0<=nx) (h1:RL rDim hp (Bl n0) d l) (h2:RL rAttr hp (Bl n0) a m)
include hn h1 h2
theorem Bb2(hK:∀ An Bm,Al hp nx An Bm->K (iv (iY l m)) An Bm):KW (kN (k+3)) (.fn 121) [d,a] hp nx K:=by
 refine Es (Hl (by decide)) YL (Ab rfl) λes e1 e2 he=>?_
 have a0:Ad es (.t .o)=d:=he 0 _ rfl
 have a1:Ad es (.t (.l .o))=a:=he 1 _ rfl
 unfold FY
 simp only [Jj,↓Ji]
 refine Bx4 λEi Dn Dd=>?_
 simp only [bR,e1,e2] at Dn Dd
 simp only [Jj,↓Ji,a0,e2]
 have r1:RL rDim Ei (Bl n0) d l:=h1.keep λj hj=>Dd j (by have:j<n0:=hj;omega)
 have r2:RL rAttr Ei (Bl n0) a m:=h2.keep λj hj=>Dd j (by have:j<n0:=hj;omega)
 refine Fh (Cr0 (k+1-1) n0 _ _ _ d l nx (by omega) r1 (MapS.nil Dn) ⟨hn,by omega⟩ λCw Dt Xh Fa oJ=>?_)
 have Dh:Al hp nx Cw Dt:=⟨by omega,λj hj=>by rw [Fa j (by omega) (by omega),Dd j (by omega)]⟩
 have r3:RL rAttr Cw (Bl n0) a m:=h2.ka hn Dh
 simp only [Jj,↓Ji]
 unfold iY at hK
 refine rH (λc=>?_) (λc=>?_)
 .have c0:Oo l≠0:=by simpa using c
  rw [Af c0] at hK
  simp only [Jj,↓Ji,bP]
  exact hK _ _ Dh
 .have c0:Oo l=0:=by simpa using c
  rw [Ae (by simp [c0])] at hK
  have gm:=oJ c0
  simp only [Jj,↓Ji,a1,r3.len]
  refine rH (λc=>?_) (λc=>?_)
  .rw [Af (by simp at c;omega)] at hK
   simp only [Jj,↓Ji,bP]
   exact hK _ _ Dh
  .rw [Ae (by simp at c;omega)] at hK
   have hlen:m.length<=6:=by simp at c;omega
   simp only [Jj,↓Ji,a1,r3.len]
   refine EW.up m.length (λi Ai=>Dt<=Ai.nx/\Al hp nx Ai.hp Ai.nx/\MapS Ai.hp nx (l.map PDim.name++(m.take i).map PAttr.name)/\Ad Ai (.t (.l (.r .o)))=.mp nx/\Ad Ai (.t (.r (.l (.l (.r .o)))))=a/\Ad Ai (.t (.l (.r (.l (.r .o)))))=iv m.length/\Ad Ai (.t (.r (.r (.l (.r .o)))))=iv (i:Nat)/\AS (l.map PDim.name) m=AS (l.map PDim.name++(m.take i).map PAttr.name) (m.drop i)) ?_ ?_ (by omega)
   .rintro i Ai hi ⟨gn,g2,gm,b5,Y0,qD,lQ,hc⟩
    unfold Ch5
    by_cases h:i<m.length
    .have r4:RL rAttr Ai.hp (Bl n0) a m:=h2.ka hn g2
     rw [B87 h] at hc
     simp only [Jj,↓Ji,Y0,qD,lQ,h,E8 r4 h,(E9 r4 h).1]
     refine Rz λGn Kv Hy=>?_
     simp only [bR] at Kv Hy
     simp only [Jj,↓Ji]
     refine Qx (id:=Ai.nx) (ds:=ac m[i]) (by simp only [bR]) Kv (by simp only [Ha,bR];exact dW rfl) rfl rfl λFq Kf Fl=>?_
     simp only [bR] at Kf Fl
     obtain ⟨⟨f0,f1⟩,l0,l1⟩:=OF Kf
     have hle:=g2.le
     have R0:MapS Fq nx (l.map PDim.name++(m.take i).map PAttr.name):=gm.keep (by rw [Fl nx (by omega),Hy nx (by omega)])
     have oa:Al hp nx Fq (Ai.nx+1):=⟨by omega,λj hj=>by rw [Fl j (by omega),Hy j (by omega),g2.same j hj]⟩
     simp only [Jj,↓Ji,f0,l0]
     refine Fh (By1 (k:=k+1) _ _ _ _ ?_)
     simp only [Jj,↓Ji,bP,b5,f0,l0,R0.live,R0.lkp]
     refine rH (λc=>?_) (λc=>?_)
     .rw [Af (by simpa using c)] at hc
      rw [hc] at hK
      simp only [Jj,↓Ji,bP]
      exact hK _ _ oa
     .rw [Ae (by simpa using c)] at hc
      simp only [Jj,↓Ji,f1,l1]
      refine rH (λc2=>?_) (λc2=>?_)
      .rw [Af (by simpa using c2)] at hc
       rw [hc] at hK
       simp only [Jj,↓Ji,bP]
       exact hK _ _ oa
      .rw [Ae (by simpa using c2)] at hc
       simp only [Jj,↓Ji,b5,f0,l0]
       refine Bl6 (im:=nx) (s:=m[i].name) R0 (by simp only [Dc,bR,bP];exact R0.live) (by simp only [Dc,bR,bP];exact vy _ _) (by rfl) λGr hm5 Jd=>?_
       simp only [bR] at Jd
       simp only [Jj,↓Ji,b5,Y0,qD,lQ,h,Hz (show i<_ by omega)]
       refine ⟨by omega,⟨by omega,λj hj=>by rw [Jd j (by omega),oa.same j hj]⟩,by rw [UZ _ h,<- Bv];exact hm5,by rw [UZ _ h,<- Bv];exact hc⟩
    .simp only [Jj,↓Ji,bP,qD,lQ,h]
     have e:m.drop i=[]:=Bc (by omega)
     rw [e] at hc
     rw [hc] at hK
     exact hK _ _ g2
   .simp only [Jj]
    exact ⟨Dh,by simpa using gm,by simp⟩
omit h2
end
end Go.DD

/- Contracts: the reference's schemas. Conditions: those that each theorem states. -/
namespace Go.DD
open Go Go.Proofs
section
variable (k n0:Nat) (hp:Tr DObj) (nx:Nat) (K:DV->Tr DObj->Nat->Prop) (d a:DV) (l:List PDim) (m:List PAttr) (hn:n0<=nx) (h1:RL rDim hp (Bl n0) d l) (h2:RL rAttr hp (Bl n0) a m)
include hn h1 h2
end
end Go.DD

/- Contracts: natural numbers of few digits, greatest common divisors. Conditions: those that each theorem states. -/
namespace Go.DD
open Go Go.Proofs
section
variable (k:Nat) (hp:Tr DObj) (nx:Nat) (K:DV->Tr DObj->Nat->Prop)
end
end Go.DD

/- Contracts: greatest common divisors; what values are valid, by the program. Conditions: those that each theorem states. -/
namespace Go.DD
open Go Go.Proofs
theorem B88(a b:Nat):Nat.gcd b (a % b)=Nat.gcd a b:=by rw [Nat.gcd_comm b,<- Nat.gcd_rec,Nat.gcd_comm]
theorem B89{a b:Nat}(h:b<=a)(hb:b≠0):2*(a % b)<=a:=by
 have h1:=Nat.mod_lt a (show b>0 by omega)
 have h2:=Nat.div_add_mod a b
 have h3:1<=a / b:=(Nat.le_div_iff_mul_le (by omega)).2 (by omega)
 have h4:b*1<=b*(a / b):=Nat.mul_le_mul_left b h3
 omega
def GM(m a b:Nat):Prop:=(b<=a/\a*b<2 ^ m)\/(a<b/\∃ m',m=m'+1/\a*b<2 ^ m')
theorem GM.ini{a b:Nat}(ha:a<2 ^ 50)(hb:b<2 ^ 50):GM 101 a b:=by
 have iL:a*b<2 ^ 100:=by
  have:a*b<=2 ^ 50*b:=Cz b (by omega)
  have h2:2 ^ 50*b<2 ^ 50*2 ^ 50:=Nat.mul_lt_mul_of_pos_left hb (by decide)
  have h3:(2:Nat) ^ 50*2 ^ 50=2 ^ 100:=by decide
  omega
 by_cases h:b<=a
 .exact .inl ⟨h,by rw [show (2:Nat) ^ 101=2 ^ 100*2 from rfl];omega⟩
 .exact .inr ⟨by omega,100,rfl,iL⟩
theorem GM.step{m a b:Nat}(h:GM m a b)(h0:b≠0):∃ m',m'<m/\GM m' b (a % b):=by
 have Et:=Nat.mod_lt a (show b>0 by omega)
 rcases h with ⟨h1,h2⟩ | ⟨h1,m',rfl,h2⟩
 .have hh:=B89 h1 h0
  have uA:1<=a*b:=Nat.mul_pos (by omega) (by omega)
  cases m with
  | zero=>simp at h2;omega
  | succ m=>
   refine ⟨m,by omega,.inl ⟨by omega,?_⟩⟩
   have h3:2*(b*(a % b))<=a*b:=by
    rw [show 2*(b*(a % b))=(2*(a % b))*b by rw [Nat.mul_comm b,Nat.mul_assoc]]
    exact Cz b hh
   rw [Nat.pow_succ] at h2
   omega
 .refine ⟨m',by omega,.inl ⟨by omega,?_⟩⟩
  rw [Nat.mod_eq_of_lt h1,Nat.mul_comm]
  exact h2
section
variable (k:Nat) (hp:Tr DObj) (nx:Nat) (K:DV->Tr DObj->Nat->Prop)
theorem C29(a b:Nat)(ha:a<2 ^ 50)(hb:b<2 ^ 50)(hK:∀ Bm,nx<=Bm->K (iv (Nat.gcd a b:Nat)) hp Bm):KW (kN (k+1)) (.fn 182) [iv (a:Nat),iv (b:Nat)] hp nx K:=by
 refine Es (Hl (by decide)) XG (Ab rfl) λes e1 e2 he=>?_
 have a0:Ad es (.t .o)=iv (a:Nat):=he 0 _ rfl
 have a1:Ad es (.t (.l .o))=iv (b:Nat):=he 1 _ rfl
 unfold ET
 simp only [As,↓Au]
 refine EW.l (I:=λm Ai=>∃ a' b',GM m a' b'/\Ai.hp=hp/\nx<=Ai.nx/\Ad Ai (.t .o)=iv (a':Nat)/\Ad Ai (.t (.l .o))=iv (b':Nat)/\Nat.gcd a' b'=Nat.gcd a b) ?_ 101 1000000 _ ?_ (by omega)
 .rintro m Ai ⟨a',b',hm,g1,g2,q0,q1,hg⟩
  unfold Ci2
  by_cases h0:b'=0
  .subst h0
   simp only [As,↓Au,bP,q0,q1]
   rw [Nat.gcd_zero_right] at hg
   rw [g1,hg]
   exact hK _ g2
  .have h0':¬ (b':Int)=0:=by omega
   simp only [As,↓Au,q0,q1,h0',ud h0]
   obtain ⟨m',h1,h2⟩:=hm.step h0
   exact ⟨m',h1,b',a' % b',h2,g1,by omega,rfl,rfl,by rw [B88,hg]⟩
 .exact ⟨a,b,GM.ini ha hb,by simp only [As,e1],by simp only [As,e2],by simp only [As,a0],by simp only [As,a1],rfl⟩
end
end Go.DD

/- Contracts: what values are valid, by the program. Conditions: those that each theorem states. -/
namespace Go.DD
open Go Go.Proofs
section
variable {call:Bg} {es:ES} {Q:ES->Prop} {dst:Option Pa} {q:Hold (ES->Prop)}
theorem BA{x:Operand} : SW (sU dst (Bi (.rgs x))) call es Q↔@Na (sU dst (Bi (.rgs x))) call es ⟨Q⟩:=Dg
theorem BB{x:Operand} : SW (sU dst (Bi (.nxs x))) call es Q↔@Na (sU dst (Bi (.nxs x))) call es ⟨Q⟩:=Dg
theorem Cr1{x:Operand}{s:ByteArray}(e:es.ds.ev x=sv s)(h:∀ An,An.get es.nx=some (.siter s 0)->(∀ j,j≠es.nx->An.get j=es.hp.get j)->q.val ((ES.mk es.sl An (es.nx+1)).putE dst (.pt es.nx 0))):Na (sU dst (Bi (.rgs x))) call es:=by
 show SW _ _ _ _
 rw [sw_u,Ft]
 refine ⟨.pt es.nx 0,.lay (.siter s 0),?_,h (es.up (.lay (.siter s 0))).hp (by rw [Zu,get_set,Af rfl]) λj hj=>by rw [Zu,get_set,Ae hj]⟩
 simp only [Ba,e]
theorem Cr2{x:Operand}{s:ByteArray}{id pos:Nat}(e:es.ds.ev x=.pt id 0)(hg:es.hp.get id=some (.siter s pos))
  (h1:¬ pos<s.size->q.val (es.putE dst (.tup [.v (.bool false)])))
  (h2:∀ An,pos<s.size->An.get id=some (.siter s (pos+(Utf8.decode s pos).2))->(∀ j,j≠id->An.get j=es.hp.get j)->q.val ((ES.mk es.sl An es.nx).putE dst (.tup [.v (.bool true),.v (.int .i64 (pos:Nat)),.v (.int .i32 ((Utf8.decode s pos).1:Nat))]))):Na (sU dst (Bi (.nxs x))) call es:=by
 show SW _ _ _ _
 rw [sw_u,Ft]
 have hx:Ba es.nx es.ds (.nxs x)=if pos<s.size then some (.tup [.v (.bool true),.v (.int .i64 (pos:Nat)),.v (.int .i32 ((Utf8.decode s pos).1:Nat))],.wr id (.siter s (pos+(Utf8.decode s pos).2))) else some (.tup [.v (.bool false)],.keep):=by
  simp only [Ba,e]
  show (match es.hp.get id with
   | some (.siter t pos)=>if pos<t.size then some (DV.tup [.v (.bool true),.v (.int .i64 (pos:Nat)),.v (.int .i32 ((Utf8.decode t pos).1:Nat))],Upd.wr id (.siter t (pos+(Utf8.decode t pos).2))) else some (.tup [.v (.bool false)],.keep)
   | _=>none)=_
  rw [hg]
 rw [hx]
 by_cases h:pos<s.size
 .rw [Af h]
  exact ⟨_,_,rfl,h2 (es.up (.wr id (.siter s (pos+(Utf8.decode s pos).2)))).hp h (by rw [Ld,get_set,Af rfl]) λj hj=>by rw [Ld,get_set,Ae hj]⟩
 .rw [Ae h]
  exact ⟨_,_,rfl,h1 h⟩
end
theorem MW{hp:Tr DObj}{v:Value} : Fb hp (.tup [.v v]) 0=some (.v v):=nr rfl
theorem C30{hp:Tr DObj}{u v w:Value} : Fb hp (.tup [.v u,.v v,.v w]) 0=some (.v u):=nr rfl
theorem Yr{hp:Tr DObj}{id T:Nat}{x:PVal}(h:hp.get id=some (.row T (vc x))):(Mx hp 0 (.pt id 0)=some (.pt id 0)/\Mx hp 1 (.pt id 0)=some (.pt id 1)/\Mx hp 2 (.pt id 0)=some (.pt id 2)/\Mx hp 3 (.pt id 0)=some (.pt id 3))/\Fy hp none (.pt id 0)=some (iv x.kind)/\Fy hp none (.pt id 1)=some (iv x.n)/\Fy hp none (.pt id 2)=some (iv x.d)/\Fy hp none (.pt id 3)=some (sv x.s)/\Fy hp (some 4) (.pt id 0)=some (.agg (vc x)):=by
 refine ⟨⟨Py h,Py h,Py h,Py h⟩,?_,?_,?_,?_,?_⟩ <;> rw [Qz h] <;> rfl
theorem T1(s:ByteArray):decide (s=bs [])=NB s:=(Ln s (bs [])).symm
section
variable (k:Nat) (hp:Tr DObj) (nx:Nat) (K:DV->Tr DObj->Nat->Prop)
theorem Bl7(v:PVal)(hK:∀ An Bm,Al hp nx An Bm->K (bv (AT v)) An Bm):KW (kN (k+1)) (.fn 181) [.agg (vc v)] hp nx K:=by
 refine Es (Hl (by decide)) XH (Ab rfl) λes e1 e2 he=>?_
 have a0:Ad es (.t .o)=.agg (vc v):=he 0 _ rfl
 unfold EU
 simp only [↓Ji]
 refine Xv (cs:=vc v) (by rw [Ha,a0];exact dW rfl) λEi Dn Dd=>?_
 simp only [bR,e1,e2] at Dn Dd
 obtain ⟨⟨_,_,f2,f3⟩,_,_,l2,l3,_⟩:=Yr Dn
 simp only [Jj,↓Ji,bP,e2,f2,f3,l2,l3,T1]
 exact kb (hK _ _ ⟨by omega,λj hj=>Dd j (by omega)⟩) rfl
theorem Ci9(r:Nat)(hK:K (bv (!(decide ((32:Int)<=(r:Int))&&decide ((r:Int)<=126)))) hp nx):KW (kN (k+1)) (.fn 183) [.v (.int .i32 (r:Int))] hp nx K:=by
 refine Es (Hl (by decide)) XF (Ab rfl) λes e1 e2 he=>?_
 have a0:Ad es (.t .o)=.v (.int .i32 (r:Int)):=he 0 _ rfl
 unfold ER
 simp only [Jj,↓Ji,bP,a0,e1,e2]
 refine kb hK ?_
 rw [Bool.eq_iff_iff];simp
theorem By2(s:ByteArray)(hl:s.size<900000)(hK:∀ r An Bm,Al hp nx An Bm->(decide (r<0)=Vj s)->K (iv r) An Bm):KW (kN (k+2)) (.fn 202) [sv s,.fn (.func 183) [.tup []],bv true] hp nx K:=by
 refine Es (Hl (by decide)) XA (Ab rfl) λes e1 e2 he=>?_
 have a0:Ad es (.t .o)=sv s:=he 0 _ rfl
 have a1:Ad es (.t (.l .o))=.fn (.func 183) [.tup []]:=he 1 _ rfl
 have a2:Ad es (.t (.r .o))=bv true:=he 2 _ rfl
 unfold EK
 simp only [Jj,↓Ji,a0,↓BA]
 refine Cr1 (s:=s) (by simp only [Dc,bR,bP];exact vy _ _) λEi Dn Dd=>?_
 simp only [bR,e1,e2] at Dn Dd
 simp only [Jj,↓Ji,e2]
 refine EW.l (I:=λm Ai=>∃ i,m=s.size-i/\i<=s.size/\nx+1<=Ai.nx/\(∀ j,j<nx->Ai.hp.get j=hp.get j)/\Ai.hp.get nx=some (.siter s i)/\Ad Ai (.t (.l .o))=.fn (.func 183) [.tup []]/\Ad Ai (.t (.r .o))=bv true/\Ad Ai (.t (.r (.r (.l .o))))=.pt nx 0/\∀ j,(h:j<s.data.toList.length)->j<i->mV s.data.toList[j]=true) ?_ s.size 1000000 _ ?_ (by omega)
 .rintro m Ai ⟨i,rfl,hi,g1,g2,g3,b1,b2,b10,jN⟩
  unfold Ci3
  simp only [↓Ji,↓BB]
  refine Cr2 (id:=nx) (s:=s) (pos:=i) (by simp only [Dc,bP,b10];exact Vk g3) g3 (λh=>?_) (λCw h Fw Fa=>?_)
  .simp only [Jj,↓Ji,bP,MW]
   refine hK (-1) _ _ ⟨by omega,g2⟩ ?_
   have:Vj s=true:=by
    unfold Vj
    rw [Bd]
    intro c hc
    obtain ⟨j,hj,rfl⟩:=Br.1 hc
    exact jN j hj (by have:s.data.toList.length=s.size:=rfl;omega)
   rw [this];rfl
  .simp only [bR] at Fw Fa
   have h':i<s.data.toList.length:=h
   have Wc:(s[i]'h).toNat=(s.data.toList[i]).toNat:=rfl
   simp only [Jj,↓Ji,b1,C30,↓F8]
   refine gI (f:=183) (fs:=[]) (cs:=[]) (by simp only [Ha,bR];exact OT _ _) ?_
   simp only [bR,By,Da,Am,Az]
   have O8:∀ j,j<nx->Cw.get j=hp.get j:=λj hj=>by rw [Fa j (by omega),g2 j hj]
   by_cases JM:(s.data.toList[i]).toNat<128
   .have fN:=decode_ascii s i h (by rw [Wc];exact JM)
    rw [Wc] at fN
    rw [fN] at Fw ⊢
    simp only at Fw ⊢
    refine Ci9 (k:=k) _ _ _ (s.data.toList[i]).toNat ?_
    cases gW:mV s.data.toList[i] with
    | true=>
     have:(decide ((32:Int)<=((s.data.toList[i]).toNat:Int))&&decide (((s.data.toList[i]).toNat:Int)<=126))=true:=gW
     rw [this]
     simp only [Jj,↓Ji,bP,b1,b2,b10]
     refine ⟨s.size-(i+1),by omega,i+1,rfl,by omega,by omega,O8,Fw,λj hj Nt=>?_⟩
     by_cases e:j=i
     .subst e;exact gW
     .exact jN j hj (by omega)
    | false=>
     have:(decide ((32:Int)<=((s.data.toList[i]).toNat:Int))&&decide (((s.data.toList[i]).toNat:Int)<=126))=false:=gW
     rw [this]
     simp only [Jj,↓Ji,bP,b2]
     refine hK _ _ _ ⟨by omega,O8⟩ ?_
     have:Vj s=false:=by
      rw [Gc]
      intro ha
      have:=Bd.1 ha _ (Be h')
      rw [gW] at this;cases this
     rw [this,Ah (by omega)]
   .have fN:=decode_high s i h (by rw [Wc];omega)
    have gW:mV s.data.toList[i]=false:=by
     unfold mV
     rw [Bool.and_eq_false_iff]
     exact .inr (Ah (by omega))
    refine Ci9 (k:=k) _ _ _ _ ?_
    have:(decide ((32:Int)<=(((Utf8.decode s i).1:Nat):Int))&&decide ((((Utf8.decode s i).1:Nat):Int)<=126))=false:=by
     rw [Bool.and_eq_false_iff]
     exact .inr (Ah (by omega))
    rw [this]
    simp only [Jj,↓Ji,bP,b2]
    refine hK _ _ _ ⟨by omega,O8⟩ ?_
    have:Vj s=false:=by
     rw [Gc]
     intro ha
     have:=Bd.1 ha _ (Be h')
     rw [gW] at this;cases this
    rw [this,Ah (by omega)]
 .simp only [Jj,a1,a2]
  exact ⟨0,rfl,by omega,λj hj=>Dd j (by omega),Dn,λj _ h=>by omega⟩
theorem B90(s:ByteArray)(hl:s.size<900000)(hK:∀ r An Bm,Al hp nx An Bm->(decide (r<0)=Vj s)->K (iv r) An Bm):KW (kN (k+3)) (.fn 184) [sv s,.fn (.func 183) [.tup []]] hp nx K:=by
 refine Es (Hl (by decide)) XE (Ab rfl) λes e1 e2 he=>?_
 have a0:Ad es (.t .o)=sv s:=he 0 _ rfl
 have a1:Ad es (.t (.l .o))=.fn (.func 183) [.tup []]:=he 1 _ rfl
 unfold EP
 simp only [Jj,↓Ji,a0,a1,e1,e2]
 refine Fh (By2 k _ _ _ s hl λr An Bm Rt hr=>?_)
 simp only [Jj,↓Ji,bP]
 exact hK r _ _ Rt hr
end
end Go.DD

/- Contracts: which values are valid, and fit a type. Conditions: those that each theorem states. -/
namespace Go.DD
open Go Go.Proofs
theorem B91{v:PVal}(h:v.kind=0):iU v=(AT v&&decide (1<=v.n)&&decide (v.n<=255)):=by unfold iU;rw [Af h,Bool.and_assoc]
theorem B92{v:PVal}(h:v.kind=1):iU v=(AT v&&(decide (v.n=0)||decide (v.n=1))):=by unfold iU;rw [Ae (by omega),Af h]
theorem B93{v:PVal}(h:v.kind=2):iU v=(NB v.s&&(decide (1<=v.d)&&(decide (v.d<=1099511627776)&&(decide (-1099511627776<=v.n)&&(decide (v.n<=1099511627776)&&decide (Nat.gcd v.n.natAbs v.d.natAbs=1)))))):=by unfold iU;rw [Ae (by omega),Ae (by omega),Af h]
theorem B94{v:PVal}(h:v.kind=3):iU v=(decide (v.n=0)&&(decide (v.d=0)&&(decide (v.s.size<=16)&&Vj v.s))):=by unfold iU;rw [Ae (by omega),Ae (by omega),Ae (by omega),Af h]
theorem B95{v:PVal}(h0:v.kind≠0)(h1:v.kind≠1)(h2:v.kind≠2)(h3:v.kind≠3):iU v=false:=by unfold iU;rw [Ae h0,Ae h1,Ae h2,Ae h3]
section
variable (k:Nat) (hp:Tr DObj) (nx:Nat) (K:DV->Tr DObj->Nat->Prop)
theorem B96(v:PVal)(hl:v.s.size<900000)(hK:∀ An Bm,Al hp nx An Bm->K (bv (iU v)) An Bm):KW (kN (k+4)) (.fn 158) [.agg (vc v)] hp nx K:=by
 refine Es (Hl (by decide)) XR (Ab rfl) λes e1 e2 he=>?_
 have a0:Ad es (.t .o)=.agg (vc v):=he 0 _ rfl
 unfold FF
 simp only [↓Au]
 refine Xv (cs:=vc v) (by rw [Ha,a0];exact dW rfl) λEi Dn Dd=>?_
 simp only [bR,e1,e2] at Dn Dd
 obtain ⟨⟨f0,f1,f2,f3⟩,l0,l1,l2,l3,l4⟩:=Yr Dn
 have Rt:Al hp nx Ei (nx+1):=⟨by omega,λj hj=>Dd j (by omega)⟩
 by_cases k0:v.kind=0
 .rw [B91 k0] at hK
  simp only [As,↓Au,e2,f0,l0,l4,Ak k0]
  refine Fh (Bl7 (k:=k+2) _ _ _ v λCw Dt Dh=>?_)
  have q1:Mx Cw 1 (.pt nx 0)=some (.pt nx 1):=Py ((Dh.same nx (by omega)).trans Dn)
  have q2:Fy Cw none (.pt nx 1)=some (iv v.n):=by rw [Qz ((Dh.same nx (by omega)).trans Dn)];rfl
  simp only [Jj,↓Ji,bP,e2,q1,q2]
  exact kb (hK _ _ (Rt.trans Dh)) rfl
 by_cases k1:v.kind=1
 .rw [B92 k1] at hK
  simp only [As,↓Au,e2,f0,l0,l4,Ah k0,Ak k1]
  refine Fh (Bl7 (k:=k+2) _ _ _ v λCw Dt Dh=>?_)
  have q1:Mx Cw 1 (.pt nx 0)=some (.pt nx 1):=Py ((Dh.same nx (by omega)).trans Dn)
  have q2:Fy Cw none (.pt nx 1)=some (iv v.n):=by rw [Qz ((Dh.same nx (by omega)).trans Dn)];rfl
  have hh:=hK _ _ (Rt.trans Dh)
  cases M5:AT v <;> cases h0:decide (v.n=0) <;> cases h1:decide (v.n=1) <;> simp only [As,↓Au,bP,e2,q1,q2,h0,h1] <;> exact kb hh (by simp [M5,h0,h1])
 by_cases k2:v.kind=2
 .rw [B93 k2] at hK
  have hh:=hK _ _ Rt
  cases c1:NB v.s with
  | false=>
   simp only [As,↓Au,bP,e2,f0,l0,f3,l3,Ah k0,Ah k1,Ak k2,T1,c1]
   exact kb hh (by rw [c1];rfl)
  | true=>
   rw [c1,Im] at hh hK
   by_cases c2:1<=v.d
   .by_cases c3:v.d<=1099511627776
    .by_cases c4 : -1099511627776<=v.n
     .by_cases c5:v.n<=1099511627776
      .have ie:G5 .neg (.v (.int .i64 v.n))=some (.v (.int .i64 (-v.n))):=by rw [GQ,Ej (by omega)];congr 3;omega
       have iz:sY true (.v (.int .i64 v.n)) (.v (.int .i64 (-v.n)))=some (.v (.int .i64 ((v.n.natAbs:Nat):Int))):=by rw [C12];congr 3;omega
       have hd:v.d=((v.d.natAbs:Nat):Int):=by omega
       have U9:Fy Ei none (.pt nx 2)=some (iv ((v.d.natAbs:Nat):Int)):=by rw [<- hd];exact l2
       have c2':(1:Int)<=((v.d.natAbs:Nat):Int):=by omega
       have c3':((v.d.natAbs:Nat):Int)<=1099511627776:=by omega
       simp only [As,↓Au,bP,e2,f0,l0,f1,l1,f2,U9,f3,l3,Ah k0,Ah k1,Ak k2,T1,c1,c2',c3',c4,c5,ie,iz]
       have h50:(2:Nat) ^ 50=1125899906842624:=by decide
       refine Fh (C29 (k:=k+2) _ _ _ v.n.natAbs v.d.natAbs (by omega) (by omega) λDt Xh=>?_)
       have he:decide ((Nat.gcd v.n.natAbs v.d.natAbs:Int)=1)=decide (Nat.gcd v.n.natAbs v.d.natAbs=1):=decide_eq_decide.2 (by omega)
       have zP:=hK Ei Dt (Rt.nx Xh)
       cases c6:decide (Nat.gcd v.n.natAbs v.d.natAbs=1) with
       | true=>
        simp only [As,↓Au,bP,he,c6]
        exact kb zP (by simp [c2,c3,c4,c5,c6])
       | false=>
        simp only [As,↓Au,bP,he,c6]
        exact kb zP (by simp [c6])
      .simp only [As,↓Au,bP,e2,f0,l0,f1,l1,f2,l2,f3,l3,Ah k0,Ah k1,Ak k2,T1,c1,c2,c3,c4,c5]
       exact kb hh (by simp [c5])
     .simp only [As,↓Au,bP,e2,f0,l0,f1,l1,f2,l2,f3,l3,Ah k0,Ah k1,Ak k2,T1,c1,c2,c3,c4]
      exact kb hh (by simp [c4])
    .simp only [As,↓Au,bP,e2,f0,l0,f2,l2,f3,l3,Ah k0,Ah k1,Ak k2,T1,c1,c2,c3]
     exact kb hh (by simp [c3])
   .simp only [As,↓Au,bP,e2,f0,l0,f2,l2,f3,l3,Ah k0,Ah k1,Ak k2,T1,c1,c2]
    exact kb hh (by simp [c2])
 by_cases k3:v.kind=3
 .rw [B94 k3] at hK
  have hh:=hK _ _ Rt
  cases c1:decide (v.n=0) with
  | false=>
   simp only [As,↓Au,bP,e2,f0,l0,f1,l1,Ah k0,Ah k1,Ah k2,Ak k3,c1]
   exact kb hh (by rw [c1];rfl)
  | true=>
   cases c2:decide (v.d=0) with
   | false=>
    simp only [As,↓Au,bP,e2,f0,l0,f1,l1,f2,l2,Ah k0,Ah k1,Ah k2,Ak k3,c1,c2]
    exact kb hh (by rw [c1,c2];rfl)
   | true=>
    by_cases c3:(v.s.size:Int)<=16
    .simp only [As,↓Au,bP,e2,f0,l0,f1,l1,f2,l2,f3,l3,Ah k0,Ah k1,Ah k2,Ak k3,c1,c2,c3]
     refine Fh (B90 (k:=k) _ _ _ v.s hl λr Cw Dt Dh hr=>?_)
     have zP:=hK _ _ (Rt.trans Dh)
     cases c4:decide (r<0) with
     | true=>
      simp only [As,↓Au,bP,c4]
      exact kb zP (by rw [c1,c2,<- hr,c4,Ak (show v.s.size<=16 by omega)];rfl)
     | false=>
      simp only [As,↓Au,bP,c4]
      exact kb zP (by rw [<- hr,c4];simp)
    .simp only [As,↓Au,bP,e2,f0,l0,f1,l1,f2,l2,f3,l3,Ah k0,Ah k1,Ah k2,Ak k3,c1,c2,c3]
     exact kb hh (by rw [Ah (show ¬ v.s.size<=16 by omega)];simp)
 .simp only [As,↓Au,bP,e2,f0,l0,Ah k0,Ah k1,Ah k2,Ah k3]
  rw [B95 k0 k1 k2 k3] at hK
  exact hK _ _ Rt
theorem By3(v:PVal)(t:Int)(hl:v.s.size<900000)(hK:∀ An Bm,Al hp nx An Bm->K (bv (Zi v t)) An Bm):KW (kN (k+5)) (.fn 123) [.agg (vc v),iv t] hp nx K:=by
 refine Es (Hl (by decide)) YJ (Ab rfl) λes e1 e2 he=>?_
 have a0:Ad es (.t .o)=.agg (vc v):=he 0 _ rfl
 have a1:Ad es (.t (.l .o))=iv t:=he 1 _ rfl
 unfold FW
 simp only [↓Au]
 refine Xv (cs:=vc v) (by rw [Ha,a0];exact dW rfl) λEi Dn Dd=>?_
 simp only [bR,e1,e2] at Dn Dd
 obtain ⟨_,_,_,_,_,l4⟩:=Yr Dn
 have Fk:Al hp nx Ei (nx+1):=⟨by omega,λj hj=>Dd j (by omega)⟩
 simp only [Jj,↓Ji,e2,l4]
 refine Fh (B96 k _ _ _ v hl λCw Dt Dh=>?_)
 have Fw:=(Dh.same nx (by omega)).trans Dn
 obtain ⟨⟨f0,f1,f2,f3⟩,l0,l1,l2,l3,l4⟩:=Yr Fw
 have hh:=hK _ _ (Fk.trans Dh)
 unfold Zi at hh
 simp only [Jj,↓Ji,e2,a1]
 refine rH (λc=>?_) (λc=>?_)
 .rw [Af (by cases hr:iU v <;> simp [hr] at c ⊢;omega)] at hh
  simp only [Jj,↓Ji,bP]
  exact hh
 rw [Ae (by cases hr:iU v <;> simp [hr] at c ⊢;omega)] at hh
 by_cases k1:v.kind=1
 .rw [Af k1] at hh
  simp only [Jj,↓Ji,bP,e2,a1,f0,l0,Ak k1]
  exact hh
 rw [Ae k1] at hh
 by_cases k2:v.kind=2
 .rw [Af k2] at hh
  cases h3:decide (t=3) <;> cases h2:decide (t=2) <;> cases h1:decide (v.d=1) <;> simp only [As,↓Au,bP,e2,a1,f0,l0,f2,l2,Ah k1,Ak k2,h3,h2,h1] <;> exact kb hh (by simp [h1,h2,h3])
 rw [Ae k2] at hh
 by_cases k3:v.kind=3
 .rw [Af k3] at hh
  simp only [Jj,↓Ji,bP,e2,a1,f0,l0,Ah k1,Ah k2,Ak k3]
  exact hh
 .rw [Ae k3] at hh
  simp only [Jj,↓Ji,bP,e2,f0,l0,Ah k1,Ah k2,Ah k3]
  exact hh
end
end Go.DD

/- Contracts: which values are valid, and fit a type, by the reference. Conditions: those that each theorem states. -/
namespace Go.DD
open Go Go.Proofs
theorem qK{n0 m i:Nat}{an refs lo:List Nat}{c:Bool}{ws:List Look}{ps:List Past}{id:Nat}{T:TypeId}{cs:List DV}(hr:∀ j∈refs,j=id)(hid:id<n0)(hp:∀ p∈ps,p.a.get id=some (.row T cs)/\p.b.get id=some (.row T cs))(hc:∀ c∈cs,Nk 6 c c=true)(h2:Pl n0 m ws ps=true):Pl n0 m (Gg i an true c refs n0 lo ws) ps=true:=
 rT (λj hj=>by
  rw [hr j hj]
  refine ⟨hid,λp An=>.inr (.inr ?_)⟩
  obtain ⟨h3,h4⟩:=hp p An
  cases c with
  | true=>rw [Af rfl];exact PR h3 (h4.trans h3.symm) hc
  | false=>rw [Ae (by simp)];simp [rL,h3,h4]) h2
section
variable (k:Nat) (hp:Tr DObj) (nx:Nat) (K:DV->Tr DObj->Nat->Prop)
end
end Go.DD

/- Contracts: coordinates of dimensions; cells. Conditions: those that each theorem states. -/
namespace Go.DD
open Go Go.Proofs
theorem wY{d:List PDim}{x:List Int}{i:Nat}(h:i<d.length)(h2:i<x.length):gM (d.drop i) (x.drop i)=if x[i]<d[i].lo\/bV d[i]<x[i] then false else gM (d.drop (i+1)) (x.drop (i+1)):=by
 rw [Bb h,Bb h2];rfl
theorem wZ{d:List PDim}{x:List Int}{i:Nat}(h:d.length<=i):gM (d.drop i) (x.drop i)=true:=by
 rw [Bc h];cases x.drop i <;> rfl
theorem By4{v:List PVal}{a:List PAttr}{i:Nat}(h:i<v.length)(h2:i<a.length):On (v.drop i) (a.drop i)=if Zi v[i] a[i].type=false then false else On (v.drop (i+1)) (a.drop (i+1)):=by
 rw [Bb h,Bb h2];rfl
theorem By5{v:List PVal}{a:List PAttr}{i:Nat}(h:v.length<=i):On (v.drop i) (a.drop i)=true:=by
 rw [Bc h];cases a.drop i <;> rfl
def PsOK(ps:List Past)(hp:Tr DObj)(n0:Nat):Prop:=∀ q∈ps,(∀ j,Bl n0 j->q.a.get j=hp.get j)/\∀ j,Bl n0 j->q.b.get j=hp.get j
theorem PsOK.nil(hp:Tr DObj)(n0:Nat):PsOK [] hp n0:=λq h=>by cases h
theorem PsOK.cons{hp:Tr DObj}{n0 i:Nat}{an:List Nat}{a b:Tr DObj}{ps:List Past}(h:PsOK ps hp n0)(h1:∀ j,j<n0->a.get j=hp.get j)(h2:∀ j,j<n0->b.get j=hp.get j):PsOK (⟨i,an,a,b⟩::ps) hp n0:=λq hq=>by
 rcases Ap.1 hq with rfl | hq
 .exact ⟨h1,h2⟩
 .exact h q hq
section
variable (k n0:Nat) (hp:Tr DObj) (nx:Nat) (K:DV->Tr DObj->Nat->Prop)
theorem HU(d x:DV)(l:List PDim)(m:List Int)(hn:n0<=nx)(h1:RL rDim hp (Bl n0) d l)(h2:RL rInt hp (Bl n0) x m)(hm:m.length<900000)(hK:∀ An Bm,Al hp nx An Bm->K (bv (sS l m)) An Bm):KW (kN (k+2)) (.fn 157) [d,x] hp nx K:=by
 refine Es (Hl (by decide)) XS (Ab rfl) λes e1 e2 he=>?_
 have a0:Ad es (.t .o)=d:=he 0 _ rfl
 have a1:Ad es (.t (.l .o))=x:=he 1 _ rfl
 unfold FG
 by_cases c:m.length=l.length
 .have hb:sS l m=gM l m:=by unfold sS;rw [Ak c];rfl
  rw [hb] at hK
  simp only [As,↓Au,a0,a1,e1,h1.len,h2.len,show decide (¬ m.length=l.length)=false by simp [c]]
  refine EW.up m.length (λi Ai=>Al hp nx Ai.hp Ai.nx/\Ad Ai (.t .o)=d/\Ad Ai (.t (.r (.l (.r .o))))=x/\Ad Ai (.t (.l (.r (.r .o))))=iv m.length/\Ad Ai (.t (.r (.r (.r .o))))=iv (i:Nat)/\gM l m=gM (l.drop i) (m.drop i)) ?_ ?_ (by omega)
  .rintro i Ai hi ⟨g,b0,Ny,Qq,b14,hc⟩
   unfold Ci1
   by_cases h:i<m.length
   .have h':i<l.length:=by omega
    have r1:=h1.ka hn g
    have r2:=h2.ka hn g
    rw [wY h' h] at hc
    by_cases c1:m[i]<l[i].lo
    .rw [Af (.inl c1)] at hc
     rw [hc] at hK
     simp only [As,↓Au,bP,b0,Ny,Qq,b14,h,kS r2 h,ints_at r2 h,uP r1 h',vx (k:=1) r1 h',(rQ r1 h').2.2.2.1,c1]
     exact hK _ _ g
    .simp only [As,↓Au,b0,Ny,Qq,b14,h,kS r2 h,ints_at r2 h,uP r1 h',vx (k:=1) r1 h',(rQ r1 h').2.2.2.1,(rQ r1 h').1,c1]
     refine Fh (Cq8 (k:=k) _ _ _ l[i] λCw Dt Dh=>?_)
     by_cases c2:bV l[i]<m[i]
     .rw [Af (.inr c2)] at hc
      rw [hc] at hK
      simp only [As,↓Au,bP,c2]
      exact hK _ _ (g.trans Dh)
     .rw [Ae (by omega)] at hc
      simp only [As,↓Au,b0,Ny,Qq,b14,h,c2,Hz (show i<_ by omega)]
      exact ⟨g.trans Dh,hc⟩
   .simp only [As,↓Au,bP,Qq,b14,h]
    rw [wZ (by omega)] at hc
    rw [hc] at hK
    exact hK _ _ g
  .simp only [As,a0,e1,e2]
 .have hb:sS l m=false:=by unfold sS;rw [Ah c];rfl
  rw [hb] at hK
  simp only [As,↓Au,bP,a0,a1,e1,e2,h1.len,h2.len,c]
  exact hK _ _ (Al.refl _ _)
end
end Go.DD

/- Contracts: cells. Conditions: those that each theorem states. -/
namespace Go.DD
open Go Go.Proofs
theorem Wl{hp:Tr DObj}{id T:Nat}{a b:DV}(h:hp.get id=some (.row T [a,b])):(Mx hp 0 (.pt id 0)=some (.pt id 0)/\Mx hp 1 (.pt id 0)=some (.pt id 1))/\Fy hp none (.pt id 0)=some a/\Fy hp none (.pt id 1)=some b/\Fy hp (some 2) (.pt id 0)=some (.agg [a,b]):=by
 refine ⟨⟨Py h,Py h⟩,?_,?_,?_⟩ <;> rw [Qz h] <;> rfl
def Ww(v:PVal):Prop:=v.s.size<900000
theorem zb{hp:Tr DObj}{p:Nat->Prop}{a b:DV}{c:PCell}(h1:RL rInt hp p a c.pos)(h2:RL rVal hp p b c.vals):Cg hp (.agg [a,b])=.agg [a,b]:=Wm λid hid=>by
 have:id∈a.refs\/id∈b.refs:=by simpa [DV.refs,DV.refsL] using hid
 exact this.elim (λh=>(h1.refs id h).2) λh=>(h2.refs id h).2
section
variable (k n0:Nat) (hp:Tr DObj) (nx:Nat) (K:DV->Tr DObj->Nat->Prop) (d a x y:DV) (l:List PDim) (m:List PAttr) (c:PCell) (hn:n0<=nx) (h1:RL rDim hp (Bl n0) d l) (h2:RL rAttr hp (Bl n0) a m) (h3:RL rInt hp (Bl n0) x c.pos) (h4:RL rVal hp (Bl n0) y c.vals) (hl:l.length<900000) (hm:m.length<900000) (hs:∀ v∈c.vals,Ww v)
include hn h1 h2 h3 h4 hl hm hs
theorem By6(hK:∀ An Bm,Al hp nx An Bm->K (iv (Hb l m c)) An Bm):KW (kN (k+6)) (.fn 122) [d,a,.agg [x,y]] hp nx K:=by
 refine Es (Hl (by decide)) YK (Ab rfl) λes e1 e2 he=>?_
 have a0:Ad es (.t .o)=d:=he 0 _ rfl
 have a1:Ad es (.t (.l .o))=a:=he 1 _ rfl
 have a2:Ad es (.t (.r .o))=.agg [x,y]:=he 2 _ rfl
 unfold FX
 simp only [↓Au]
 refine Xv (cs:=[x,y]) (by rw [Ha,a2,e1];exact zb h3 h4) λEi Dn Dd=>?_
 simp only [bR,e1,e2] at Dn Dd
 obtain ⟨⟨f0,f1⟩,l0,l1,_⟩:=Wl Dn
 have Fk:Al hp nx Ei (nx+1):=⟨by omega,λj hj=>Dd j (by omega)⟩
 have r1:=h1.ka hn Fk
 have r2:=h2.ka hn Fk
 have r3:=h3.ka hn Fk
 have r4:=h4.ka hn Fk
 unfold Hb at hK
 by_cases c1:c.pos.length=l.length
 .by_cases c2:c.vals.length=m.length
  .rw [Ae (by omega)] at hK
   simp only [As,↓Au,a0,a1,e2,f0,f1,l0,l1,r1.len,r2.len,r3.len,r4.len,show decide (¬ c.pos.length=l.length)=false by simp [c1],show decide (¬ c.vals.length=m.length)=false by simp [c2]]
   refine Fh (HU (k:=k+3) n0 _ _ _ d x l c.pos (by omega) r1 r3 (by omega) λCw Dt Dh=>?_)
   have Gu:=Dh.le
   have Fw:=(Dh.same nx (by omega)).trans Dn
   obtain ⟨⟨q0,q1⟩,m0,m1,_⟩:=Wl Fw
   have u4:=r4.ka (by omega:n0<=nx+1) Dh
   cases c3:sS l c.pos with
   | false=>
    rw [Af c3] at hK
    simp only [As,↓Au,bP]
    exact hK _ _ (Fk.trans Dh)
   | true=>
    rw [Ae (by rw [c3];simp)] at hK
    simp only [As,↓Au,e2,q1,m1,u4.len]
    refine EW.up c.vals.length (λi Ai=>Al hp nx Ai.hp Ai.nx/\Dt<=Ai.nx/\Ad Ai (.t (.l .o))=a/\Ad Ai (.t (.l (.r (.r (.r .o)))))=y/\Ad Ai (.t (.r (.r (.r (.r .o)))))=iv c.vals.length/\Ad Ai (.t (.l (.l (.l (.l (.l .o))))))=iv (i:Nat)/\On c.vals m=On (c.vals.drop i) (m.drop i)) ?_ ?_ (by omega)
    .rintro i Ai hi ⟨g,gn,b1,b29,tp,tn,hc⟩
     unfold Ch6
     have hle:=g.le
     by_cases h:i<c.vals.length
     .have h':i<m.length:=by omega
      have w4:=h4.ka hn g
      rw [By4 h h'] at hc
      simp only [As,↓Au,b29,tp,tn,h,T5 w4 h,Y8 w4 h]
      refine Rz λGn Kv Hy=>?_
      simp only [bR] at Kv Hy
      simp only [As,↓Au]
      refine Qx (id:=Ai.nx) (ds:=vc c.vals[i]) (by simp only [bR]) Kv (by simp only [Ha,bR];exact dW rfl) rfl rfl λFq Kf Fl=>?_
      simp only [bR] at Kf Fl
      obtain ⟨_,_,_,_,_,t4⟩:=Yr Kf
      have g4:Al hp nx Fq (Ai.nx+1):=⟨by omega,λj hj=>by rw [Fl j (by omega),Hy j (by omega),g.same j hj]⟩
      have w2:=h2.ka hn g4
      simp only [As,↓Au,b1,t4,E8 w2 h',zd (k:=1) w2 h',(E9 w2 h').2.2.2,w2.rox (show n0<=Ai.nx+1 by omega),AF w2 (show n0<=Ai.nx+1 by omega),Bb1 w2 (show n0<=Ai.nx+1 by omega),Lp (n0:=Ai.nx+1) (m:=8) Kf (show Ai.nx<Ai.nx+1 by omega),E0 (show DV.refsL (vc c.vals[i])=[] from rfl)]
      refine Ly rfl (Uy ?_)
      simp only [bR,Am,Az]
      refine By3 (k:=k) _ _ _ c.vals[i] m[i].type (hs _ (Be h)) λGr Ia Jp=>?_
      have Oi:=Jp.le
      have g5:=(g4.nx (by omega:Ai.nx+1<=Ai.nx+1+8)).trans Jp
      cases c4:Zi c.vals[i] m[i].type with
      | false=>
       rw [Af c4] at hc
       rw [hc] at hK
       simp only [As,↓Au,bP,Oi]
       exact hK _ _ g5
      | true=>
       rw [Ae (by rw [c4];simp)] at hc
       simp only [As,↓Au,b1,b29,tp,tn,h,Oi,Hz (show i<_ by omega)]
       exact ⟨g5,by omega,hc⟩
     .simp only [As,↓Au,bP,tp,tn,h]
      rw [By5 (by omega)] at hc
      rw [hc] at hK
      exact hK _ _ g
    .simp only [As,a1]
     exact Fk.trans Dh
  .rw [Af (.inr c2)] at hK
   simp only [As,↓Au,bP,a0,a1,e2,f0,f1,l0,l1,r1.len,r2.len,r3.len,r4.len,show decide (¬ c.pos.length=l.length)=false by simp [c1],c2]
   exact hK _ _ Fk
 .rw [Af (.inl c1)] at hK
  simp only [As,↓Au,bP,a0,e2,f0,l0,r1.len,r3.len,c1]
  exact hK _ _ Fk
end
end Go.DD

/- Contracts: which arrays are valid. Conditions: those that each theorem states. -/
namespace Go.DD
open Go Go.Proofs
theorem Qd{hp:Tr DObj}{id T:Nat}{a b c:DV}(h:hp.get id=some (.row T [a,b,c])):(Mx hp 0 (.pt id 0)=some (.pt id 0)/\Mx hp 1 (.pt id 0)=some (.pt id 1)/\Mx hp 2 (.pt id 0)=some (.pt id 2))/\Fy hp none (.pt id 0)=some a/\Fy hp none (.pt id 1)=some b/\Fy hp none (.pt id 2)=some c/\Fy hp (some 3) (.pt id 0)=some (.agg [a,b,c]):=by
 refine ⟨⟨Py h,Py h,Py h⟩,?_,?_,?_,?_⟩ <;> rw [Qz h] <;> rfl
structure AOK (x:PArr):Prop where
 d:x.dims.length<900000
 a:x.attrs.length<900000
 c:x.cells.length<900000
 e:∀ c∈x.cells,c.pos.length<900000/\c.vals.length<900000/\∀ v∈c.vals,Ww v
structure AR (hp:Tr DObj) (p:Nat->Prop) (d:DV) (x:PArr):Prop where
 ex:∃ a b c,d=.agg [a,b,c]/\RL rDim hp p a x.dims/\RL rAttr hp p b x.attrs/\RL rCell hp p c x.cells
theorem AR.live{hp:Tr DObj}{p:Nat->Prop}{a b c:DV}{x:PArr}(h1:RL rDim hp p a x.dims)(h2:RL rAttr hp p b x.attrs)(h3:RL rCell hp p c x.cells):Cg hp (.agg [a,b,c])=.agg [a,b,c]:=Wm λid hid=>by
 have:id∈a.refs\/id∈b.refs\/id∈c.refs:=by simpa [DV.refs,DV.refsL] using hid
 rcases this with h | h | h
 .exact (h1.refs id h).2
 .exact (h2.refs id h).2
 .exact (h3.refs id h).2
def Sw(l:List PCell)(i:Nat):Option PCell:=match i with
 | 0=>none
 | i+1=>l[i]?
theorem B9{d:List PDim}{a:List PAttr}{l:List PCell}(h:0<l.length):Qb d a (Sw l 0) (l.drop 0)=if Hb d a l[0]≠0 then Hb d a l[0] else Qb d a (Sw l 1) (l.drop 1):=by
 have e1:Sw l 1=some l[0]:=Aa h
 rw [Bb h,e1]
 rfl
theorem B8{d:List PDim}{a:List PAttr}{l:List PCell}{i:Nat}(h:i+1<l.length):Qb d a (Sw l (i+1)) (l.drop (i+1))=if Hb d a l[i+1]≠0 then Hb d a l[i+1] else if Cs l[i].pos l[i+1].pos=0 then 5 else if Cs l[i].pos l[i+1].pos=1 then 2 else Qb d a (Sw l (i+2)) (l.drop (i+2)):=by
 have e1:Sw l (i+1)=some l[i]:=Aa (by omega)
 have e2:Sw l (i+2)=some l[i+1]:=Aa h
 rw [Bb h,e1,e2]
 rfl
section
variable (k n0:Nat) (hp:Tr DObj) (nx:Nat) (K:DV->Tr DObj->Nat->Prop) (d:DV) (x:PArr) (hn:n0<=nx) (h0:AR hp (Bl n0) d x) (ho:AOK x)
include hn h0 ho
theorem UB(hK:∀ An Bm,Al hp nx An Bm->K (iv (Mf x)) An Bm):KW (kN (k+7)) (.fn 57) [d] hp nx K:=by
 obtain ⟨d,a,c,rfl,h1,h2,h3⟩:=h0
 refine Es (Hl (by decide)) t57 (Ab rfl) λes e1 e2 he=>?_
 have a0:Ad es (.t .o)=.agg [d,a,c]:=he 0 _ rfl
 unfold r57
 simp only [↓Au]
 refine Xv (cs:=[d,a,c]) (by rw [Ha,a0,e1];exact AR.live h1 h2 h3) λEi Dn Dd=>?_
 simp only [bR,e1,e2] at Dn Dd
 obtain ⟨⟨f0,f1,f2⟩,l0,l1,l2,_⟩:=Qd Dn
 have Fk:Al hp nx Ei (nx+1):=⟨by omega,λj hj=>Dd j (by omega)⟩
 unfold Mf at hK
 simp only [As,↓Au,e2,f0,f1,l0,l1]
 refine Fh (Bb2 (k:=k+3) n0 _ _ _ d a x.dims x.attrs (by omega) (h1.ka hn Fk) (h2.ka hn Fk) λCw Dt Dh=>?_)
 have Gu:=Dh.le
 have Fw:=(Dh.same nx (by omega)).trans Dn
 obtain ⟨⟨f0,f1,f2⟩,l0,l1,l2,_⟩:=Qd Fw
 have iK:=Fk.trans Dh
 have r3:=h3.ka hn iK
 by_cases c1:iY x.dims x.attrs=0
 .rw [Ae (by simp [c1])] at hK
  simp only [Jj,↓Ji,e2,f2,l2,r3.len,show decide (¬ iY x.dims x.attrs=0)=false by simp [c1]]
  refine rH (λc2=>?_) (λc2=>?_)
  .rw [Af (by simp at c2;omega)] at hK
   simp only [Jj,↓Ji,bP]
   exact hK _ _ iK
  .rw [Ae (by simp at c2;omega)] at hK
   simp only [Jj,↓Ji,e2,f2,l2,r3.len]
   refine EW.up x.cells.length (λi Ai=>Al hp nx Ai.hp Ai.nx/\nx<Ai.nx/\Ai.hp.get nx=some (.row 26 [d,a,c])/\Ad Ai (.t (.l .o))=.pt nx 0/\Ad Ai (.t (.r (.l (.r (.l .o)))))=c/\Ad Ai (.t (.l (.r (.r (.l .o)))))=iv x.cells.length/\Ad Ai (.t (.r (.r (.r (.l .o)))))=iv (i:Nat)/\Qb x.dims x.attrs none x.cells=Qb x.dims x.attrs (Sw x.cells i) (x.cells.drop i)) ?_ ?_ (by have:=ho.c;omega)
   .rintro i Ai hi ⟨g,gn,hg,b1,rI,iR,S2,hc⟩
    unfold yF
    have hoc:=ho.c
    by_cases h:i<x.cells.length
    .have w1:=h1.ka hn g
     have w2:=h2.ka hn g
     have w3:=h3.ka hn g
     obtain ⟨p,v,rp,rv,lc,_⟩:=Ek w3 h
     simp only [As,↓Au,rI,iR,S2,h,Yq w3 h,lc]
     refine Rz λGn Kv Hy=>?_
     simp only [bR] at Kv Hy
     have g3:Al hp nx Gn (Ai.nx+1):=⟨by omega,λj hj=>by rw [Hy j (by omega),g.same j hj]⟩
     have DT:=rp.keep λj (hj:j<n0)=>Hy j (by omega)
     have DP:=rv.keep λj (hj:j<n0)=>Hy j (by omega)
     simp only [As,↓Au]
     refine Qx (id:=Ai.nx) (ds:=[p,v]) (by simp only [bR]) Kv (by simp only [Ha,bR];exact zb DT DP) rfl rfl λFq Kf Fl=>?_
     simp only [bR] at Kf Fl
     have Xj:Fq.get nx=some (.row 26 [d,a,c]):=by rw [Fl nx (by omega),Hy nx (by omega),hg]
     obtain ⟨⟨q0,q1,q2⟩,m0,m1,m2,_⟩:=Qd Xj
     obtain ⟨⟨t0,t1⟩,u0,u1,u2⟩:=Wl Kf
     have g4:Al hp nx Fq (Ai.nx+1):=g3.new (Ag _) λj hj=>Fl j (by omega)
     have rp4:=DT.keep λj (hj:j<n0)=>Fl j (by omega)
     have rv4:=DP.keep λj (hj:j<n0)=>Fl j (by omega)
     have oX:=ho.e _ (Be h)
     simp only [As,↓Au,b1,q0,q1,m0,m1,u2]
     refine Fh (By6 k n0 _ _ _ d a p v x.dims x.attrs x.cells[i] (by omega) (h1.ka hn g4) (h2.ka hn g4) rp4 rv4 ho.d ho.a oX.2.2 λGr Ia Jp=>?_)
     have Oi:=Jp.le
     have g5:=g4.trans Jp
     have tS:=(Jp.same nx (by omega)).trans Xj
     have Qw:=(Jp.same Ai.nx (by omega)).trans Kf
     by_cases c3:Hb x.dims x.attrs x.cells[i]=0
     .cases i with
      | zero=>
       rw [B9 h,Ae (by simp [c3])] at hc
       simp only [As,↓Au,b1,rI,iR,S2,h,show decide (¬ Hb x.dims x.attrs x.cells[0]=0)=false by simp [c3],show Dm .add (.v (.int .i64 0)) (.v (.int .i64 1))=some (.v (.int .i64 1)) from rfl]
       exact ⟨g5,by omega,tS,by rfl,hc⟩
      | succ i=>
       rw [B8 h,Ae (by simp [c3])] at hc
       have hi0:¬ ((i+1:Nat):Int)=0:=by omega
       have Oe:Dm .sub (.v (.int .i64 ((i+1:Nat):Int))) (.v (.int .i64 1))=some (.v (.int .i64 (i:Int))):=by rw [Lo,Ej (by omega)];congr 3;omega
       obtain ⟨⟨q0,q1,q2⟩,m0,m1,m2,_⟩:=Qd tS
       obtain ⟨⟨t0,t1⟩,u0,u1,u2⟩:=Wl Qw
       have w5:=h3.ka hn g5
       have Wj:i<x.cells.length:=by omega
       obtain ⟨p',v',rp',rv',_,_,lp',_⟩:=Ek w5 Wj
       have rp5:=rp4.keep λj (hj:j<n0)=>Jp.same j (by omega)
       simp only [As,↓Au,b1,show decide (¬ Hb x.dims x.attrs x.cells[i+1]=0)=false by simp [c3],hi0,Oe,q2,m2,t0,u0,Yq w5 Wj,mA (k:=0) w5 Wj,lp',w5.rox (show n0<=Ia by omega),U3 w5 (show n0<=Ia by omega),xu w5 (show n0<=Ia by omega),Lp (n0:=Ia) (m:=10) tS (show nx<Ia by omega),Lp (n0:=Ia) (m:=10) Qw (show Ai.nx<Ia by omega),rp'.rox (show n0<=Ia by omega),rp5.rox (show n0<=Ia by omega)]
       refine Ly rfl (Uy ?_)
       simp only [bR,Am,Az]
       refine F7 (k:=k+2) n0 _ _ _ p' p _ _ (by omega) rp' rp5 (ho.e _ (Be Wj)).1 ?_
       have g6:Al hp nx Gr (Ia+10):=g5.nx (by omega)
       by_cases c4:Cs x.cells[i].pos x.cells[i+1].pos=0
       .rw [Af c4] at hc
        rw [hc] at hK
        simp only [As,↓Au,bP,Ak c4]
        exact hK _ _ g6
       .rw [Ae c4] at hc
        by_cases c5:Cs x.cells[i].pos x.cells[i+1].pos=1
        .rw [Af c5] at hc
         rw [hc] at hK
         simp only [As,↓Au,bP,Ah c4,Ak c5]
         exact hK _ _ g6
        .rw [Ae c5] at hc
         simp only [As,↓Au,b1,rI,iR,S2,h,Ah c4,Ah c5,Hz (show i+1<_ by have:=ho.c;omega)]
         exact ⟨g6,by omega,tS,hc⟩
     .have Xz:Qb x.dims x.attrs none x.cells=Hb x.dims x.attrs x.cells[i]:=by
       cases i with
       | zero=>rw [hc,B9 h,Af c3]
       | succ i=>rw [hc,B8 h,Af c3]
      rw [Xz] at hK
      simp only [As,↓Au,bP,c3]
      exact hK _ _ g5
    .simp only [As,↓Au,bP,iR,S2,h]
     have e:x.cells.drop i=[]:=Bc (by omega)
     have Xz:Qb x.dims x.attrs none x.cells=0:=by
      rw [hc,e]
      cases Sw x.cells i <;> rfl
     rw [Xz] at hK
     exact hK _ _ g
   .simp only [As]
    exact ⟨iK,by omega,Fw,rfl⟩
 .rw [Af c1] at hK
  simp only [As,↓Au,bP,c1]
  exact hK _ _ iK
end
end Go.DD

/- Contracts: which arrays are valid, by the reference. Conditions: those that each theorem states. -/
namespace Go.DD
open Go Go.Proofs
section
variable (k n0:Nat) (hp:Tr DObj) (nx:Nat) (K:DV->Tr DObj->Nat->Prop)
variable (d:DV) (x:PArr) (hn:n0<=nx) (h0:AR hp (Bl n0) d x) (ho:AOK x)
include hn h0 ho
end
end Go.DD

/- Contracts: which arrays are examined. Conditions: those that each theorem states. -/
namespace Go.DD
open Go Go.Proofs
def iT(s:ByteArray):Bool:=decide ((s.size:Int)<=40)
def pN(d:List PDim)(a:List PAttr):Bool:=(decide (d.length<=10)&&decide (a.length<=10))&&(d.all (λx=>iT x.name)&&a.all λx=>iT x.name)
def R3(v:List PVal):Bool:=v.all λx=>iT x.s
def Tf(c:PCell):Bool:=(decide (c.pos.length<=10)&&decide (c.vals.length<=10))&&R3 c.vals
def pP(l:List PCell)(Jf:Nat):Bool:=decide (l.length<=Jf)&&l.all Tf
def Xo(x:PArr)(Jf:Nat):Bool:=pN x.dims x.attrs&&pP x.cells Jf
theorem dN{α:Type}{f:α->Bool}{l:List α}{i:Nat}(h:i<l.length):(l.take (i+1)).all f=((l.take i).all f&&f l[i]):=by
 rw [Ga h,List.all_append];simp
theorem dO{α:Type}{f:α->Bool}{l:List α}{i:Nat}(h:i<l.length)(hf:f l[i]=false):l.all f=false:=by
 rw [Gc]
 intro ha
 have:=Bd.1 ha _ (Be h)
 rw [hf] at this;cases this
theorem By7{x:PArr}{Jf:Nat}(h:Xo x Jf=true)(hm:Jf<900000):AOK x:=by
 unfold Xo pN pP at h
 simp only [Bo,Fz,Bd] at h
 obtain ⟨⟨⟨h1,h2⟩,h3,h4⟩,h5,h6⟩:=h
 refine ⟨by omega,by omega,by omega,λc hc=>?_⟩
 have:=h6 c hc
 unfold Tf R3 at this
 simp only [Bo,Fz,Bd] at this
 obtain ⟨⟨a,b⟩,e⟩:=this
 refine ⟨by omega,by omega,λv hv=>?_⟩
 have:=e v hv
 unfold iT at this
 simp only [Fz] at this
 unfold Ww;omega
theorem C31{hp:Tr DObj}{p:Nat->Prop}{d:DV}{l:List PVal}(h:RL rVal hp p d l){i:Nat}(hi:i<l.length):Fy hp none (Fx (Bz 4 d i) 3)=some (sv l[i].s):=by
 obtain ⟨ds,hr,h1,h0,h2⟩:=h.at hi
 rw [Bx6] at hr
 exact h2 3 _ (by rw [hr];rfl)
section
variable (k n0:Nat) (hp:Tr DObj) (nx:Nat) (K:DV->Tr DObj->Nat->Prop)
theorem xq(s:ByteArray)(hK:K (bv (iT s)) hp nx):KW (kN (k+1)) (.fn 120) [sv s] hp nx K:=by
 refine Es (Hl (by decide)) YM (Ab rfl) λes e1 e2 he=>?_
 have a0:Ad es (.t .o)=sv s:=he 0 _ rfl
 unfold FZ
 simp only [Jj,↓Ji,bP,a0,e1,e2]
 exact hK
theorem Cr3(d a:DV)(l:List PDim)(m:List PAttr)(p:Nat->Prop)(h1:RL rDim hp p d l)(h2:RL rAttr hp p a m)(hK:K (bv (pN l m)) hp nx):KW (kN (k+2)) (.fn 51) [d,a] hp nx K:=by
 refine Es (Hl (by decide)) t51 (Ab rfl) λes e1 e2 he=>?_
 have a0:Ad es (.t .o)=d:=he 0 _ rfl
 have a1:Ad es (.t (.l .o))=a:=he 1 _ rfl
 unfold r51
 simp only [Jj,↓Ji,a0,a1,e1,h1.len,h2.len]
 unfold pN at hK
 refine rH (λc=>?_) (λc=>?_)
 .rw [show (decide (l.length<=10)&&decide (m.length<=10))=false by simp at c ⊢;omega] at hK
  simp only [Jj,↓Ji,bP,e1,e2]
  exact hK
 rw [show (decide (l.length<=10)&&decide (m.length<=10))=true by simp at c ⊢;omega,Im] at hK
 have N3:l.length<=10/\m.length<=10:=by simp at c;omega
 simp only [Jj,↓Ji]
 refine EW.up l.length (λi Ai=>Ai.hp=hp/\Ai.nx=nx/\Ad Ai (.t .o)=d/\Ad Ai (.t (.l .o))=a/\Ad Ai (.t (.l (.r .o)))=iv (i:Nat)/\(l.take i).all (λx=>iT x.name)=true) ?_ ?_ (by omega)
 .rintro i Ai hi ⟨g1,g2,b0,b1,b5,hc⟩
  unfold yJ
  by_cases h:i<l.length
  .simp only [Jj,↓Ji,b0,b5,g1,g2,h,h1.len,uP h1 h,vx (k:=0) h1 h,(rQ h1 h).2.2.1]
   refine Fh (xq (k:=k) _ _ _ _ ?_)
   cases c4:iT l[i].name with
   | false=>
    rw [dO (f:=λx:PDim=>iT x.name) h c4,Sd] at hK
    simp only [As,↓Au,bP]
    exact hK
   | true=>
    simp only [As,↓Au,b0,b1,b5,h,Hz (show i<_ by omega)]
    rw [dN h,hc,c4];rfl
  .rw [Bq (by omega)] at hc
   rw [hc,Im] at hK
   simp only [Jj,↓Ji,b0,b5,g1,h,h1.len]
   refine EW.up m.length (λi Ai=>Ai.hp=hp/\Ai.nx=nx/\Ad Ai (.t (.l .o))=a/\Ad Ai (.t (.r (.r .o)))=iv (i:Nat)/\(m.take i).all (λx=>iT x.name)=true) ?_ ?_ (by omega)
   .rintro i Ai hi ⟨g1,g2,b1,b6,hc⟩
    unfold yI
    by_cases h:i<m.length
    .simp only [Jj,↓Ji,b1,b6,g1,g2,h,h2.len,E8 h2 h,zd (k:=0) h2 h,(E9 h2 h).2.2.1]
     refine Fh (xq (k:=k) _ _ _ _ ?_)
     cases c4:iT m[i].name with
     | false=>
      rw [dO (f:=λx:PAttr=>iT x.name) h c4] at hK
      simp only [As,↓Au,bP]
      exact hK
     | true=>
      simp only [As,↓Au,b1,b6,h,Hz (show i<_ by omega)]
      rw [dN h,hc,c4];rfl
    .rw [Bq (by omega)] at hc
     rw [hc] at hK
     simp only [Jj,↓Ji,bP,b1,b6,g1,g2,h,h2.len]
     exact hK
   .simp only [As,b1,g1,g2]
    rfl
 .simp only [As,a0,a1,e1,e2]
  rfl
theorem Cr4(c:DV)(l:List PCell)(Jf:Nat)(p:Nat->Prop)(h1:RL rCell hp p c l)(hm:Jf<900000)(hK:K (bv (pP l Jf)) hp nx):KW (kN (k+2)) (.fn 52) [c,iv (Jf:Nat)] hp nx K:=by
 refine Es (Hl (by decide)) t52 (Ab rfl) λes e1 e2 he=>?_
 have a0:Ad es (.t .o)=c:=he 0 _ rfl
 have a1:Ad es (.t (.l .o))=iv (Jf:Nat):=he 1 _ rfl
 unfold r52
 unfold pP at hK
 by_cases c0:Jf<l.length
 .rw [Ah (by omega),Sd] at hK
  simp only [As,↓Au,bP,a0,a1,e1,e2,h1.len,c0]
  exact hK
 rw [Ak (by omega),Im] at hK
 simp only [As,↓Au,a0,a1,e1,h1.len,c0]
 refine EW.up l.length (λi Ai=>Ai.hp=hp/\Ai.nx=nx/\Ad Ai (.t .o)=c/\Ad Ai (.t (.l (.r .o)))=iv (i:Nat)/\(l.take i).all Tf=true) ?_ ?_ (by omega)
 .rintro i Ai hi ⟨g1,g2,b0,b5,hc⟩
  unfold yG
  by_cases h:i<l.length
  .obtain ⟨x,y,r1,r2,_,_,ld0,bu⟩:=Ek h1 h
   have Wd:Tf l[i]=false->l.all Tf=false:=dO h
   have hs:=dN (f:=Tf) h
   rw [hc,Im] at hs
   simp only [Jj,↓Ji,b0,b5,g1,h,h1.len,Yq h1 h,mA (k:=0) h1 h,mA (k:=1) h1 h,ld0,bu,r1.len,r2.len]
   refine rH (λc1=>?_) (λc1=>?_)
   .rw [Wd (by
     unfold Tf
     rw [show (decide (l[i].pos.length<=10)&&decide (l[i].vals.length<=10))=false by simp at c1 ⊢;omega];rfl)] at hK
    simp only [Jj,↓Ji,bP,g1,g2]
    exact hK
   have Xx:l[i].pos.length<=10/\l[i].vals.length<=10:=by simp at c1;omega
   have he:Tf l[i]=R3 l[i].vals:=by
    unfold Tf
    rw [Ak Xx.1,Ak Xx.2];rfl
   rw [he] at hs Wd
   simp only [Jj,↓Ji]
   refine EW.up l[i].vals.length (λj Cd=>Cd.hp=hp/\Cd.nx=nx/\Ad Cd (.t .o)=c/\Ad Cd (.t (.l (.r .o)))=iv (i:Nat)/\Ad Cd (.t (.r (.r .o)))=iv (j:Nat)/\(l[i].vals.take j).all (λx=>iT x.s)=true) ?_ ?_ (by omega)
   .rintro j Cd hj ⟨q1,q2,x0,x5,x6,Qg⟩
    unfold yH
    by_cases h':j<l[i].vals.length
    .simp only [Jj,↓Ji,x0,x5,x6,q1,q2,h',Yq h1 h,mA (k:=1) h1 h,bu,r2.len,T5 r2 h',Cq3 (k:=3) r2 h',C31 r2 h']
     refine Fh (xq (k:=k) _ _ _ _ ?_)
     cases c4:iT l[i].vals[j].s with
     | false=>
      rw [Wd (dO (f:=λx:PVal=>iT x.s) h' c4)] at hK
      simp only [As,↓Au,bP]
      exact hK
     | true=>
      simp only [As,↓Au,x0,x5,x6,h',Hz (show j<_ by omega)]
      rw [dN h',Qg,c4];rfl
    .rw [Bq (by omega)] at Qg
     simp only [Jj,↓Ji,x0,x5,x6,q1,q2,h',Yq h1 h,mA (k:=1) h1 h,bu,r2.len,Hz (show i<_ by omega)]
     exact ⟨h,by rw [hs];exact Qg⟩
   .simp only [As,b0,b5,g1,g2]
    rfl
  .rw [Bq (by omega)] at hc
   rw [hc] at hK
   simp only [Jj,↓Ji,bP,b0,b5,g1,g2,h,h1.len]
   exact hK
 .simp only [As,a0,e1,e2]
  rfl
theorem Cj0(d:DV)(x:PArr)(Jf:Nat)(n0:Nat)(hn:n0<=nx)(h0:AR hp (Bl n0) d x)(hm:Jf<900000)(hK:∀ An Bm,Al hp nx An Bm->K (bv (Xo x Jf)) An Bm):KW (kN (k+3)) (.fn 13) [d,iv (Jf:Nat)] hp nx K:=by
 obtain ⟨d,a,c,rfl,h1,h2,h3⟩:=h0
 refine Es (Hl (by decide)) t13 (Ab rfl) λes e1 e2 he=>?_
 have a0:Ad es (.t .o)=.agg [d,a,c]:=he 0 _ rfl
 have a1:Ad es (.t (.l .o))=iv (Jf:Nat):=he 1 _ rfl
 unfold r13
 simp only [↓Au]
 refine Xv (cs:=[d,a,c]) (by rw [Ha,a0,e1];exact AR.live h1 h2 h3) λEi Dn Dd=>?_
 simp only [bR,e1,e2] at Dn Dd
 obtain ⟨⟨f0,f1,f2⟩,l0,l1,l2,_⟩:=Qd Dn
 have Fk:Al hp nx Ei (nx+1):=⟨by omega,λj hj=>Dd j (by omega)⟩
 have hh:=hK _ _ Fk
 unfold Xo at hh
 simp only [As,↓Au,e2,f0,f1,l0,l1]
 refine Fh (Cr3 (k:=k) _ _ _ d a x.dims x.attrs (Bl n0) (h1.ka hn Fk) (h2.ka hn Fk) ?_)
 cases c1:pN x.dims x.attrs with
 | false=>
  rw [c1] at hh
  simp only [As,↓Au,bP,e2]
  exact hh
 | true=>
  rw [c1,Im] at hh
  simp only [As,↓Au,e2,a1,f2,l2]
  refine Fh (Cr4 (k:=k) _ _ _ c x.cells Jf (Bl n0) (h3.ka hn Fk) hm ?_)
  simp only [As,↓Au,bP]
  exact hh
end
end Go.DD

/- Contracts: copies of lists; arrays of the same dimensions and attributes. Conditions: those that each theorem states. -/
namespace Go.DD
open Go Go.Proofs
section
variable {α:Type} {R:Rep α} {hp An:Tr DObj} {p q:Nat->Prop} {d:DV} {l:List α}
theorem RL.notnil(h:RL R hp p d l)(hl:l≠[]):isNil 0 d=some false:=by
 cases h with
 | nil=>exact absurd rfl hl
 | sl=>
  show (if 0<l.length then some false else none)=_
  rw [Af (by cases l with | nil=>exact absurd rfl hl | cons=>simp)]
 | ms id off fl l h hid lI hr hs=>
  show (if 0<l.length then some false else none)=_
  rw [Af (by cases l with | nil=>exact absurd rfl hl | cons=>simp)]
theorem RL.sl0(h:RL R hp p (.sl [] 0) l):l=[]:=by
 have:=h.len
 have e:Oc hp (.sl [] 0)=some (.v (.int .i64 ((0:Nat):Int))):=rfl
 rw [e] at this
 simp at this
 exact Ef (by omega)
theorem RL.nil0(h:RL R hp p Cb l):l=[]:=by
 have:=h.len
 have e:Oc hp Cb=some (.v (.int .i64 ((0:Nat):Int))):=rfl
 rw [e] at this
 simp at this
 exact Ef (by omega)
def OLs(R:Rep α)(hp:Tr DObj)(p:Nat->Prop)(d:DV)(l:List α):Prop:=OL R hp p d l\/(l=[]/\d=.sl [] 0)
theorem OLs.rl{n n':Nat}(h:OLs R hp p d l)(hr:Rng n n' d):RL R hp (λj=>p j\/Bw n n' j) d l:=by
 rcases h with h | ⟨rfl,rfl⟩
 .exact h.rl.mono λj hj=>hj.imp id λh=>hr j h
 .exact .sl []
theorem OLs.rlF{n n':Nat}(h:OLs R hp (λ_=>False) d l)(hr:Rng n n' d):RL R hp (Bw n n') d l:=(h.rl hr).mono λ_ hj=>hj.elim False.elim id
def Nn(d:DV)(l:List α):Prop:=l≠[]\/d=Cb\/d=.sl [] 0
end
theorem TQ(n n':Nat):Rng n n' (.sl [] 0):=λ_ h=>by cases h
theorem kW:isNil 0 (Qf (.slice none 0 0))=some true:=rfl
theorem PK{α:Type}{R:Rep α}{hp An:Tr DObj}{p q:Nat->Prop}(hf:∀ {ds:List DV} {x:α},R.rd hp p ds x->R.rd An q ds x):∀ {l:List α} {ds:List DV},Rows R hp p ds l->Rows R An q ds l
 | [],_,h=>h
 | _::_,_,⟨a,b,e,h1,h2⟩=>⟨a,b,e,hf h1,PK hf h2⟩
theorem xp(k n0:Nat)(hp:Tr DObj)(nx:Nat)(K:DV->Tr DObj->Nat->Prop)(d:DV)(l:List Int)(hn:n0<=nx)(h1:RL rInt hp (Bl n0) d l)(jS:Nn d l)(hl:l.length<2000000000)(hK:∀ An Bm d',Al hp nx An Bm->OLs rInt An (λ_=>False) d' l->Rng nx Bm d'->Nn d' l->K d' An Bm):KW (kN (k+1)) (.fn 70) [d] hp nx K:=by
 rcases jS with Gt | rfl | rfl
 .have hr:Kt 70 [d]=none:=by
   unfold Kt
   rw [Ae (by decide),Af (by decide)]
   split
   .rename_i e
    exact absurd (by cases h1 <;> simp_all) Gt
   .rfl
  refine Es hr t70 (Ab rfl) λes e1 e2 he=>?_
  have a0:Ad es (.t .o)=d:=he 0 _ rfl
  subst e1 e2
  unfold ZB
  simp only [As,↓Au,a0]
  refine eM false (by simp only [Dc,bR,bP,h1.live];exact h1.notnil Gt) kW ?_
  simp only [As,↓Au]
  refine eK (fl:=[]) (by rfl) (by rfl) λEi Dn Dd=>?_
  simp only [bR] at Dn Dd
  simp only [As,↓Au,a0]
  have r1:RL rInt Ei (Bl n0) d l:=h1.keep λj (hj:j<n0)=>Dd j (by omega)
  refine eL (R:=rInt) (p:=(λ_=>False)) (p2:=(λ_=>False)) (d:=.ms es.nx 0 0 rInt.e) (d2:=d) (l:=[]) (m:=l) (by simp only [bR,bP];rfl) (.ms es.nx [] [] Dn rfl) (by simp only [Dc,bR,bP];exact r1.live) ((by obtain ⟨ds,q1,q2⟩:=r1.srcD (es:=⟨_,Ei,_⟩);exact ⟨ds,q1,PK (p:=Bl n0) (q:=λ_=>False) (λh=>h) q2⟩)) rfl rfl (by simp;omega) (by decide) λCw Fa h2=>?_
  simp only [bR,By] at Fa h2
  have h3:=h2 (λ_=>False) (λj hj=>(hj.elim False.elim False.elim:False).elim)
  simp only [As,↓Au,bP,h3.rl.live]
  refine hK _ _ _ ⟨by omega,λj hj=>?_⟩ (.inl h3) (Rng.ms (by omega) (by omega)) (.inl Gt)
  rw [Fa j (by omega) (by simp [DV.refs];omega),Dd j (by omega)]
 .have bF:l=[]:=h1.nil0
  subst bF
  have hr:Kt 70 [Cb]=none:=by
   unfold Kt
   rw [Ae (by decide),Af (by decide)]
   rfl
  refine Es hr t70 (Ab rfl) λes e1 e2 he=>?_
  have a0:Ad es (.t .o)=Cb:=he 0 _ rfl
  subst e1 e2
  unfold ZB
  simp only [As,↓Au,a0]
  refine eM true (by simp only [Dc,bR,bP,Cb,Sa];rfl) kW ?_
  simp only [As,↓Au,bP]
  exact hK _ _ Cb (Al.refl _ _) (.inl .nil) (Rng.nil _ _) (.inr (.inl rfl))
 .have bF:l=[]:=h1.sl0
  subst bF
  exact OQ (d:=.sl [] 0) (by unfold Kt;rw [Ae (by decide),Af (by decide)];rfl) (hK _ _ _ (Al.refl _ _) (.inr ⟨rfl,rfl⟩) (TQ _ _) (.inr (.inr rfl)))
theorem Bb3(k n0:Nat)(hp:Tr DObj)(nx:Nat)(K:DV->Tr DObj->Nat->Prop)(d:DV)(l:List PVal)(hn:n0<=nx)(h1:RL rVal hp (Bl n0) d l)(jS:Nn d l)(hl:l.length<2000000000)(hK:∀ An Bm d',Al hp nx An Bm->OLs rVal An (λ_=>False) d' l->Rng nx Bm d'->Nn d' l->K d' An Bm):KW (kN (k+1)) (.fn 142) [d] hp nx K:=by
 rcases jS with Gt | rfl | rfl
 .have hr:Kt 142 [d]=none:=by
   unfold Kt
   rw [Ae (by decide),Af (by decide)]
   split
   .rename_i e
    exact absurd (by cases h1 <;> simp_all) Gt
   .rfl
  refine Es hr CZ (Ab rfl) λes e1 e2 he=>?_
  have a0:Ad es (.t .o)=d:=he 0 _ rfl
  subst e1 e2
  unfold J0
  simp only [As,↓Au,a0]
  refine eM false (by simp only [Dc,bR,bP,h1.live];exact h1.notnil Gt) kW ?_
  simp only [As,↓Au]
  refine eK (fl:=[]) (by rfl) (by rfl) λEi Dn Dd=>?_
  simp only [bR] at Dn Dd
  simp only [As,↓Au,a0]
  have r1:RL rVal Ei (Bl n0) d l:=h1.keep λj (hj:j<n0)=>Dd j (by omega)
  refine eL (R:=rVal) (p:=(λ_=>False)) (p2:=(λ_=>False)) (d:=.ms es.nx 0 0 rVal.e) (d2:=d) (l:=[]) (m:=l) (by simp only [bR,bP];rfl) (.ms es.nx [] [] Dn rfl) (by simp only [Dc,bR,bP];exact r1.live) ((by obtain ⟨ds,q1,q2⟩:=r1.srcD (es:=⟨_,Ei,_⟩);exact ⟨ds,q1,PK (p:=Bl n0) (q:=λ_=>False) (λh=>h) q2⟩)) rfl rfl (by simp;omega) (by decide) λCw Fa h2=>?_
  simp only [bR,By] at Fa h2
  have h3:=h2 (λ_=>False) (λj hj=>(hj.elim False.elim False.elim:False).elim)
  simp only [As,↓Au,bP,h3.rl.live]
  refine hK _ _ _ ⟨by omega,λj hj=>?_⟩ (.inl h3) (Rng.ms (by omega) (by omega)) (.inl Gt)
  rw [Fa j (by omega) (by simp [DV.refs];omega),Dd j (by omega)]
 .have bF:l=[]:=h1.nil0
  subst bF
  have hr:Kt 142 [Cb]=none:=by
   unfold Kt
   rw [Ae (by decide),Af (by decide)]
   rfl
  refine Es hr CZ (Ab rfl) λes e1 e2 he=>?_
  have a0:Ad es (.t .o)=Cb:=he 0 _ rfl
  subst e1 e2
  unfold J0
  simp only [As,↓Au,a0]
  refine eM true (by simp only [Dc,bR,bP,Cb,Sa];rfl) kW ?_
  simp only [As,↓Au,bP]
  exact hK _ _ Cb (Al.refl _ _) (.inl .nil) (Rng.nil _ _) (.inr (.inl rfl))
 .have bF:l=[]:=h1.sl0
  subst bF
  exact OQ (d:=.sl [] 0) (by unfold Kt;rw [Ae (by decide),Af (by decide)];rfl) (hK _ _ _ (Al.refl _ _) (.inr ⟨rfl,rfl⟩) (TQ _ _) (.inr (.inr rfl)))
theorem By8(k n0:Nat)(hp:Tr DObj)(nx:Nat)(K:DV->Tr DObj->Nat->Prop)(d:DV)(l:List PDim)(hn:n0<=nx)(h1:RL rDim hp (Bl n0) d l)(jS:Nn d l)(hl:l.length<2000000000)(hK:∀ An Bm d',Al hp nx An Bm->OLs rDim An (λ_=>False) d' l->Rng nx Bm d'->Nn d' l->K d' An Bm):KW (kN (k+1)) (.fn 162) [d] hp nx K:=by
 rcases jS with Gt | rfl | rfl
 .have hr:Kt 162 [d]=none:=by
   unfold Kt
   rw [Ae (by decide),Af (by decide)]
   split
   .rename_i e
    exact absurd (by cases h1 <;> simp_all) Gt
   .rfl
  refine Es hr CX (Ab rfl) λes e1 e2 he=>?_
  have a0:Ad es (.t .o)=d:=he 0 _ rfl
  subst e1 e2
  unfold I8
  simp only [As,↓Au,a0]
  refine eM false (by simp only [Dc,bR,bP,h1.live];exact h1.notnil Gt) kW ?_
  simp only [As,↓Au]
  refine eK (fl:=[]) (by rfl) (by rfl) λEi Dn Dd=>?_
  simp only [bR] at Dn Dd
  simp only [As,↓Au,a0]
  have r1:RL rDim Ei (Bl n0) d l:=h1.keep λj (hj:j<n0)=>Dd j (by omega)
  refine eL (R:=rDim) (p:=(λ_=>False)) (p2:=(λ_=>False)) (d:=.ms es.nx 0 0 rDim.e) (d2:=d) (l:=[]) (m:=l) (by simp only [bR,bP];rfl) (.ms es.nx [] [] Dn rfl) (by simp only [Dc,bR,bP];exact r1.live) ((by obtain ⟨ds,q1,q2⟩:=r1.srcD (es:=⟨_,Ei,_⟩);exact ⟨ds,q1,PK (p:=Bl n0) (q:=λ_=>False) (λh=>h) q2⟩)) rfl rfl (by simp;omega) (by decide) λCw Fa h2=>?_
  simp only [bR,By] at Fa h2
  have h3:=h2 (λ_=>False) (λj hj=>(hj.elim False.elim False.elim:False).elim)
  simp only [As,↓Au,bP,h3.rl.live]
  refine hK _ _ _ ⟨by omega,λj hj=>?_⟩ (.inl h3) (Rng.ms (by omega) (by omega)) (.inl Gt)
  rw [Fa j (by omega) (by simp [DV.refs];omega),Dd j (by omega)]
 .have bF:l=[]:=h1.nil0
  subst bF
  have hr:Kt 162 [Cb]=none:=by
   unfold Kt
   rw [Ae (by decide),Af (by decide)]
   rfl
  refine Es hr CX (Ab rfl) λes e1 e2 he=>?_
  have a0:Ad es (.t .o)=Cb:=he 0 _ rfl
  subst e1 e2
  unfold I8
  simp only [As,↓Au,a0]
  refine eM true (by simp only [Dc,bR,bP,Cb,Sa];rfl) kW ?_
  simp only [As,↓Au,bP]
  exact hK _ _ Cb (Al.refl _ _) (.inl .nil) (Rng.nil _ _) (.inr (.inl rfl))
 .have bF:l=[]:=h1.sl0
  subst bF
  exact OQ (d:=.sl [] 0) (by unfold Kt;rw [Ae (by decide),Af (by decide)];rfl) (hK _ _ _ (Al.refl _ _) (.inr ⟨rfl,rfl⟩) (TQ _ _) (.inr (.inr rfl)))
theorem By9(k n0:Nat)(hp:Tr DObj)(nx:Nat)(K:DV->Tr DObj->Nat->Prop)(d:DV)(l:List PAttr)(hn:n0<=nx)(h1:RL rAttr hp (Bl n0) d l)(jS:Nn d l)(hl:l.length<2000000000)(hK:∀ An Bm d',Al hp nx An Bm->OLs rAttr An (λ_=>False) d' l->Rng nx Bm d'->Nn d' l->K d' An Bm):KW (kN (k+1)) (.fn 163) [d] hp nx K:=by
 rcases jS with Gt | rfl | rfl
 .have hr:Kt 163 [d]=none:=by
   unfold Kt
   rw [Ae (by decide),Af (by decide)]
   split
   .rename_i e
    exact absurd (by cases h1 <;> simp_all) Gt
   .rfl
  refine Es hr CV (Ab rfl) λes e1 e2 he=>?_
  have a0:Ad es (.t .o)=d:=he 0 _ rfl
  subst e1 e2
  unfold I7
  simp only [As,↓Au,a0]
  refine eM false (by simp only [Dc,bR,bP,h1.live];exact h1.notnil Gt) kW ?_
  simp only [As,↓Au]
  refine eK (fl:=[]) (by rfl) (by rfl) λEi Dn Dd=>?_
  simp only [bR] at Dn Dd
  simp only [As,↓Au,a0]
  have r1:RL rAttr Ei (Bl n0) d l:=h1.keep λj (hj:j<n0)=>Dd j (by omega)
  refine eL (R:=rAttr) (p:=(λ_=>False)) (p2:=(λ_=>False)) (d:=.ms es.nx 0 0 rAttr.e) (d2:=d) (l:=[]) (m:=l) (by simp only [bR,bP];rfl) (.ms es.nx [] [] Dn rfl) (by simp only [Dc,bR,bP];exact r1.live) ((by obtain ⟨ds,q1,q2⟩:=r1.srcD (es:=⟨_,Ei,_⟩);exact ⟨ds,q1,PK (p:=Bl n0) (q:=λ_=>False) (λh=>h) q2⟩)) rfl rfl (by simp;omega) (by decide) λCw Fa h2=>?_
  simp only [bR,By] at Fa h2
  have h3:=h2 (λ_=>False) (λj hj=>(hj.elim False.elim False.elim:False).elim)
  simp only [As,↓Au,bP,h3.rl.live]
  refine hK _ _ _ ⟨by omega,λj hj=>?_⟩ (.inl h3) (Rng.ms (by omega) (by omega)) (.inl Gt)
  rw [Fa j (by omega) (by simp [DV.refs];omega),Dd j (by omega)]
 .have bF:l=[]:=h1.nil0
  subst bF
  have hr:Kt 163 [Cb]=none:=by
   unfold Kt
   rw [Ae (by decide),Af (by decide)]
   rfl
  refine Es hr CV (Ab rfl) λes e1 e2 he=>?_
  have a0:Ad es (.t .o)=Cb:=he 0 _ rfl
  subst e1 e2
  unfold I7
  simp only [As,↓Au,a0]
  refine eM true (by simp only [Dc,bR,bP,Cb,Sa];rfl) kW ?_
  simp only [As,↓Au,bP]
  exact hK _ _ Cb (Al.refl _ _) (.inl .nil) (Rng.nil _ _) (.inr (.inl rfl))
 .have bF:l=[]:=h1.sl0
  subst bF
  exact OQ (d:=.sl [] 0) (by unfold Kt;rw [Ae (by decide),Af (by decide)];rfl) (hK _ _ _ (Al.refl _ _) (.inr ⟨rfl,rfl⟩) (TQ _ _) (.inr (.inr rfl)))
def rCells:Rep (List PCell):=Nf rCell 24
end Go.DD

/- Contracts: arrays that are alike; where coordinates lie in an array. Conditions: those that each theorem states. -/
namespace Go.DD
open Go Go.Proofs
def Qr(l:List PCell):Prop:=∀ i j,(h:i<j)->(h2:j<l.length)->Cs (l[i]'(by omega)).pos l[j].pos = -1
def Sp(l:List PCell)(x:List Int):List PVal:=match l.find? (λc=>decide (c.pos=x)) with
 | some c=>c.vals
 | none=>[]
theorem A23{l m:List Int}(h:Cs l m = -1):l≠m:=λe=>by rw [cmpL_0.2 e] at h;cases h
theorem Bp8{l:List PCell}(hs:Qr l){i:Nat}(hi:i<l.length):Sp l l[i].pos=l[i].vals:=by
 have:l.find? (λc=>decide (c.pos=l[i].pos))=some l[i]:=by
  rw [List.find?_eq_some_iff_getElem]
  refine ⟨by simp,i,hi,rfl,λj hj=>?_⟩
  have:=A23 (hs j i hj hi)
  simpa using this
 unfold Sp
 rw [this]
theorem Bp9{l:List PCell}{x:List Int}(h:∀ j,(h:j<l.length)->l[j].pos≠x):Sp l x=[]:=by
 have:l.find? (λc=>decide (c.pos=x))=none:=by
  rw [List.find?_eq_none]
  intro c hc
  obtain ⟨j,hj,rfl⟩:=Br.1 hc
  simpa using h j hj
 unfold Sp
 rw [this]
section
variable (k n0:Nat) (hp:Tr DObj) (nx:Nat) (K:DV->Tr DObj->Nat->Prop)
end
end Go.DD

/- Contracts: cells are merged and sorted. Conditions: those that each theorem states. -/
namespace Go.DD
open Go Go.Proofs
theorem RL.sliE{α:Type}{R:Rep α}{hp:Tr DObj}{p:Nat->Prop}{d:DV}{l:List α}(hd:RL R hp p d l){a z e:Nat}{lo hi:Option DV}(he:e=R.e)(Gi:gB 0 lo=some (a:Int))(Si:∀ n:Int,n=l.length->gB n hi=some (z:Int))(haz:a<=z)(hz:z<=l.length):Go.DD.sliE e d lo hi=some (lD R.e a z d):=by
 subst he
 cases hd with
 | nil=>
  have ha:a=0/\z=0:=by simp at hz;omega
  obtain ⟨rfl,rfl⟩:=ha
  have hh:=Si 0 rfl
  unfold Go.DD.sliE
  simp only [Cb,Gi,hh]
  rfl
 | sl=>
  have hh:=Si l.length rfl
  unfold Go.DD.sliE
  simp only [Gi,hh]
  rw [Af ⟨by omega,by omega,by omega⟩]
  simp only [Ee];rfl
 | ms id off fl l hg hid hl hr hs=>
  have hh:=Si l.length rfl
  unfold Go.DD.sliE
  simp only [Gi,hh]
  rw [Af ⟨trivial,by omega,by omega,by omega⟩]
  simp only [Ee]
  have e2:((a:Int)<(z:Int)\/(a:Int)=0)↔(a<z\/a=0):=by omega
  unfold lD
  simp only [e2]
theorem PJ{hp:Tr DObj}{p:Nat->Prop}{d:DV}{l:List PCell}(h:RL rCell hp p d l)(hi:0<l.length):Qu hp 2 d (.v (.int .i64 0))=some (Bz 2 d 0):=h.ia hi
section
variable (k n0:Nat) (hp:Tr DObj) (nx:Nat) (K:DV->Tr DObj->Nat->Prop)
end
end Go.DD

/- Contracts: cells are sorted. Conditions: those that each theorem states. -/
namespace Go.DD
open Go Go.Proofs
theorem RL.ro'{α:Type}{R:Rep α}{hp:Tr DObj}{p:Nat->Prop}{d:DV}{l:List α}{n m:Nat}{an:List Nat}(h:RL R hp p d l)(ho:∀ j,p j->j<n\/n+m<=j):Hh d (λid=>Cp n m an hp id):=λid hid=>(rX hp id).2 ⟨(h.refs id hid).2,(ho id (h.refs id hid).1).imp (λh=>h) .inl⟩
end Go.DD

/- Contracts: the coordinates of some arrays. Conditions: those that each theorem states. -/
namespace Go.DD
open Go Go.Proofs
def rChange:Rep PCell:=Wz Po wR 62 PCell.pos PCell.vals
theorem rChange_rd{hp:Tr DObj}{p:Nat->Prop}{ds:List DV}{x:PCell} : rChange.rd hp p ds x↔∃ a b,ds=[a,b]/\RL rInt hp p a x.pos/\RL rVal hp p b x.vals:=rCell_rd
theorem Cr5{hp:Tr DObj}{p:Nat->Prop}{d:DV}{l:List PArr}(h:RL rArr hp p d l){i:Nat}(hi:i<l.length):∃ a b c,RL rDim hp p a l[i].dims/\RL rAttr hp p b l[i].attrs/\RL rCell hp p c l[i].cells/\Fy hp (some 3) (Bz 3 d i)=some (.agg [a,b,c])/\Fy hp none (Fx (Bz 3 d i) 2)=some c:=by
 obtain ⟨ds,hr,h1,h0,h2⟩:=h.at hi
 obtain ⟨a,b,c,rfl,h3,h4,h5⟩:=rArr_rd.1 hr
 exact ⟨a,b,c,h3,h4,h5,h1,h2 2 _ rfl⟩
section
variable (k n0:Nat) (hp:Tr DObj) (nx:Nat) (K:DV->Tr DObj->Nat->Prop)
end
end Go.DD

/- Contracts: the reference's difference of two arrays. Conditions: those that each theorem states. -/
namespace Go.DD
open Go Go.Proofs
theorem OO{z w:Value}{a b:DV}(h1:a.okC=true/\a.cells=[a])(h2:b.okC=true/\b.cells=[b]):Ho [DV.v z,DV.v w] [(0,1,a),(1,1,b)]=some [a,b]:=by
 simp [Ho,h1.1,h1.2,h2.1,h2.2]
theorem Cj1{z:List Value}{a b:DV}(hz:z.length=2):Ho (List.replicate 1 (z.map DV.v)).flatten [(0,2,.agg [a,b])]=some [a,b]:=by
 match z,hz with
 | [u,v],_=>rfl
theorem AR.rox{hp:Tr DObj}{n0 n m:Nat}{an:List Nat}{a b c:DV}{x:PArr}(h1:RL rDim hp (Bl n0) a x.dims)(h2:RL rAttr hp (Bl n0) b x.attrs)(h3:RL rCell hp (Bl n0) c x.cells)(hn:n0<=n):Hh (.agg [a,b,c]) (λid=>Cp n m an hp id):=λid hid=>by
 have:id∈a.refs\/id∈b.refs\/id∈c.refs:=by simpa [DV.refs,DV.refsL] using hid
 rcases this with h | h | h
 .exact h1.rox hn id h
 .exact h2.rox hn id h
 .exact h3.rox hn id h
theorem AR.same{hp:Tr DObj}{p:Nat->Prop}{a b c:DV}{x:PArr}(h1:RL rDim hp p a x.dims)(h2:RL rAttr hp p b x.attrs)(h3:RL rCell hp p c x.cells):∀ d∈[a,b,c],Nk 6 d d=true:=λd hd=>by
 simp only [Ap,Cm,or_false] at hd
 rcases hd with rfl | rfl | rfl
 .exact h1.same (by decide)
 .exact h2.same (by decide)
 .exact h3.same (by decide)
theorem Wn{α β:Type}{R:Rep α}{S:Rep β}{hp:Tr DObj}{p q:Nat->Prop}{a b:DV}{l:List α}{m:List β}(h1:RL R hp p a l)(h2:RL S hp q b m):Cg hp (.agg [a,b])=.agg [a,b]:=Wm λid hid=>by
 have:id∈a.refs\/id∈b.refs:=by simpa [DV.refs,DV.refsL] using hid
 rcases this with h | h
 .exact (h1.refs id h).2
 .exact (h2.refs id h).2
section
variable (k n0:Nat) (hp:Tr DObj) (nx:Nat) (K:DV->Tr DObj->Nat->Prop)
end
end Go.DD

/- Contracts: the reference's Delta; equal changes. Conditions: those that each theorem states. -/
namespace Go.DD
open Go Go.Proofs
theorem AN{hp:Tr DObj}{p:Nat->Prop}{d:DV}{l:List PCell}(h:RL rChange hp p d l){i:Nat}(hi:i<l.length):∃ a b,RL rInt hp p a l[i].pos/\RL rVal hp p b l[i].vals/\Fy hp (some 2) (Bz 2 d i)=some (.agg [a,b])/\Fy hp none (Fx (Bz 2 d i) 0)=some a/\Fy hp none (Fx (Bz 2 d i) 1)=some b:=by
 obtain ⟨ds,hr,h1,h0,h2⟩:=h.at hi
 obtain ⟨a,b,rfl,h3,h4⟩:=rChange_rd.1 hr
 exact ⟨a,b,h3,h4,h1,h2 0 _ rfl,h2 1 _ rfl⟩
theorem D9{hp:Tr DObj}{p:Nat->Prop}{d:DV}{l:List PCell}(h:RL rChange hp p d l){i:Nat}(hi:i<l.length):Qu hp 2 d (.v (.int .i64 (i:Int)))=some (Bz 2 d i):=h.ia hi
theorem TO{hp:Tr DObj}{p:Nat->Prop}{d:DV}{l:List PCell}{k:Nat}(h:RL rChange hp p d l){i:Nat}(hi:i<l.length):Mx hp k (Bz 2 d i)=some (Fx (Bz 2 d i) k):=h.fa hi
theorem Bz0{hp:Tr DObj}{n0:Nat}{d:DV}{l:List PCell}{n m i:Nat}{an:List Nat}(h:RL rChange hp (Bl n0) d l)(hn:n0<=n):Hh (Bz 2 d i) (λid=>Cp n m an hp id):=h.roax hn
theorem Bz1{hp:Tr DObj}{n0:Nat}{d:DV}{l:List PCell}{n m i k:Nat}{an:List Nat}(h:RL rChange hp (Bl n0) d l)(hn:n0<=n):Hh (Fx (Bz 2 d i) k) (λid=>Cp n m an hp id):=h.rofx hn
theorem Bq0{d:List PDim}{a:List PAttr}{l:List PCell} : ∀ {b:PCell},Qb d a (some b) l=0->(∀ c∈l,Cs b.pos c.pos = -1/\Hb d a c=0)/\l.Pairwise (λx y=>Cs x.pos y.pos = -1):=by
 induction l with
 | nil=>intro b _;exact ⟨λc hc=>(by cases hc),.nil⟩
 | cons c l ih=>
  intro b h
  unfold Qb at h
  by_cases c1:Hb d a c=0
  .rw [Ae (by simp [c1])] at h
   by_cases c2:Cs b.pos c.pos=0
   .rw [Af c2] at h;cases h
   .rw [Ae c2] at h
    by_cases c3:Cs b.pos c.pos=1
    .rw [Af c3] at h;cases h
    .rw [Ae c3] at h
     have c4:Cs b.pos c.pos = -1:=by have:=kZ b.pos c.pos;omega
     obtain ⟨h1,h2⟩:=ih h
     refine ⟨λe he=>?_,.cons (λe he=>(h1 e he).1) h2⟩
     rcases Ap.1 he with rfl | he
     .exact ⟨c4,c1⟩
     .exact ⟨mC c4 (h1 e he).1,(h1 e he).2⟩
  .rw [Af c1] at h;exact absurd h c1
theorem jC{x:PArr}(h:Mf x=0):x.cells.Pairwise (λx y=>Cs x.pos y.pos = -1)/\(∀ c∈x.cells,Hb x.dims x.attrs c=0)/\iY x.dims x.attrs=0:=by
 unfold Mf at h
 by_cases c1:iY x.dims x.attrs=0
 .rw [Ae (by simp [c1])] at h
  split at h
  .cases h
  .generalize x.cells=l at h ⊢
   cases l with
   | nil=>exact ⟨.nil,λc hc=>(by cases hc),c1⟩
   | cons c l=>
    unfold Qb at h
    by_cases c2:Hb x.dims x.attrs c=0
    .rw [Ae (by simp [c2])] at h
     obtain ⟨h1,h2⟩:=Bq0 h
     refine ⟨.cons (λe he=>(h1 e he).1) h2,λe he=>?_,c1⟩
     rcases Ap.1 he with rfl | he
     .exact c2
     .exact (h1 e he).2
    .rw [Af c2] at h;exact absurd h c2
 .rw [Af c1] at h;exact absurd h c1
theorem A25{x:PArr}(h:Mf x=0):Qr x.cells:=λi j Nu hj=>Db.1 (jC h).1 i j (by omega) hj Nu
theorem AE{x:PArr}(h:Mf x=0):∀ c∈x.cells,c.pos≠[]:=λc hc he=>by
 have h1:=(jC h).2.1 c hc
 have h2:=(jC h).2.2
 have h3:c.pos.length=x.dims.length:=by
  unfold Hb at h1
  split at h1
  .cases h1
  .rename_i h3;omega
 have h4:x.dims.length=0:=by rw [<- h3,he];rfl
 have h5:Oo x.dims=13:=by unfold Oo;rw [Af (Or.inl (show x.dims.length<1 by omega))]
 unfold iY at h2
 rw [h5] at h2
 cases h2
section
variable (k n0:Nat) (hp:Tr DObj) (nx:Nat) (K:DV->Tr DObj->Nat->Prop)
end
end Go.DD
