/- A part. -/
import Derived.Test.YtnphfnhhpcelbaaGreatYg
import Derived.Test.YtnphfnhhpcelbaaGreatYi
import Derived.Test.YtnphfnhhpcelbaaGreatYj
import Derived.Laws.RangeAny
import Derived.Laws.RangeString
noncomputable section
set_option linter.unusedSectionVars false
set_option linter.unusedVariables false
namespace Go.DD
open Go Go.Proofs
theorem Vu:fF Tryz.prog 1000000 te:=sg _ _
theorem Bw7{f:Nat}(LZ:∀ cap,Known Tryz.prog f [.v (.slice none 0 cap)] (.v (.slice none 0 0)))(qe:∀ a cap,Known Tryz.prog f [.v (.slice (some a) 0 cap)] (.sl [] 0)):Known Tryz.prog f [.sl [] 0] (.sl [] 0):=by
 refine ⟨(LZ 0).1,λx hx=>by rw [Am] at hx;subst hx;rfl,λw S vs h1 h2 h3 hg=>?_⟩
 obtain ⟨v,rfl⟩:∃ v,vs=[v]:=by
  match vs,h2 with
  | [v],_=>exact ⟨v,rfl⟩
 have hr:=h3 0 v _ rfl rfl
 have fin:∀ a cap,v=.slice a 0 cap->Calls Tryz.prog f [v].toArray w λe w'=>∃ v r,e=.returned v/\r=.sl [] 0/\Go.RowKit.Below w.heap.size w w'/\RelI w' (λb=>(S b\/w.heap.size<=b)/\b<w'.heap.size) v r:=by
  intro a cap hv
  subst hv
  cases a with
  | none=>
   refine ((LZ cap).2.2 w S [.slice none 0 cap] h1 rfl (λj u d hu hd=>?_) hg).mono λe w' ⟨v,r,h4,h5,h6,h7⟩=>?_
   .match j with
    | 0=>cases hu;cases hd;exact .v _
    | j+1=>cases hu
   .subst h5
    cases h7
    exact ⟨_,_,h4,rfl,h6,.sl0 _ _⟩
  | some a=>
   refine (qe a cap).2.2 w S [.slice (some a) 0 cap] h1 rfl (λj u d hu hd=>?_) hg
   match j with
   | 0=>cases hu;cases hd;exact .v _
   | j+1=>cases hu
 cases hr with
 | sl0 a cap=>exact fin a cap rfl
 | sl ad n cap us cs hl hn ha ho hc h=>exact fin (some ad) cap rfl
def RW:List Nat:=[70,142,139,162,163]
theorem Cz7:∀ f∈RW,Known Tryz.prog f [.sl [] 0] (.sl [] 0):=by
 intro f hf
 simp only [RW,Aq,Ps,or_false] at hf
 rcases hf with rfl | rfl | rfl | rfl | rfl <;> exact Bw7 (λcap=>A98 (n:=1000) (k:=3) mixed Vu (MemoOK.nil _) rfl (by kernel_rfl)) λa cap=>A98 (n:=1000) (k:=3) mixed Vu (MemoOK.nil _) rfl (by kernel_rfl)
def Lg(f:Nat)(ds:List DV):Option DV:=if f=15 then (match ds with
 | []=>some (.v (.bool true))
 | _=>none) else if f∈RW then (match ds with
 | [.sl [] 0]=>some (.sl [] 0)
 | _=>none) else none
theorem W5:∀ f ds d,Lg f ds=some d->Known Tryz.prog f ds d:=by
 intro f ds d h
 unfold Lg at h
 split at h
 .rename_i hf
  subst hf
  cases ds with
  | nil=>cases h;exact Cz6
  | cons _ _=>cases h
 .split at h
  .rename_i hf
   split at h
   .cases h;exact Cz7 f hf
   .cases h
  .cases h
theorem Hm{f:Nat}{ds:List DV}(h:f≠15/\f∉RW):Lg f ds=none:=by unfold Lg;rw [Ad h.1,Ad h.2]
def kN(k:Nat):Bg:=Hh te 1000000 Lg k
theorem Bl5(k:Nat)(hp:Tr DObj)(nx:Nat)(K:DV->Tr DObj->Nat->Prop)(h:K (.v (.bool true)) hp nx):KW (kN (k+1)) (.fn 15) [] hp nx K:=NZ (d:=.v (.bool true)) rfl h
section
variable {α:Type} {R:Rep α} {hp Ao:Tr DObj} {n0 nx Bk:Nat} {d:DV} {l:List α}
theorem RL.ka(h:RL R hp (Bl n0) d l)(hn:n0<=nx)(a:Al hp nx Ao Bk):RL R Ao (Bl n0) d l:=h.keep λj hj=>a.same j (Bp hj hn)
theorem RL.bl{n:Nat}(h:RL R hp (Bl n0) d l)(hn:n0<=n):RL R hp (Bl n) d l:=h.mono λ_ hj=>Bp hj hn
theorem RL.rox{n m:Nat}{an:List Nat}(h:RL R hp (Bl n0) d l)(hn:n0<=n):Ii d (λid=>Cs n m an hp id):=h.ro λ_ hj=>Bp hj hn
theorem RL.roax{n m i:Nat}{an:List Nat}(h:RL R hp (Bl n0) d l)(hn:n0<=n):Ii (Ca R.e d i) (λid=>Cs n m an hp id):=h.roa λ_ hj=>Bp hj hn
theorem RL.rofx{n m i k:Nat}{an:List Nat}(h:RL R hp (Bl n0) d l)(hn:n0<=n):Ii (Gi (Ca R.e d i) k) (λid=>Cs n m an hp id):=h.rof λ_ hj=>Bp hj hn
end
theorem Al.nx{hp Ao:Tr DObj}{n n' m:Nat}(a:Al hp n Ao n')(h:n'<=m):Al hp n Ao m:=⟨Ep a.le h,a.same⟩
theorem Al.new{hp Ao Db:Tr DObj}{n n' n2:Nat}(a:Al hp n Ao n')(h:n'<=n2)(hk:∀ j,j<n->Db.get j=Ao.get j):Al hp n Db n2:=⟨Ep a.le h,λj hj=>(hk j hj).trans (a.same j hj)⟩
theorem Al.ini(hp:Tr DObj){n m:Nat}(h:n<=m):Al hp n hp m:=⟨h,λ_ _=>rfl⟩
section
variable {hp:Tr DObj} {n0:Nat} {p:Nat->Prop} {d:DV} {l:List Int} {i:Nat}
theorem lP(h:RL rInt hp p d l)(hi:i<l.length):Rr hp 1 d (.v (.int .i64 (i:Int)))=some (Ca 1 d i):=h.ia hi
theorem R2{n m:Nat}{an:List Nat}(h:RL rInt hp (Bl n0) d l)(hn:n0<=n):Ii (Ca 1 d i) (λid=>Cs n m an hp id)↔True:=Bn (h.roax hn)
end
section
variable {hp:Tr DObj} {n0:Nat} {p:Nat->Prop} {d:DV} {l:List PVal} {i:Nat}
theorem W4(h:RL rVal hp p d l)(hi:i<l.length):Rr hp 4 d (.v (.int .i64 (i:Int)))=some (Ca 4 d i):=h.ia hi
theorem SJ{n m:Nat}{an:List Nat}(h:RL rVal hp (Bl n0) d l)(hn:n0<=n):Ii (Ca 4 d i) (λid=>Cs n m an hp id)↔True:=Bn (h.roax hn)
end
section
variable {hp:Tr DObj} {n0:Nat} {p:Nat->Prop} {d:DV} {l:List PDim} {i:Nat}
theorem B9(h:RL rDim hp p d l)(hi:i<l.length):Rr hp 3 d (.v (.int .i64 (i:Int)))=some (Ca 3 d i):=h.ia hi
theorem Bw8{k:Nat}(h:RL rDim hp p d l)(hi:i<l.length):On hp k (Ca 3 d i)=some (Gi (Ca 3 d i) k):=h.fa hi
theorem SI{n m:Nat}{an:List Nat}(h:RL rDim hp (Bl n0) d l)(hn:n0<=n):Ii (Ca 3 d i) (λid=>Cs n m an hp id)↔True:=Bn (h.roax hn)
end
section
variable {hp:Tr DObj} {n0:Nat} {p:Nat->Prop} {d:DV} {l:List PAttr} {i:Nat}
theorem R1(h:RL rAttr hp p d l)(hi:i<l.length):Rr hp 2 d (.v (.int .i64 (i:Int)))=some (Ca 2 d i):=h.ia hi
theorem Bl6{k:Nat}(h:RL rAttr hp p d l)(hi:i<l.length):On hp k (Ca 2 d i)=some (Gi (Ca 2 d i) k):=h.fa hi
theorem Y1{n m:Nat}{an:List Nat}(h:RL rAttr hp (Bl n0) d l)(hn:n0<=n):Ii (Ca 2 d i) (λid=>Cs n m an hp id)↔True:=Bn (h.roax hn)
theorem Ba5{n m k:Nat}{an:List Nat}(h:RL rAttr hp (Bl n0) d l)(hn:n0<=n):Ii (Gi (Ca 2 d i) k) (λid=>Cs n m an hp id)↔True:=Bn (h.rofx hn)
end
section
variable {hp:Tr DObj} {n0:Nat} {p:Nat->Prop} {d:DV} {l:List PCell} {i:Nat}
theorem dC(h:RL rCell hp p d l)(hi:i<l.length):Rr hp 2 d (.v (.int .i64 (i:Int)))=some (Ca 2 d i):=h.ia hi
theorem C6{k:Nat}(h:RL rCell hp p d l)(hi:i<l.length):On hp k (Ca 2 d i)=some (Gi (Ca 2 d i) k):=h.fa hi
theorem R7{n m:Nat}{an:List Nat}(h:RL rCell hp (Bl n0) d l)(hn:n0<=n):Ii (Ca 2 d i) (λid=>Cs n m an hp id)↔True:=Bn (h.roax hn)
theorem vd{n m k:Nat}{an:List Nat}(h:RL rCell hp (Bl n0) d l)(hn:n0<=n):Ii (Gi (Ca 2 d i) k) (λid=>Cs n m an hp id)↔True:=Bn (h.rofx hn)
end
section
variable {hp:Tr DObj} {n0:Nat} {p:Nat->Prop} {d:DV} {l:List (List Int)} {i:Nat}
end
section
variable {hp:Tr DObj} {n0:Nat} {p:Nat->Prop} {d:DV} {l:List (List PVal)} {i:Nat}
end
theorem B68{hp:Tr DObj}{p:Nat->Prop}{d:DV}{l:List (List Int)}(h:RL Qh hp p d l){i:Nat}(hi:i<l.length):∃ a,RL rInt hp p a l[i]/\Gl hp none (Ca 1 d i)=some a:=by
 obtain ⟨ds,hr,h1,h0,h2⟩:=h.at hi
 obtain ⟨a,rfl,h3⟩:=hr
 exact ⟨a,h3,h0 _ rfl⟩
theorem NL{α:Type}{l m:List α}{i:Nat}(h1:i<l.length)(h2:i<m.length):(l.drop i=m.drop i)↔(l[i]=m[i]/\l.drop (i+1)=m.drop (i+1)):=by
 rw [Bb h1,Bb h2,List.cons.injEq]
theorem Y9(neg:Bool)(ks:List Nat)(x y:Operand)(nid:Nat)(es:ES):Gd (Bd (.eqs neg ks x y)) nid es=uF neg ks (es.ds.ev x) (es.ds.ev y):=fW (X:=λes=>uF neg ks (es.ds.ev x) (es.ds.ev y)) (GO neg ks x y) nid
theorem X4{hp:Tr DObj}{cs:List DV}(h:DV.refsL cs=[]):Cd hp (.agg cs)=.agg cs:=fI (by rw [DV.refs];exact h)
theorem B7{cs:List DV}{f:Nat->Bool}(h:DV.refsL cs=[]):Ii (.agg cs) f↔True:=MZ (by rw [DV.refs];exact h)
theorem Lw(a b:ByteArray):(a.toList==b.toList)=decide (a=b):=by
 by_cases h:a=b
 .subst h;simp
 .have:a.toList≠b.toList:=λe=>h (by
   rw [ByteArray.toList_eq,ByteArray.toList_eq] at e
   have e2:=Jl.1 e
   obtain ⟨a⟩:=a;obtain ⟨b⟩:=b
   simp only at e2;rw [e2])
  simp [h,this]
theorem zV(x y:PVal):Rw [0,0,0,2] (vc x) (vc y)=some (decide (x=y)):=by
 obtain ⟨k,n,d,s⟩:=x
 obtain ⟨k',n',d',s'⟩:=y
 simp only [vc,Rw,iA,iv,sv,Ex,Lw,PVal.mk.injEq]
 by_cases h1:k=k'
 .by_cases h2:n=n'
  .by_cases h3:d=d'
   .by_cases h4:s=s' <;> simp [h1,h2,h3,h4]
   .simp [h1,h2,h3,Dn.2 h3]
  .simp [h1,h2,Dn.2 h2]
 .simp [h1,Dn.2 h1]
theorem zW(x y:PDim):Rw [2,0,0] (dc x) (dc y)=some (decide (x=y)):=by
 obtain ⟨n,a,b⟩:=x
 obtain ⟨n',a',b'⟩:=y
 simp only [dc,Rw,iA,iv,sv,Ex,Lw,PDim.mk.injEq]
 by_cases h1:n=n'
 .by_cases h2:a=a'
  .by_cases h3:b=b'
   .simp [h1,h2,h3]
   .simp [h1,h2,h3,Dn.2 h3]
  .simp [h1,h2,Dn.2 h2]
 .simp [h1]
theorem zX(x y:PAttr):Rw [2,0] (ac x) (ac y)=some (decide (x=y)):=by
 obtain ⟨n,a⟩:=x
 obtain ⟨n',a'⟩:=y
 simp only [ac,Rw,iA,iv,sv,Ex,Lw,PAttr.mk.injEq]
 by_cases h1:n=n'
 .by_cases h2:a=a'
  .simp [h1,h2]
  .simp [h1,h2,Dn.2 h2]
 .simp [h1]
theorem BP{p:Pa}{b:Bool}{f:Nat}{args:List EO}{dst:Option Pa}{call:Bg}{es:ES}{Q:ES->Prop} : SW (sG p b dst (Bj f args dst)) call es Q↔GW (Ae es (.t p)) b (SW (Bj f args dst) call es Q) (Q (es.putE dst (.v undef))):=Oh
theorem xY(kd:KD)(z:Value)(x k:Operand)(es:ES)(nid:Nat):Bd (.lkp kd z x k false) es nid=Iw (Rb es.hp kd z (es.ds.ev x) (es.ds.ev k)):=by
 rw [Fi]
 simp only [Ay,Rb]
 cases Tu (es.ds.ev k) with
 | none=>rfl
 | some kv=>
  simp only []
  by_cases hk:fS kd kv=true
  .rw [Af hk,Af hk]
   cases es.ds.ev x with
   | v a=>
    cases a with
    | map a=>cases a <;> rfl
    | _=>rfl
   | mp id=>
    show (match es.hp.get id with
     | some (.mapo _ es)=>match findD kd kv es 0 with
      | some (some p)=>some (Gj false p.2.v true,Upd.keep)
      | some none=>some (Gj false (.v z) false,.keep)
      | none=>none
     | _=>none)=Iw (match es.hp.get id with
     | some (.mapo _ es)=>match findD kd kv es 0 with
      | some (some p)=>some (Gj false p.2.v true)
      | some none=>some (Gj false (.v z) false)
      | none=>none
     | _=>none)
    cases es.hp.get id with
    | none=>rfl
    | some o=>
     cases o with
     | mapo c l=>
      simp only []
      cases findD kd kv l 0 with
      | none=>rfl
      | some r=>cases r <;> rfl
     | _=>rfl
   | _=>rfl
  .rw [Ad hk,Ad hk];rfl
theorem Cg6{dst:Option Pa}{kd:KD}{z:Value}{x k:Operand}{call:Bg}{es:ES}{Q:ES->Prop} : SW (sU dst (Bd (.lkp kd z x k false))) call es Q↔XW (Rb es.hp kd z (es.ds.ev x) (es.ds.ev k)) λd=>Q (es.putE dst d):=aY (xY kd z x k)
theorem Co6{p:Pa}{g:Bool}{dst:Option Pa}{kd:KD}{z:Value}{x k:Operand}{call:Bg}{es:ES}{Q:ES->Prop} : SW (sG p g dst (sU dst (Bd (.lkp kd z x k false)))) call es Q↔XW (eR (Ae es (.t p)) g (Rb es.hp kd z (es.ds.ev x) (es.ds.ev k))) λd=>Q (es.putE dst d):=mX (xY kd z x k)
theorem kb{K:DV->Tr DObj->Nat->Prop}{a b:Bool}{hp:Tr DObj}{nx:Nat}(h:K (bv b) hp nx)(e:a=b):K (.v (.bool a)) hp nx:=by rw [e];exact h
theorem AS{l:List UInt8}{i:Nat}(h:i<l.length):Iu none ((l.map λc=>DV.v (.int .u8 (c.toNat:Int))).drop (i*1))=some (.v (.int .u8 (l[i].toNat:Int))):=by
 rw [Nat.mul_one,Bb (by simpa using h)]
 simp [Iu]
theorem Cz8{s:ByteArray}{i:Nat}{k:IntKind}(h:i<s.data.toList.length):Rp (.v (.string s)) (.v (.int k (i:Int)))=some (.v (.int .u8 (s.data.toList[i].toNat:Int))):=by
 show (if 0<=(i:Int) then (s[(i:Int).toNat]?).map λc=>DV.v (.int .u8 (c.toNat:Int)) else none)=_
 rw [Af (by omega)]
 have hs:i<s.size:=h
 have:s[(i:Int).toNat]?=some s.data.toList[i]:=by
  rw [Hc,getElem?_pos s i hs];rfl
 rw [this];rfl
theorem xZ(x y:Operand)(es:ES)(nid:Nat):Bd (.ixs x y) es nid=Iw (Rp (es.ds.ev x) (es.ds.ev y)):=by
 rw [Fi];simp only [Ay]
 cases es.ds.ev x with
 | v a=>
  cases a with
  | string b=>
   cases es.ds.ev y with
   | v c=>
    cases c with
    | int kk j=>
     show (if 0<=j then (b[j.toNat]?).map λc=>(DV.v (.int .u8 (c.toNat:Int)),Upd.keep) else none)=Iw (if 0<=j then (b[j.toNat]?).map λc=>DV.v (.int .u8 (c.toNat:Int)) else none)
     by_cases h:0<=j
     .rw [Af h,Af h];cases b[j.toNat]? <;> rfl
     .rw [Ad h,Ad h];rfl
    | _=>rfl
   | _=>rfl
  | _=>cases es.ds.ev y with
   | v c=>cases c <;> rfl
   | _=>rfl
 | _=>cases es.ds.ev y with
  | v c=>cases c <;> rfl
  | _=>rfl
theorem Cg7{dst:Option Pa}{x:Operand}{v:Value}{call:Bg}{es:ES}{Q:ES->Prop} : SW (sU dst (Bd (.ixs x (.const v)))) call es Q↔XW (Rp (es.ds.ev x) (Qt v)) λd=>Q (es.putE dst d):=aY (xZ x (.const v))
theorem uW{call:Bg}{es:ES}{Q:ES->Prop}{dst:Option Pa}{kd:KD}{x k y:Operand} : SW (sU dst (Bd (.mup kd x k y))) call es Q↔@Nr (sU dst (Bd (.mup kd x k y))) call es ⟨Q⟩:=Da
def V9(t:Bool)[a:Hold Prop][b:Hold Prop]:Prop:=(t=true->a.val)/\(t=false->b.val)
theorem Co7{t:Bool}{A B:Prop} : CW (.v (.bool t)) A B↔@V9 t ⟨A⟩ ⟨B⟩:=P1
theorem LN{A B:Prop} : @V9 true ⟨A⟩ ⟨B⟩↔A:=by unfold V9;simp
theorem LO{A B:Prop} : @V9 false ⟨A⟩ ⟨B⟩↔B:=by unfold V9;simp
theorem A0{t:Bool}{a b:Hold Prop}(h1:t=true->a.val)(h2:t=false->b.val) : @V9 t a b:=⟨h1,h2⟩
theorem Cz9{c:Bool}{hp:Tr DObj}{kd:KD}{z:Value}{a b y:DV} : Rb hp kd z (if c=true then a else b) y=if c=true then Rb hp kd z a y else Rb hp kd z b y:=by cases c <;> rfl
theorem C00{c:Bool}{hp:Tr DObj}{kd:KD}{z:Value}{a b y:DV} : Rb hp kd z y (if c=true then a else b)=if c=true then Rb hp kd z y a else Rb hp kd z y b:=by cases c <;> rfl
theorem Cg8(a b:ByteArray):Ds .eql (.v (.string a)) (.v (.string b))=some (.v (.bool (decide (a=b)))):=by
 rw [A6]
 show (some (Value.bool (a.toList==b.toList))).map DV.v=_
 rw [Lw];rfl
theorem Cg9(a b:ByteArray):Ds .neq (.v (.string a)) (.v (.string b))=some (.v (.bool (!decide (a=b)))):=by
 rw [A6]
 show (some (Value.bool !(a.toList==b.toList))).map DV.v=_
 rw [Lw];rfl
theorem A7(a:Bool):MD false (.v (.bool a)) (.v (.bool true))=some (.v (.bool a)):=by cases a <;> rfl
theorem A8(a:Bool):MD false (.v (.bool a)) (.v (.bool false))=some (.v (.bool (!a))):=by cases a <;> rfl
theorem ZP:Cm 100=.r (.l (.r (.l (.l (.r .o))))):=nr rfl
theorem ZO:Cm 101=.l (.r (.r (.l (.l (.r .o))))):=nr rfl
theorem ZN:Cm 102=.r (.r (.r (.l (.l (.r .o))))):=nr rfl
theorem ZM:Cm 103=.l (.l (.l (.r (.l (.r .o))))):=nr rfl
theorem ZL:Cm 104=.r (.l (.l (.r (.l (.r .o))))):=nr rfl
theorem ZK:Cm 105=.l (.r (.l (.r (.l (.r .o))))):=nr rfl
theorem ZJ:Cm 106=.r (.r (.l (.r (.l (.r .o))))):=nr rfl
theorem ZI:Cm 107=.l (.l (.r (.r (.l (.r .o))))):=nr rfl
theorem ZH:Cm 108=.r (.l (.r (.r (.l (.r .o))))):=nr rfl
theorem ZG:Cm 109=.l (.r (.r (.r (.l (.r .o))))):=nr rfl
theorem ZF:Cm 110=.r (.r (.r (.r (.l (.r .o))))):=nr rfl
theorem ZE:Cm 111=.l (.l (.l (.l (.r (.r .o))))):=nr rfl
theorem ZD:Cm 112=.r (.l (.l (.l (.r (.r .o))))):=nr rfl
theorem ZC:Cm 113=.l (.r (.l (.l (.r (.r .o))))):=nr rfl
theorem ZB:Cm 114=.r (.r (.l (.l (.r (.r .o))))):=nr rfl
theorem ZA:Cm 115=.l (.l (.r (.l (.r (.r .o))))):=nr rfl
theorem YZ:Cm 116=.r (.l (.r (.l (.r (.r .o))))):=nr rfl
theorem YY:Cm 117=.l (.r (.r (.l (.r (.r .o))))):=nr rfl
theorem YX:Cm 118=.r (.r (.r (.l (.r (.r .o))))):=nr rfl
theorem YW:Cm 119=.l (.l (.l (.r (.r (.r .o))))):=nr rfl
theorem YV:Cm 120=.r (.l (.l (.r (.r (.r .o))))):=nr rfl
theorem YU:Cm 121=.l (.r (.l (.r (.r (.r .o))))):=nr rfl
theorem YT:Cm 122=.r (.r (.l (.r (.r (.r .o))))):=nr rfl
theorem YS:Cm 123=.l (.l (.r (.r (.r (.r .o))))):=nr rfl
theorem YR:Cm 124=.r (.l (.r (.r (.r (.r .o))))):=nr rfl
theorem YQ:Cm 125=.l (.r (.r (.r (.r (.r .o))))):=nr rfl
theorem YP:Cm 126=.r (.r (.r (.r (.r (.r .o))))):=nr rfl
theorem YO:Cm 127=.l (.l (.l (.l (.l (.l (.l .o)))))):=nr rfl
theorem YN:Cm 128=.r (.l (.l (.l (.l (.l (.l .o)))))):=nr rfl
theorem YM:Cm 129=.l (.r (.l (.l (.l (.l (.l .o)))))):=nr rfl
theorem YL:Cm 130=.r (.r (.l (.l (.l (.l (.l .o)))))):=nr rfl
end Go.DD

/- Lists of lemmas as one name each. Conditions: those that each lemma states. -/
namespace Go.DD
open Go
set_option linter.defProp false
def J{a b:Prop}(x:a)(y:b):a/\b:=⟨x,y⟩
theorem FV{α:Type}(l:List α):l ++ []=l:=Dh l
theorem FU{α:Type}(l:List α):l.drop 0=l:=Lc
theorem FL{α β:Type}(f:α->β)(a:α)(l:List α):(a::l).map f=f a::l.map f:=Ag
theorem FK{α β:Type}(f:α->β):([]:List α).map f=[]:=Ak
theorem FJ{α:Type}(l:List α):[]++l=l:=Bv l
theorem FT{α:Type}(a:α):(a=a)=True:=Fx a
theorem FR{α:Type}[LE α]{x y:α} : x≥y↔y<=x:=ge_iff_le
theorem FQ{α:Type}[LT α]{x y:α} : x>y↔y<x:=gt_iff_lt
theorem FP{α:Type}[Decidable False](a b:α):(if False then a else b)=b:=Ad id
theorem FO[Decidable False](a b:Prop):(if False then a else b)=b:=Ad id
theorem FM{α:Type}[Decidable True](a b:α):(if True then a else b)=a:=Af trivial
theorem FN[Decidable True](a b:Prop):(if True then a else b)=a:=Af trivial
theorem H6(a b:Pa):(a.l=b.r)=False:=Wd nofun
theorem H0(a b:Pa):(a.r=b.l)=False:=Wd nofun
theorem H3(b:Pa):(Pa.o=b.l)=False:=Wd nofun
theorem H2(b:Pa):(Pa.o=b.r)=False:=Wd nofun
theorem H7(b:Pa):(b.l=.o)=False:=Wd nofun
theorem G9(b:Pa):(b.r=.o)=False:=Wd nofun
theorem G8{α:Type}(a:α):(some a=none)=False:=Wd nofun
theorem H4{α:Type}(a:α):(none=some a)=False:=Wd nofun
theorem H5{α:Type}(a b:α):(a≠b)=¬ (a=b):=Bx a b
def Ax:=(J (J (J (J (J (J (J @dJ @FT) (J @Yi @Yj)) (J (J @zO @zP) (J @KX @xw_some))) (J (J (J @Q6 @Bv6) (J @qE @Ry)) (J (J @Mg @Zp) (J @D4 @aW)))) (J (J (J (J @dF @GF) (J @O8 @FL)) (J (J @FK @Gk) (J @Hx @Px))) (J (J (J @Dl @Uv) (J @nx_put @Is)) (J (J @FD @Jn) (J @lO @dE))))) (J (J (J (J (J @Vx @Ns) (J @Bv4 @Bv5)) (J (J @mO @H5) (J @Ah @Ff))) (J (J (J @Bool.false_eq_true @Bool.true_eq_false) (J @true_imp_iff @false_imp_iff)) (J (J @and_true @true_and) (J @or_true @true_or)))) (J (J (J (J @and_self @FM) (J @FN @FP)) (J (J @FO @Bool.not_true) (J @Bool.not_false @FR))) (J (J (J @FQ @Ql) (J @Hn @Pa.l.injEq)) (J (J @Pa.r.injEq @Cf5) (J @Zu @Cf3)))))) (J (J (J (J (J (J @vE @ND) (J @CB @vV)) (J (J @vZ @vX) (J @vW @vY))) (J (J (J @Bl1 @Cd8) (J @tz @sd)) (J (J @sb @look_nil) (J @Ce0 @Cd9)))) (J (J (J (J @Ce1 @FJ) (J @FV @Yz)) (J (J @Yk @zS) (J @zR @Cg))) (J (J (J @xA @wX) (J @wY @wW)) (J (J @wV @Cg8) (J @Cg9 @Int.natCast_zero))))) (J (J (J (J (J @jN @A9) (J @jO @fC)) (J (J @Q1 @rR) (J @Int.ofNat_lt @Int.ofNat_le))) (J (J (J @Int.ofNat_inj @Nat.le_refl) (J @FU @Al.refl)) (J (J @Bool.false_xor @Bool.true_xor) (J @Bool.xor_false @Bool.xor_true)))) (J (J (J (J @A7 @A8) (J @xF @wU)) (J (J @Ce5 @Ce6) (J @Ce7 @wZ))) (J (J (J @wT @H6) (J @H0 @H3)) (J (J @H2 @H7) (J @G9 (J @G8 @H4))))))))
def Ba:=(J (J (J (J (J @ew_s (J @Zj @Kb)) (J (J @Jg @uE) (J @E6 @Cn))) (J (J (J @Fb @Jv) (J @Dy @E5)) (J (J @Ij @Oh) (J @Wb @Q3)))) (J (J (J @RX (J @fA @eZ)) (J (J @jM @A5) (J @D3 @AD))) (J (J (J @uX @vC) (J @Mi @D1)) (J (J @uU @uZ) (J @jV @Xb))))) (J (J (J (J @UN (J @xm @Oe)) (J (J @uV @Cd6) (J @vJ @vI))) (J (J (J @E2 @E1) (J @vL @vK)) (J (J @vM @Cd7) (J @Bv3 @BE)))) (J (J (J (J @Cf4 @uY) (J @Bw2 @Bl0)) (J (J @vt @Bk6) (J @Ce9 @ua))) (J (J (J @vO @vP) (J @uW @sf)) (J (J @se @Cg7) (J @Ce4 @Cg6))))))
def Mn:=(J (J (J (J (J (J (J @Cz9 @C00) (J @Co7 (J @LN @LO))) (J (J @GS @GV) (J @GU (J @ax @ay)))) (J (J (J @dJ @FT) (J @Yi (J @Yj @zO))) (J (J @zP @KX) (J @lk (J @lr @lj))))) (J (J (J (J @lq @Cy0) (J @av (J @az @Cy1))) (J (J @Cy2 @au) (J @Cn9 (J @Cy3 @GR)))) (J (J (J @Cy4 @Cy5) (J @aq (J @aw @GX))) (J (J @Cy6 (J @Bool.true_or @Bool.false_or)) (J @Bool.or_false (J @Bool.or_true @Bool.true_and)))))) (J (J (J (J (J @Bool.false_and @Bool.and_true) (J @Bool.and_false (J @xw_some @Q6))) (J (J @Bv6 @Mg) (J @Zp (J @D4 @aW)))) (J (J (J @dF @GF) (J @O8 (J @FL @FK))) (J (J @Gk @Hx) (J @Px (J @Dl @Uv))))) (J (J (J (J @nx_put @Is) (J @FD (J @Jn @lO))) (J (J @dE @Vx) (J @Ns (J @Bv4 @Bv5)))) (J (J (J @mO @H5) (J @Ah (J @Ff @Bool.false_eq_true))) (J (J @Bool.true_eq_false (J @true_imp_iff @false_imp_iff)) (J @and_true (J @true_and @or_true))))))) (J (J (J (J (J (J @true_or @and_self) (J @FM (J @FN @FP))) (J (J @FO @Bool.not_true) (J @Bool.not_false (J @FR @FQ)))) (J (J (J @Ql @Hn) (J @Pa.l.injEq (J @Pa.r.injEq @Cf5))) (J (J @Zu @Cf3) (J @vE (J @ND @CB))))) (J (J (J (J @vV @vZ) (J @vX (J @vW @vY))) (J (J @Bl1 @Cd8) (J @tz (J @sd @sb)))) (J (J (J @look_nil @Ce0) (J @Cd9 (J @Ce1 @FJ))) (J (J @FV (J @Yz @Yk)) (J @zS (J @zR @Cg)))))) (J (J (J (J (J @xA @wX) (J @wY (J @wW @wV))) (J (J @Cg8 @Cg9) (J @Int.natCast_zero (J @jN @A9)))) (J (J (J @jO @fC) (J @Q1 (J @rR @Int.ofNat_lt))) (J (J @Int.ofNat_le @Int.ofNat_inj) (J @Nat.le_refl (J @FU @Al.refl))))) (J (J (J (J @Bool.false_xor @Bool.true_xor) (J @Bool.xor_false (J @Bool.xor_true @A7))) (J (J @A8 @xF) (J @wU (J @Ce5 @Ce6)))) (J (J (J @Ce7 @wZ) (J @wT (J @H6 @H0))) (J (J @H3 (J @H2 @H7)) (J @G9 (J @G8 @H4))))))))
def Mm:=(J (J (J (J (J (J @Cy7 @Cy8) (J @ew_s @Zj)) (J (J @Kb @Jg) (J @uE @E6))) (J (J (J @Cn @Fb) (J @Jv @Dy)) (J (J @E5 @Ij) (J @BN (J @BO @Cn7))))) (J (J (J (J @Cn8 @Co6) (J @BP @Wb)) (J (J @Q3 @RX) (J @fA @eZ))) (J (J (J @jM @A5) (J @D3 @AD)) (J (J @uX @vC) (J @Mi (J @D1 @uU)))))) (J (J (J (J (J @uZ @jV) (J @Xb @UN)) (J (J @xm @Oe) (J @uV @Cd6))) (J (J (J @vJ @vI) (J @E2 @E1)) (J (J @vL @vK) (J @vM (J @Cd7 @Bv3))))) (J (J (J (J @BE @Cf4) (J @uY @Bw2)) (J (J @Bl0 @vt) (J @Bk6 @Ce9))) (J (J (J @ua @vO) (J @vP @uW)) (J (J @sf @se) (J @Cg7 (J @Ce4 @Cg6)))))))
def bR:=(J (J (J (J @dJ @Gk) (J @Hx (J @Px @Dl))) (J (J @Uv (J @nx_put @Is)) (J @tz (J @sd @sb)))) (J (J (J @H5 (J @Ah @Pa.l.injEq)) (J @Pa.r.injEq (J @H6 @H0))) (J (J @H3 (J @H2 @H7)) (J @G9 (J @G8 @H4)))))
def bP:=(J (J (J (J (J (J (J @p0 @p1) (J @p2 @p3)) (J (J @p4 @p5) (J @p6 @p7))) (J (J (J @p8 @p9) (J @ZQ @PE)) (J (J @p12 @p13) (J @YK @YJ)))) (J (J (J (J @p16 @EK) (J @p18 @p19)) (J (J @YG @EJ) (J @p22 @p23))) (J (J (J @p24 @p25) (J @p26 @p27)) (J (J @p28 @p29) (J @p30 @p31))))) (J (J (J (J (J @p32 @p33) (J @p34 @p35)) (J (J @p36 @p37) (J @p38 @p39))) (J (J (J @p40 @p41) (J @p42 @p43)) (J (J @p44 @p45) (J @p46 @p47)))) (J (J (J (J @p48 @p49) (J @p50 @p51)) (J (J @p52 @p53) (J @p54 @p55))) (J (J (J @p56 @p57) (J @p58 @p59)) (J (J @p60 @p61) (J @p62 (J @p63 @p64))))))) (J (J (J (J (J (J @p65 @p66) (J @p67 @p68)) (J (J @p69 @p70) (J @p71 @p72))) (J (J (J @p73 @p74) (J @p75 @p76)) (J (J @p77 @p78) (J @p79 @p80)))) (J (J (J (J @p81 @p82) (J @p83 @p84)) (J (J @p85 @p86) (J @p87 @p88))) (J (J (J @p89 @p90) (J @p91 @p92)) (J (J @p93 @p94) (J @p95 (J @p96 @p97)))))) (J (J (J (J (J @p98 @p99) (J @ZP @ZO)) (J (J @ZN @ZM) (J @ZL @ZK))) (J (J (J @ZJ @ZI) (J @ZH @ZG)) (J (J @ZF @ZE) (J @ZD @ZC)))) (J (J (J (J @ZB @ZA) (J @YZ @YY)) (J (J @YX @YW) (J @YV @YU))) (J (J (J @YT @YS) (J @YR @YQ)) (J (J @YP @YO) (J @YN (J @YM @YL))))))))
end Go.DD

/- Contracts: integers compared; lists of integers compared. Conditions: those that each theorem states. -/
namespace Go.DD
open Go Go.Proofs
section
variable (k:Nat) (hp:Tr DObj) (nx:Nat) (K:DV->Tr DObj->Nat->Prop)
theorem Bl7(a:Int)(hK:K (bv false) hp nx):KW (kN (k+1)) (.fn 173) [iv a] hp nx K:=by
 refine En (Hm (by decide)) WH (Ab rfl) λes e1 e2 he=>?_
 have a0:Ae es (.t .o)=iv a:=he 0 _ rfl
 unfold DA
 simp only [Ax,↓Ba,bP,a0,e1,e2]
 exact hK
theorem C01(a b:Int)(hK:K (iv (Mu a b)) hp nx):KW (kN (k+2)) (.fn 141) [iv a,iv b] hp nx K:=by
 refine En (Hm (by decide)) WT (Ab rfl) λes e1 e2 he=>?_
 have a0:Ae es (.t .o)=iv a:=he 0 _ rfl
 have a1:Ae es (.t (.l .o))=iv b:=he 1 _ rfl
 unfold DO
 simp only [Ax,↓Ba,a0,e1,e2]
 refine Fl (Bl7 k _ _ _ _ ?_)
 simp only [Ax,↓Ba,a1,bv]
 refine Fl (Bl7 k _ _ _ _ ?_)
 unfold Mu at hK
 by_cases h1:a<b
 .rw [Af h1] at hK
  simp only [Ax,↓Ba,bP,a0,a1,h1,bv]
  exact hK
 .rw [Ad h1] at hK
  by_cases h2:b<a
  .rw [Af h2] at hK
   simp only [Ax,↓Ba,bP,a0,a1,h1,h2,bv]
   exact hK
  .rw [Ad h2] at hK
   simp only [Ax,↓Ba,bP,a0,a1,h1,h2,bv]
   exact hK
end
section
variable (k n0:Nat) (hp:Tr DObj) (nx:Nat) (K:DV->Tr DObj->Nat->Prop) (d1 d2:DV) (l m:List Int) (hn:n0<=nx) (h1:RL rInt hp (Bl n0) d1 l) (h2:RL rInt hp (Bl n0) d2 m) (hl:l.length<900000)
include hn h1 h2 hl
theorem Co8(hK:K (iv (Cq l m)) hp nx):KW (kN (k+3)) (.fn 75) [d1,d2] hp nx K:=by
 refine En (Hm (by decide)) t75 (Ab rfl) λes e1 e2 he=>?_
 have a0:Ae es (.t .o)=d1:=he 0 _ rfl
 have a1:Ae es (.t (.l .o))=d2:=he 1 _ rfl
 unfold zk
 simp only [Ax,↓Ba,a0,e1,h1.len]
 refine EW.up l.length (λi An=>An.hp=hp/\An.nx=nx/\Ae An (.t .o)=d1/\Ae An (.t (.l .o))=d2/\Ae An (.t (.l (.r (.l .o))))=d1/\Ae An (.t (.r (.r (.l .o))))=iv l.length/\Ae An (.t (.l (.l (.r .o))))=iv (i:Nat)/\Cq l m=Cq (l.drop i) (m.drop i)) ?_ ?_ (by omega)
 .rintro i An hi ⟨g1,g2,b0,b1,b9,b10,b11,hc⟩
  unfold xP
  by_cases c1:i<l.length
  .by_cases c2:i<m.length
   .have hd:Cq (l.drop i) (m.drop i)=if Mu l[i] m[i]=0 then Cq (l.drop (i+1)) (m.drop (i+1)) else Mu l[i] m[i]:=by
     rw [Bb c1,Bb c2];rfl
    have c3:¬ m.length<=i:=by omega
    simp only [Ax,↓Ba,b1,b9,b10,b11,g1,lP h1 c1,lP h2 c2,ints_at h1 c1,ints_at h2 c2,h2.len,c1,c3]
    refine Fl (C01 k _ _ _ _ _ ?_)
    by_cases c4:Mu l[i] m[i]=0
    .rw [Af c4] at hd
     simp only [Ax,↓Ba,b0,b1,b9,b10,b11,c4,Jx (show i<_ by omega)]
     exact ⟨c1,g2,by rw [hc,hd]⟩
    .rw [Ad c4] at hd
     simp only [Ax,↓Ba,bP,c4]
     rw [<- hd,<- hc,g2];exact hK
   .have hd:Cq (l.drop i) (m.drop i)=1:=by
     rw [Bb c1,Bc (show m.length<=i by omega)];rfl
    have c3:m.length<=i:=by omega
    simp only [Ax,↓Ba,bP,b1,b9,b10,b11,g1,lP h1 c1,ints_at h1 c1,h2.len,c1,c3]
    rw [hc,hd] at hK;rw [g2];exact hK
  .have kS:i=l.length:=by omega
   have hd:Cq (l.drop i) (m.drop i)=if l.length<m.length then -1 else 0:=by
    rw [Bc (show l.length<=i by omega)]
    by_cases c3:i<m.length
    .rw [Bb c3,Af (by omega)];rfl
    .rw [Bc (show m.length<=i by omega),Ad (by omega)];rfl
   by_cases c3:l.length<m.length
   .rw [Af c3] at hd
    simp only [Ax,↓Ba,bP,b0,b1,b10,b11,g1,h1.len,h2.len,c1,c3]
    rw [hc,hd] at hK;rw [g2];exact hK
   .rw [Ad c3] at hd
    simp only [Ax,↓Ba,bP,b0,b1,b10,b11,g1,h1.len,h2.len,c1,c3]
    rw [hc,hd] at hK;rw [g2];exact hK
 .simp only [Ax,a0,a1,e1,e2]
theorem D0(hK:K (iv (Cq l m)) hp nx):KW (kN (k+4)) (.fn 24) [d1,d2] hp nx K:=by
 refine En (Hm (by decide)) t24 (Ab rfl) λes e1 e2 he=>?_
 have a0:Ae es (.t .o)=d1:=he 0 _ rfl
 have a1:Ae es (.t (.l .o))=d2:=he 1 _ rfl
 unfold r24
 simp only [Ax,↓Ba,a0,a1,e1,e2]
 refine Fl (Co8 k n0 _ _ _ d1 d2 l m hn h1 h2 hl ?_)
 simp only [Ax,↓Ba,bP]
 exact hK
end
end Go.DD

/- Contracts: equal lists of integers, values, dimensions, attributes. Conditions: those that each theorem states. -/
namespace Go.DD
open Go Go.Proofs
theorem C02(k n0:Nat)(hp:Tr DObj)(nx:Nat)(K:DV->Tr DObj->Nat->Prop)(d1 d2:DV)(l m:List Int)(hn:n0<=nx)(h1:RL rInt hp (Bl n0) d1 l)(h2:RL rInt hp (Bl n0) d2 m)(hl:l.length<900000)(hK:∀ Bk,nx<=Bk->K (bv (decide (l=m))) hp Bk):KW (kN (k+1)) (.fn 80) [d1,d2] hp nx K:=by
 refine En (Hm (by decide)) t80 (Ab rfl) λes e1 e2 he=>?_
 have a0:Ae es (.t .o)=d1:=he 0 _ rfl
 have a1:Ae es (.t (.l .o))=d2:=he 1 _ rfl
 unfold zf
 by_cases hlen:l.length=m.length
 .simp only [Ax,↓Ba,a0,a1,e1,h1.len,h2.len,hlen]
  refine EW.up l.length (λi An=>An.hp=hp/\nx<=An.nx/\Ae An (.t .o)=d1/\Ae An (.t (.l .o))=d2/\Ae An (.t (.r (.l (.r .o))))=iv l.length/\Ae An (.t (.l (.r (.r .o))))=iv (i:Nat)/\(l=m↔l.drop i=m.drop i)) ?_ ?_ (by omega)
  .rintro i An hi ⟨g1,g2,b0,b1,Qe,Ta,hc⟩
   unfold xL
   by_cases c1:i<l.length
   .have c2:i<m.length:=by omega
    rw [NL c1 c2] at hc
    by_cases c4:l[i]=m[i]
    .simp only [Ax,↓Ba,b0,b1,Qe,Ta,g1,c1,lP h1 c1,lP h2 c2,ints_at h1 c1,ints_at h2 c2,h1.rox (show n0<=An.nx by omega),h2.rox (show n0<=An.nx by omega),R2 h1 (show n0<=An.nx by omega),R2 h2 (show n0<=An.nx by omega),c4,Jx (show i<_ by omega)]
     exact ⟨by omega,by rw [hc];simp [c4]⟩
    .simp only [Ax,↓Ba,bP,b0,b1,Qe,Ta,g1,c1,lP h1 c1,lP h2 c2,ints_at h1 c1,ints_at h2 c2,h1.rox (show n0<=An.nx by omega),h2.rox (show n0<=An.nx by omega),R2 h1 (show n0<=An.nx by omega),R2 h2 (show n0<=An.nx by omega),c4]
     have:¬ l=m:=by rw [hc];simp [c4]
     have hh:=hK (An.nx+9) (by omega)
     rw [Aj this] at hh
     exact hh
   .have:l=m:=hc.2 (by rw [Bc (by omega),Bc (by omega)])
    simp only [Ax,↓Ba,bP,Qe,Ta,g1,c1]
    have hh:=hK An.nx g2
    rw [Ar this] at hh
    exact hh
  .simp only [Ax,a0,a1,e1,e2,hlen]
 .simp only [Ax,↓Ba,bP,a0,a1,e1,e2,h1.len,h2.len,hlen]
  have:¬ l=m:=λe=>hlen (by rw [e])
  have hh:=hK nx (Ai _)
  rw [Aj this] at hh
  exact hh
theorem Ch0(k n0:Nat)(hp:Tr DObj)(nx:Nat)(K:DV->Tr DObj->Nat->Prop)(d1 d2:DV)(l m:List PVal)(hn:n0<=nx)(h1:RL rVal hp (Bl n0) d1 l)(h2:RL rVal hp (Bl n0) d2 m)(hl:l.length<900000)(hK:∀ Bk,nx<=Bk->K (bv (decide (l=m))) hp Bk):KW (kN (k+1)) (.fn 69) [d1,d2] hp nx K:=by
 refine En (Hm (by decide)) t69 (Ab rfl) λes e1 e2 he=>?_
 have a0:Ae es (.t .o)=d1:=he 0 _ rfl
 have a1:Ae es (.t (.l .o))=d2:=he 1 _ rfl
 unfold zl
 by_cases hlen:l.length=m.length
 .simp only [Ax,↓Ba,a0,a1,e1,h1.len,h2.len,hlen]
  refine EW.up l.length (λi An=>An.hp=hp/\nx<=An.nx/\Ae An (.t .o)=d1/\Ae An (.t (.l .o))=d2/\Ae An (.t (.r (.l (.r .o))))=iv l.length/\Ae An (.t (.l (.r (.r .o))))=iv (i:Nat)/\(l=m↔l.drop i=m.drop i)) ?_ ?_ (by omega)
  .rintro i An hi ⟨g1,g2,b0,b1,Qe,Ta,hc⟩
   unfold xQ
   by_cases c1:i<l.length
   .have c2:i<m.length:=by omega
    rw [NL c1 c2] at hc
    by_cases c4:l[i]=m[i]
    .simp only [Ax,↓Ba,bP,b0,b1,Qe,Ta,g1,c1,W4 h1 c1,W4 h2 c2,W7 h1 c1,W7 h2 c2,h1.rox (show n0<=An.nx by omega),h2.rox (show n0<=An.nx by omega),SJ h1 (show n0<=An.nx by omega),SJ h2 (show n0<=An.nx by omega),Y9,X4 (show DV.refsL (vc _)=[] from rfl),B7 (show DV.refsL (vc _)=[] from rfl),aJ,zV,Cf,c4,Jx (show i<_ by omega)]
     exact ⟨by omega,by rw [hc];simp [c4]⟩
    .simp only [Ax,↓Ba,bP,b0,b1,Qe,Ta,g1,c1,W4 h1 c1,W4 h2 c2,W7 h1 c1,W7 h2 c2,h1.rox (show n0<=An.nx by omega),h2.rox (show n0<=An.nx by omega),SJ h1 (show n0<=An.nx by omega),SJ h2 (show n0<=An.nx by omega),Y9,X4 (show DV.refsL (vc _)=[] from rfl),B7 (show DV.refsL (vc _)=[] from rfl),aJ,zV,Cf,c4]
     have:¬ l=m:=by rw [hc];simp [c4]
     have hh:=hK (An.nx+9) (by omega)
     rw [Aj this] at hh
     exact hh
   .have:l=m:=hc.2 (by rw [Bc (by omega),Bc (by omega)])
    simp only [Ax,↓Ba,bP,Qe,Ta,g1,c1]
    have hh:=hK An.nx g2
    rw [Ar this] at hh
    exact hh
  .simp only [Ax,a0,a1,e1,e2,hlen]
 .simp only [Ax,↓Ba,bP,a0,a1,e1,e2,h1.len,h2.len,hlen]
  have:¬ l=m:=λe=>hlen (by rw [e])
  have hh:=hK nx (Ai _)
  rw [Aj this] at hh
  exact hh
theorem C03(k n0:Nat)(hp:Tr DObj)(nx:Nat)(K:DV->Tr DObj->Nat->Prop)(d1 d2:DV)(l m:List PDim)(hn:n0<=nx)(h1:RL rDim hp (Bl n0) d1 l)(h2:RL rDim hp (Bl n0) d2 m)(hl:l.length<900000)(hK:∀ Bk,nx<=Bk->K (bv (decide (l=m))) hp Bk):KW (kN (k+1)) (.fn 76) [d1,d2] hp nx K:=by
 refine En (Hm (by decide)) t76 (Ab rfl) λes e1 e2 he=>?_
 have a0:Ae es (.t .o)=d1:=he 0 _ rfl
 have a1:Ae es (.t (.l .o))=d2:=he 1 _ rfl
 unfold zj
 by_cases hlen:l.length=m.length
 .simp only [Ax,↓Ba,a0,a1,e1,h1.len,h2.len,hlen]
  refine EW.up l.length (λi An=>An.hp=hp/\nx<=An.nx/\Ae An (.t .o)=d1/\Ae An (.t (.l .o))=d2/\Ae An (.t (.r (.l (.r .o))))=iv l.length/\Ae An (.t (.l (.r (.r .o))))=iv (i:Nat)/\(l=m↔l.drop i=m.drop i)) ?_ ?_ (by omega)
  .rintro i An hi ⟨g1,g2,b0,b1,Qe,Ta,hc⟩
   unfold xO
   by_cases c1:i<l.length
   .have c2:i<m.length:=by omega
    rw [NL c1 c2] at hc
    by_cases c4:l[i]=m[i]
    .simp only [Ax,↓Ba,bP,b0,b1,Qe,Ta,g1,c1,B9 h1 c1,B9 h2 c2,(uO h1 c1).1,(uO h2 c2).1,h1.rox (show n0<=An.nx by omega),h2.rox (show n0<=An.nx by omega),SI h1 (show n0<=An.nx by omega),SI h2 (show n0<=An.nx by omega),Y9,X4 (show DV.refsL (dc _)=[] from rfl),B7 (show DV.refsL (dc _)=[] from rfl),aJ,zW,Cf,c4,Jx (show i<_ by omega)]
     exact ⟨by omega,by rw [hc];simp [c4]⟩
    .simp only [Ax,↓Ba,bP,b0,b1,Qe,Ta,g1,c1,B9 h1 c1,B9 h2 c2,(uO h1 c1).1,(uO h2 c2).1,h1.rox (show n0<=An.nx by omega),h2.rox (show n0<=An.nx by omega),SI h1 (show n0<=An.nx by omega),SI h2 (show n0<=An.nx by omega),Y9,X4 (show DV.refsL (dc _)=[] from rfl),B7 (show DV.refsL (dc _)=[] from rfl),aJ,zW,Cf,c4]
     have:¬ l=m:=by rw [hc];simp [c4]
     have hh:=hK (An.nx+9) (by omega)
     rw [Aj this] at hh
     exact hh
   .have:l=m:=hc.2 (by rw [Bc (by omega),Bc (by omega)])
    simp only [Ax,↓Ba,bP,Qe,Ta,g1,c1]
    have hh:=hK An.nx g2
    rw [Ar this] at hh
    exact hh
  .simp only [Ax,a0,a1,e1,e2,hlen]
 .simp only [Ax,↓Ba,bP,a0,a1,e1,e2,h1.len,h2.len,hlen]
  have:¬ l=m:=λe=>hlen (by rw [e])
  have hh:=hK nx (Ai _)
  rw [Aj this] at hh
  exact hh
theorem C04(k n0:Nat)(hp:Tr DObj)(nx:Nat)(K:DV->Tr DObj->Nat->Prop)(d1 d2:DV)(l m:List PAttr)(hn:n0<=nx)(h1:RL rAttr hp (Bl n0) d1 l)(h2:RL rAttr hp (Bl n0) d2 m)(hl:l.length<900000)(hK:∀ Bk,nx<=Bk->K (bv (decide (l=m))) hp Bk):KW (kN (k+1)) (.fn 77) [d1,d2] hp nx K:=by
 refine En (Hm (by decide)) t77 (Ab rfl) λes e1 e2 he=>?_
 have a0:Ae es (.t .o)=d1:=he 0 _ rfl
 have a1:Ae es (.t (.l .o))=d2:=he 1 _ rfl
 unfold zi
 by_cases hlen:l.length=m.length
 .simp only [Ax,↓Ba,a0,a1,e1,h1.len,h2.len,hlen]
  refine EW.up l.length (λi An=>An.hp=hp/\nx<=An.nx/\Ae An (.t .o)=d1/\Ae An (.t (.l .o))=d2/\Ae An (.t (.r (.l (.r .o))))=iv l.length/\Ae An (.t (.l (.r (.r .o))))=iv (i:Nat)/\(l=m↔l.drop i=m.drop i)) ?_ ?_ (by omega)
  .rintro i An hi ⟨g1,g2,b0,b1,Qe,Ta,hc⟩
   unfold xN
   by_cases c1:i<l.length
   .have c2:i<m.length:=by omega
    rw [NL c1 c2] at hc
    by_cases c4:l[i]=m[i]
    .simp only [Ax,↓Ba,bP,b0,b1,Qe,Ta,g1,c1,R1 h1 c1,R1 h2 c2,(R3 h1 c1).1,(R3 h2 c2).1,h1.rox (show n0<=An.nx by omega),h2.rox (show n0<=An.nx by omega),Y1 h1 (show n0<=An.nx by omega),Y1 h2 (show n0<=An.nx by omega),Y9,X4 (show DV.refsL (ac _)=[] from rfl),B7 (show DV.refsL (ac _)=[] from rfl),aJ,zX,Cf,c4,Jx (show i<_ by omega)]
     exact ⟨by omega,by rw [hc];simp [c4]⟩
    .simp only [Ax,↓Ba,bP,b0,b1,Qe,Ta,g1,c1,R1 h1 c1,R1 h2 c2,(R3 h1 c1).1,(R3 h2 c2).1,h1.rox (show n0<=An.nx by omega),h2.rox (show n0<=An.nx by omega),Y1 h1 (show n0<=An.nx by omega),Y1 h2 (show n0<=An.nx by omega),Y9,X4 (show DV.refsL (ac _)=[] from rfl),B7 (show DV.refsL (ac _)=[] from rfl),aJ,zX,Cf,c4]
     have:¬ l=m:=by rw [hc];simp [c4]
     have hh:=hK (An.nx+9) (by omega)
     rw [Aj this] at hh
     exact hh
   .have:l=m:=hc.2 (by rw [Bc (by omega),Bc (by omega)])
    simp only [Ax,↓Ba,bP,Qe,Ta,g1,c1]
    have hh:=hK An.nx g2
    rw [Ar this] at hh
    exact hh
  .simp only [Ax,a0,a1,e1,e2,hlen]
 .simp only [Ax,↓Ba,bP,a0,a1,e1,e2,h1.len,h2.len,hlen]
  have:¬ l=m:=λe=>hlen (by rw [e])
  have hh:=hK nx (Ai _)
  rw [Aj this] at hh
  exact hh
end Go.DD

/- Contracts: names, bounds of dimensions; maps of names. Conditions: those that each theorem states. -/
namespace Go.DD
open Go Go.Proofs
def G5(l:List UInt8)(i:Nat):Prop:=∀ j,(h:j<l.length)->j<i->(j=0->jQ l[j]=true)/\Pb l[j]=true
theorem B69{l:List UInt8}(h:G5 l l.length)(h0:l≠[]):Ts l=true:=by
 cases l with
 | nil=>exact absurd rfl h0
 | cons c cs=>
  have h1:=h 0 (by simp) (by simp)
  simp only [Ts,Bo,Bi]
  refine ⟨h1.1 rfl,λx hx=>?_⟩
  obtain ⟨j,hj,rfl⟩:=Bq.1 hx
  exact (h (j+1) (by simpa using hj) (by simpa using hj)).2
theorem Bl8{l:List UInt8}(h:Ts l=true):G5 l l.length:=by
 cases l with
 | nil=>intro j hj;simp at hj
 | cons c cs=>
  simp only [Ts,Bo,Bi] at h
  intro j hj _
  cases j with
  | zero=>exact ⟨λ_=>h.1,by simp [Pb,h.1]⟩
  | succ j=>exact ⟨λh=>by omega,h.2 _ (by simp)⟩
theorem EY{l:List UInt8}{i:Nat}(h:G5 l i)(hi:i<l.length)(h1:i=0->jQ l[i]=true)(h2:Pb l[i]=true):G5 l (i+1):=λj hj Ez=>by
 by_cases e:j=i
 .subst e;exact ⟨h1,h2⟩
 .exact h j hj (by omega)
theorem A23{s:ByteArray}(h:¬ (1<=s.data.toList.length/\s.data.toList.length<=12)):Kx s=false:=by
 unfold Kx
 by_cases h1:s.size<=12
 .have:s.data.toList=[]:=Ef (by have:s.data.toList.length=s.size:=rfl;omega)
  rw [this];simp [Ts]
 .rw [Aj h1];rfl
theorem Bw9{s:ByteArray}(h:Ts s.data.toList=false):Kx s=false:=by unfold Kx;rw [h,Sq]
theorem Co9{s:ByteArray}(h:G5 s.data.toList s.data.toList.length)(h1:1<=s.data.toList.length/\s.data.toList.length<=12):Kx s=true:=by
 unfold Kx
 rw [B69 h (λe=>by rw [e] at h1;simp at h1),Ar (show s.size<=12 from h1.2)];rfl
theorem FB{l:List UInt8}{i:Nat}(hi:i<l.length)(h:Pb l[i]=false):Ts l=false:=by
 rw [Hd]
 intro hn
 have:=(Bl8 hn i hi hi).2
 rw [h] at this;cases this
theorem FC{l:List UInt8}(hi:0<l.length)(h:jQ l[0]=false):Ts l=false:=by
 rw [Hd]
 intro hn
 have:=(Bl8 hn 0 hi hi).1 rfl
 rw [h] at this;cases this
section
variable (k:Nat) (hp:Tr DObj) (nx:Nat) (K:DV->Tr DObj->Nat->Prop)
theorem NA(s:ByteArray)(hK:K (bv (Kx s)) hp nx):KW (kN (k+1)) (.fn 83) [sv s] hp nx K:=by
 refine En (Hm (by decide)) t83 (Ab rfl) λes e1 e2 he=>?_
 have a0:Ae es (.t .o)=sv s:=he 0 _ rfl
 unfold zb
 have He:s.data.toList.length=s.size:=rfl
 by_cases c1:(s.size:Int)<1
 .simp only [Ax,↓Ba,bP,a0,e1,e2,c1]
  exact kb hK (Eq.symm (A23 (by omega)))
 by_cases c2:(12:Int)<s.size
 .simp only [Ax,↓Ba,bP,a0,e1,e2,c1,c2]
  exact kb hK (Eq.symm (A23 (by omega)))
 simp only [Ax,↓Ba,bP,a0,e1,c1,c2]
 refine EW.up s.data.toList.length (λi An=>An.hp=hp/\An.nx=nx/\Ae An (.t (.l (.l (.l (.l .o)))))=.sl (s.data.toList.map λc=>.v (.int .u8 (c.toNat:Int))) s.size/\Ae An (.t (.r (.l (.l (.l .o)))))=iv (s.size:Nat)/\Ae An (.t (.l (.r (.l (.l .o)))))=iv (i:Nat)/\G5 s.data.toList i) ?_ ?_ (by omega)
 .rintro i An hi ⟨g1,g2,b15,b16,Zm,hc⟩
  unfold xK
  by_cases h1:i<s.size
  .have eH:Rr hp 1 (.sl (s.data.toList.map λc=>.v (.int .u8 (c.toNat:Int))) s.size) (.v (.int .i64 (i:Int)))=some (.ia ((s.data.toList.map λc=>.v (.int .u8 (c.toNat:Int))).drop (i*1))):=ao h1
   have hu:=AS (show i<s.data.toList.length from h1)
   have eP:∀ c,c=s.data.toList[i]->(Pb c=false\/(i=0/\jQ c=false))->false=Kx s:=by
    rintro c rfl (h | ⟨h0,h⟩)
    .exact (Bw9 (FB h1 h)).symm
    .subst h0;exact (Bw9 (FC h1 h)).symm
   have aG:∀ c,c=s.data.toList[i]->Pb c=true->(i=0->jQ c=true)->G5 s.data.toList (i+1):=by
    rintro c rfl h h2
    exact EY hc h1 h2 h
   generalize s.data.toList[i]=c at hu eP aG
   have eP:=eP c rfl
   have aG:=aG c rfl
   by_cases c1:(97:Int)<=c.toNat
   .by_cases c2:(c.toNat:Int)<=122
    .simp only [Ax,↓Ba,b15,b16,Zm,g1,g2,h1,eH,hu,c1,c2,Jx (show i<_ by omega)]
     exact ⟨h1,aG (by simp [Pb,jQ,c1,c2]) (by simp [jQ,c1,c2])⟩
    .by_cases c0:(i:Int)=0
     .simp only [Ax,↓Ba,bP,b15,b16,Zm,g1,g2,h1,eH,hu,c1,c2,Ar c0]
      exact kb hK (eP (.inr ⟨by omega,by simp [jQ,c1,c2]⟩))
     .simp only [Ax,↓Ba,bP,b15,b16,Zm,g1,g2,h1,eH,hu,c1,c2,c0,show ¬ (c.toNat:Int)=95 by omega,show ¬ (c.toNat:Int)<48 by omega,show (57:Int)<c.toNat by omega]
      exact kb hK (eP (.inl (by simp [Pb,jQ,c1,c2];omega)))
   .by_cases c0:(i:Int)=0
    .simp only [Ax,↓Ba,bP,b15,b16,Zm,g1,g2,h1,eH,hu,c1,Ar c0]
     exact kb hK (eP (.inr ⟨by omega,by simp [jQ,c1]⟩))
    .by_cases c3:(c.toNat:Int)=95
     .simp only [Ax,↓Ba,b15,b16,Zm,g1,g2,h1,eH,hu,c1,c0,show decide (¬ (c.toNat:Int)=95)=false by simp [c3],Jx (show i<_ by omega)]
      exact ⟨h1,aG (by simp [Pb,c3]) (λh=>by omega)⟩
     .by_cases c4:(c.toNat:Int)<48
      .simp only [Ax,↓Ba,bP,b15,b16,Zm,g1,g2,h1,eH,hu,c1,c0,c3,c4]
       exact kb hK (eP (.inl (by simp [Pb,jQ,c1,c3];omega)))
      .by_cases c5:(57:Int)<c.toNat
       .simp only [Ax,↓Ba,bP,b15,b16,Zm,g1,g2,h1,eH,hu,c1,c0,c3,c4,c5]
        exact kb hK (eP (.inl (by simp [Pb,jQ,c1,c3];omega)))
       .simp only [Ax,↓Ba,b15,b16,Zm,g1,g2,h1,eH,hu,c1,c0,c3,c4,c5,Jx (show i<_ by omega)]
        exact ⟨h1,aG (by simp [Pb,c3];omega) (λh=>by omega)⟩
  .simp only [Ax,↓Ba,bP,b16,Zm,g1,g2,h1]
   obtain rfl:i=s.data.toList.length:=by omega
   exact kb hK (Eq.symm (Co9 hc (by omega)))
 .simp only [Ax,e1,e2]
  exact λj _ h=>by omega
end
end Go.DD

/- Contracts: bounds of dimensions; maps of names. Conditions: those that each theorem states. -/
namespace Go.DD
open Go Go.Proofs
theorem wm(a:Int):tA false (.v (.int .i64 a)) (.v (.int .i64 1073741824))=some (.v (.int .i64 (min a 1073741824))):=Cf0 _ _ _ _
theorem qD{hp:Tr DObj}{id T:Nat}{x:PDim}(h:hp.get id=some (.row T (dc x))):(On hp 0 (.pt id 0)=some (.pt id 0)/\On hp 1 (.pt id 0)=some (.pt id 1)/\On hp 2 (.pt id 0)=some (.pt id 2))/\Gl hp none (.pt id 0)=some (sv x.name)/\Gl hp none (.pt id 1)=some (iv x.lo)/\Gl hp none (.pt id 2)=some (iv x.hi):=by
 refine ⟨⟨Qq h,Qq h,Qq h⟩,?_,?_,?_⟩ <;> rw [Ro h] <;> rfl
theorem MO{hp:Tr DObj}{id T:Nat}{x:PAttr}(h:hp.get id=some (.row T (ac x))):(On hp 0 (.pt id 0)=some (.pt id 0)/\On hp 1 (.pt id 0)=some (.pt id 1))/\Gl hp none (.pt id 0)=some (sv x.name)/\Gl hp none (.pt id 1)=some (iv x.type):=by
 refine ⟨⟨Qq h,Qq h⟩,?_,?_⟩ <;> rw [Ro h] <;> rfl
section
variable (k:Nat) (hp:Tr DObj) (nx:Nat) (K:DV->Tr DObj->Nat->Prop) (x:PDim)
theorem Cp0(hK:∀ Ao Bk,Al hp nx Ao Bk->K (iv (dO x)) Ao Bk):KW (kN (k+1)) (.fn 180) [.agg (dc x)] hp nx K:=by
 refine En (Hm (by decide)) WD (Ab rfl) λes e1 e2 he=>?_
 have a0:Ae es (.t .o)=.agg (dc x):=he 0 _ rfl
 unfold CY
 simp only [↓Ba]
 refine Zo (cs:=dc x) (by rw [Hl,a0];exact fI rfl) λEi Dm Cv=>?_
 simp only [bR,e1,e2] at Dm Cv
 obtain ⟨⟨_,_,f2⟩,_,_,l2⟩:=qD Dm
 simp only [Ax,↓Ba,bP,e2,f2,l2,wm]
 exact hK _ _ ⟨by omega,λj hj=>Cv j (by omega)⟩
end
structure MapS (hp:Tr DObj) (im:Nat) (met:List ByteArray):Prop where
 ex:∃ ck es,hp.get im=some (.mapo ck es)/\(∀ e∈es,e.v=bv true/\∃ s∈met,e.k=.string s)/\∀ s∈met,∃ e∈es,e.k=.string s
theorem MapS.nil{hp:Tr DObj}{im ck:Nat}(h:hp.get im=some (.mapo ck [])):MapS hp im []:=⟨ck,[],h,(λ_ h=>by cases h),(λ_ h=>by cases h)⟩
theorem MapS.keep{hp Ao:Tr DObj}{im:Nat}{met:List ByteArray}(h:MapS hp im met)(hk:Ao.get im=hp.get im):MapS Ao im met:=by
 obtain ⟨ck,es,h1,h2,h3⟩:=h
 exact ⟨ck,es,hk.trans h1,h2,h3⟩
theorem memB_iff{s:ByteArray}{l:List ByteArray} : dM s l=true↔s∈l:=by
 unfold dM
 rw [Wl]
 constructor
 .rintro ⟨x,hx,he⟩
  rw [<- Fe he];exact hx
 .intro h;exact ⟨s,h,Ar rfl⟩
theorem LM(a b:ByteArray):(a.data.toList==b.data.toList)=decide (a=b):=by
 rw [<- Lw,ByteArray.toList_eq,ByteArray.toList_eq]
theorem pT:∀ (es:List ME) (s:ByteArray) (i:Nat),(∀ e∈es,∃ t,e.k=.string t)->(findD (.p .string) (.string s) es i=some none/\∀ e∈es,e.k≠.string s)\/∃ j e,findD (.p .string) (.string s) es i=some (some (i+j,e))/\e∈es/\e.k=.string s/\es[j]?=some e
 | [],s,i,_=>.inl ⟨rfl,λ_ h=>by cases h⟩
 | e::es,s,i,hk=>by
  obtain ⟨t,ht⟩:=hk e (Dv ..)
  have hs:Nc (.p .string) (.string s) e.k=some (decide (s=t)):=by
   rw [ht]
   show some (s.data.toList==t.data.toList)=_
   rw [LM]
  by_cases h:s=t
  .refine .inr ⟨0,e,?_,Dv ..,by rw [ht,h],rfl⟩
   unfold findD;rw [hs,Ar h];rfl
  .have hfd:findD (.p .string) (.string s) (e::es) i=findD (.p .string) (.string s) es (i+1):=by
    conv=>lhs;unfold findD
    rw [hs,Aj h]
   rcases pT es s (i+1) (λe he=>hk e (Be _ he)) with ⟨h1,h2⟩ | ⟨j,e',h1,h2,h3,h4⟩
   .refine .inl ⟨hfd.trans h1,λx hx=>?_⟩
    rcases Aq.1 hx with rfl | hx
    .rw [ht];intro e;exact h (Value.string.inj e).symm
    .exact h2 x hx
   .exact .inr ⟨j+1,e',by rw [hfd,h1,Mr,Rm 1 j],Be _ h2,h3,by simpa using h4⟩
theorem MapS.lkp{hp:Tr DObj}{im:Nat}{met:List ByteArray}(h:MapS hp im met)(s:ByteArray):Rb hp (.p .string) (.bool false) (.mp im) (.v (.string s))=some (.v (.bool (dM s met))):=by
 obtain ⟨ck,es,h1,h2,h3⟩:=h
 unfold Rb
 show (if fS (.p .string) (.string s)=true then _ else none)=_
 rw [Af (by rfl)]
 simp only [h1]
 rcases pT es s 0 (λe he=>by obtain ⟨_,t,_,ht⟩:=h2 e he;exact ⟨t,ht⟩) with ⟨h4,h5⟩ | ⟨j,e,h4,h5,h6,_⟩
 .rw [h4]
  have:dM s met=false:=by
   rw [Hd]
   intro hm
   obtain ⟨e,he,hs⟩:=h3 s (memB_iff.1 hm)
   exact h5 e he hs
  rw [this];rfl
 .rw [h4]
  obtain ⟨hv,t,ht,hkt⟩:=h2 e h5
  have:t=s:=by rw [h6] at hkt;exact (Value.string.inj hkt).symm
  subst this
  rw [memB_iff.2 ht]
  simp only [Gj]
  rw [hv];rfl
theorem Bl9{call:Bg}{es:ES}{dst:Option Pa}{q:Hold (ES->Prop)}{x k y:Operand}{im:Nat}{met:List ByteArray}{s:ByteArray}(hm:MapS es.hp im met)(e1:es.ds.ev x=.mp im)(e2:es.ds.ev k=sv s)(e3:es.ds.ev y=bv true)
  (h:∀ Ao,MapS Ao im (met ++ [s])->(∀ j,j≠im->Ao.get j=es.hp.get j)->q.val ((ES.mk es.sl Ao es.nx).putE dst .any)) :
  Nr (sU dst (Bd (.mup (.p .string) x k y))) call es:=by
 obtain ⟨ck,l,h1,h2,h3⟩:=hm
 show SW _ _ _ _
 rw [sw_u,Fi]
 have key:∀ Up Cb,Nd (.p .string) (.string s) (bv true) ck l=some (Up,Cb)->Ay es.nx es.ds (.mup (.p .string) x k y)=some (.any,.wr im (.mapo Up Cb)):=by
  intro Up Cb hp
  simp only [Ay,e1,e2,e3,Tu,sv]
  rw [Af (by rfl)]
  show (match es.hp.get im with
   | some (.mapo ck es)=>match Nd (.p .string) (.string s) (bv true) ck es with
    | some p=>some (DV.any,Upd.wr im (.mapo p.1 p.2))
    | none=>none
   | _=>none)=_
  rw [h1]
  simp only [hp]
 have fin:∀ Up Cb,Nd (.p .string) (.string s) (bv true) ck l=some (Up,Cb)->(∀ e∈Cb,e.v=bv true/\∃ t∈met ++ [s],e.k=.string t)->(∀ t∈met ++ [s],∃ e∈Cb,e.k=.string t)->UW (Ay es.nx es.ds (.mup (.p .string) x k y)) λd u=>q.val ((es.up u).putE dst d):=by
  intro Up Cb hp h4 h5
  exact ⟨_,_,key Up Cb hp,h (es.up (.wr im (.mapo Up Cb))).hp ⟨Up,Cb,by rw [Kh,get_set,Af rfl],h4,h5⟩ λj hj=>by rw [Kh,get_set,Ad hj]⟩
 rcases pT l s 0 (λe he=>by obtain ⟨_,t,_,ht⟩:=h2 e he;exact ⟨t,ht⟩) with ⟨h4,h5⟩ | ⟨j,e,h4,h5,h6,h7⟩
 .refine fin (ck+1) (l ++ [⟨.string s,bv true,ck⟩]) (by unfold Nd;rw [h4]) (λe he=>?_) (λt ht=>?_)
  .rcases Aw.1 he with he | he
   .obtain ⟨a,t,b,c⟩:=h2 e he
    exact ⟨a,t,Dq _ b,c⟩
   .obtain rfl:=Am.1 he
    exact ⟨rfl,s,by simp,rfl⟩
  .rcases Aw.1 ht with ht | ht
   .obtain ⟨e,he,hk⟩:=h3 t ht
    exact ⟨e,Dq _ he,hk⟩
   .obtain rfl:=Am.1 ht
    exact ⟨_,Em _ (Am.2 rfl),rfl⟩
 .have hj:j<l.length:=(As.1 h7).1
  refine fin ck (l.set j ⟨.string s,bv true,e.b⟩) (by unfold Nd;rw [h4,Cp]) (λx hx=>?_) (λt ht=>?_)
  .rcases Tj hx with hx | hx
   .obtain ⟨a,t,b,c⟩:=h2 x hx
    exact ⟨a,t,Dq _ b,c⟩
   .subst hx
    exact ⟨rfl,s,by simp,rfl⟩
  .by_cases bt:t=s
   .subst bt
    exact ⟨_,List.mem_set hj _,rfl⟩
   .have Xd:t∈met:=by
     rcases Aw.1 ht with ht | ht
     .exact ht
     .exact absurd (Am.1 ht) bt
    obtain ⟨x,hx,hk⟩:=h3 t Xd
    obtain ⟨i,hi,rfl⟩:=Bq.1 hx
    refine ⟨l[i],?_,hk⟩
    have Oy:j≠i:=by
     intro e2
     subst e2
     rw [Aa hi] at h7
     have:=Ge h7
     rw [this,h6] at hk
     exact bt (Value.string.inj hk).symm
    refine Bq.2 ⟨i,by simpa using hi,?_⟩
    rw [List.getElem_set_ne Oy]
end Go.DD

/- Contracts: schemas. Conditions: those that each theorem states. -/
namespace Go.DD
open Go Go.Proofs
theorem TJ{α β:Type}(f:α->β){l:List α}{i:Nat}(h:i<l.length):(l.take (i+1)).map f=(l.take i).map f ++ [f l[i]]:=by
 rw [Fy h,Cw];rfl
theorem Cp1{met:List ByteArray}{l:List PDim}{i:Nat}(h:i<l.length):aK met (l.drop i)=if Kx l[i].name=false\/dM l[i].name met=true then 11 else if W6 l[i]=false then 3 else aK (met ++ [l[i].name]) (l.drop (i+1)):=by
 rw [Bb h];rfl
theorem B70{met:List ByteArray}{l:List PAttr}{i:Nat}(h:i<l.length):Z2 met (l.drop i)=if Kx l[i].name=false\/dM l[i].name met=true then 11 else if l[i].type<1\/4<l[i].type then 12 else Z2 (met ++ [l[i].name]) (l.drop (i+1)):=by
 rw [Bb h];rfl
theorem MapS.live{hp:Tr DObj}{im:Nat}{met:List ByteArray}(h:MapS hp im met):Cd hp (.mp im)=.mp im:=by
 obtain ⟨ck,es,h1,_⟩:=h
 exact Yq h1
section
variable (k n0:Nat) (hp:Tr DObj) (nx:Nat) (K:DV->Tr DObj->Nat->Prop)
theorem Cp2(d:DV)(l:List PDim)(im:Nat)(hn:n0<=nx)(h1:RL rDim hp (Bl n0) d l)(hm:MapS hp im [])(Uo:n0<=im/\im<nx)
  (hK:∀ Ao Bk,nx<=Bk->(∀ j,j<nx->j≠im->Ao.get j=hp.get j)->(Ph l=0->MapS Ao im (l.map PDim.name))->K (iv (Ph l)) Ao Bk):KW (kN (k+2)) (.fn 156) [d,.mp im] hp nx K:=by
 refine En (Hm (by decide)) WQ (Ab rfl) λes e1 e2 he=>?_
 have a0:Ae es (.t .o)=d:=he 0 _ rfl
 have a1:Ae es (.t (.l .o))=.mp im:=he 1 _ rfl
 unfold DL
 by_cases c1:(l.length:Int)<1
 .simp only [Ax,↓Ba,bP,a0,e1,e2,h1.len,c1]
  have hh:=hK hp nx (Ai _) (λ_ _ _=>rfl)
  unfold Ph at hh
  rw [Af (.inl (by omega))] at hh
  exact hh (λh=>by cases h)
 by_cases c2:(4:Int)<l.length
 .simp only [Ax,↓Ba,bP,a0,e1,e2,h1.len,c1,c2]
  have hh:=hK hp nx (Ai _) (λ_ _ _=>rfl)
  unfold Ph at hh
  rw [Af (.inr (by omega))] at hh
  exact hh (λh=>by cases h)
 unfold Ph at hK
 rw [Ad (by omega)] at hK
 simp only [Ax,↓Ba,a0,e1,h1.len,c1,c2]
 refine EW.up l.length (λi An=>nx<=An.nx/\(∀ j,j<nx->j≠im->An.hp.get j=hp.get j)/\MapS An.hp im ((l.take i).map PDim.name)/\Ae An (.t (.l .o))=.mp im/\Ae An (.t (.l (.l (.l (.l .o)))))=d/\Ae An (.t (.r (.l (.l (.l .o)))))=iv l.length/\Ae An (.t (.l (.r (.l (.l .o)))))=iv (i:Nat)/\aK [] l=aK ((l.take i).map PDim.name) (l.drop i)) ?_ ?_ (by omega)
 .rintro i An hi ⟨g1,g2,gm,b1,b15,b16,Zm,hc⟩
  unfold Cg2
  by_cases h:i<l.length
  .have r1:RL rDim An.hp (Bl n0) d l:=h1.keep λj hj=>g2 j (Bp hj hn) (Nat.ne_of_lt (Bp hj Uo.1))
   rw [Cp1 h] at hc
   simp only [Mn,↓Mm,b15,b16,Zm,h,B9 r1 h,(uO r1 h).1]
   refine Vr λEi Dm Cv=>?_
   simp only [bR] at Dm Cv
   simp only [Mn,↓Mm]
   refine Uu (id:=An.nx) (ds:=dc l[i]) (by simp only [bR]) Dm (by simp only [Hl,bR];exact fI rfl) rfl rfl λDb Ft Et=>?_
   simp only [bR] at Ft Et
   obtain ⟨⟨f0,f1,f2⟩,l0,l1,l2⟩:=qD Ft
   have QT:MapS Db im ((l.take i).map PDim.name):=gm.keep (by rw [Et im (by omega),Cv im (by omega)])
   have mc:∀ j,j<nx->j≠im->Db.get j=hp.get j:=λj hj Ha=>by rw [Et j (by omega),Cv j (by omega),g2 j hj Ha]
   simp only [Mn,↓Mm,f0,l0]
   refine Fl (NA (k:=k) _ _ _ _ ?_)
   simp only [Mn,↓Mm,bP,b1,f0,l0,QT.live,QT.lkp]
   refine A0 (λc=>?_) (λc=>?_)
   .rw [Af (by simpa using c)] at hc
    rw [hc] at hK
    simp only [Mn,↓Mm,bP]
    exact hK _ _ (by omega) mc (λh=>by cases h)
   .rw [Ad (by simpa using c)] at hc
    simp only [Mn,↓Mm,f1,f2,l1,l2]
    refine A0 (λc2=>?_) (λc2=>?_)
    .have:W6 l[i]=false:=by
      unfold W6
      rw [Hd]
      intro hb
      simp at c2 hb
      omega
     rw [Af this] at hc
     rw [hc] at hK
     simp only [Mn,↓Mm,bP]
     exact hK _ _ (by omega) mc (λh=>by cases h)
    .have:¬ W6 l[i]=false:=by
      unfold W6
      simp at c2 ⊢
      omega
     rw [Ad this] at hc
     simp only [Mn,↓Mm,b1,f0,l0]
     refine Bl9 (im:=im) (s:=l[i].name) QT (by simp only [Cg,bR,bP];exact QT.live) (by simp only [Cg,bR,bP];exact tx _ _) (by rfl) λGr hm3 Iz=>?_
     simp only [bR] at Iz
     simp only [Mn,↓Mm,b1,b15,b16,Zm,h,Jx (show i<_ by omega)]
     refine ⟨by omega,λj hj Ha=>by rw [Iz j Ha,mc j hj Ha],by rw [TJ _ h];exact hm3,by rw [TJ _ h];exact hc⟩
  .simp only [Mn,↓Mm,bP,b16,Zm,h]
   have e:l.drop i=[]:=Bc (by omega)
   rw [e] at hc
   rw [hc] at hK
   refine hK _ _ g1 g2 (λ_=>?_)
   rwa [Cc (by omega)] at gm
 .simp only [Ax,a1,e1,e2]
  exact ⟨λ_ _ _=>trivial,hm,rfl⟩
end
end Go.DD

/- Contracts: schemas, by the program and by the reference. Conditions: those that each theorem states. -/
namespace Go.DD
open Go Go.Proofs
section
variable (k n0:Nat) (hp:Tr DObj) (nx:Nat) (K:DV->Tr DObj->Nat->Prop) (d a:DV) (l:List PDim) (m:List PAttr) (hn:n0<=nx) (h1:RL rDim hp (Bl n0) d l) (h2:RL rAttr hp (Bl n0) a m)
include hn h1 h2
theorem Ba6(hK:∀ Ao Bk,Al hp nx Ao Bk->K (iv (jS l m)) Ao Bk):KW (kN (k+3)) (.fn 121) [d,a] hp nx K:=by
 refine En (Hm (by decide)) XH (Ab rfl) λes e1 e2 he=>?_
 have a0:Ae es (.t .o)=d:=he 0 _ rfl
 have a1:Ae es (.t (.l .o))=a:=he 1 _ rfl
 unfold EF
 simp only [Mn,↓Mm]
 refine Bw4 λEi Dm Cv=>?_
 simp only [bR,e1,e2] at Dm Cv
 simp only [Mn,↓Mm,a0,e2]
 have r1:RL rDim Ei (Bl n0) d l:=h1.keep λj hj=>Cv j (by have:j<n0:=hj;omega)
 have r2:RL rAttr Ei (Bl n0) a m:=h2.keep λj hj=>Cv j (by have:j<n0:=hj;omega)
 refine Fl (Cp2 (k+1-1) n0 _ _ _ d l nx (by omega) r1 (MapS.nil Dm) ⟨hn,by omega⟩ λDb Hz Ya Et oU=>?_)
 have Dj:Al hp nx Db Hz:=⟨by omega,λj hj=>by rw [Et j (by omega) (by omega),Cv j (by omega)]⟩
 have r3:RL rAttr Db (Bl n0) a m:=h2.ka hn Dj
 simp only [Mn,↓Mm]
 unfold jS at hK
 refine A0 (λc=>?_) (λc=>?_)
 .have c0:Ph l≠0:=by simpa using c
  rw [Af c0] at hK
  simp only [Mn,↓Mm,bP]
  exact hK _ _ Dj
 .have c0:Ph l=0:=by simpa using c
  rw [Ad (by simp [c0])] at hK
  have gm:=oU c0
  simp only [Mn,↓Mm,a1,r3.len]
  refine A0 (λc=>?_) (λc=>?_)
  .rw [Af (by simp at c;omega)] at hK
   simp only [Mn,↓Mm,bP]
   exact hK _ _ Dj
  .rw [Ad (by simp at c;omega)] at hK
   have hlen:m.length<=6:=by simp at c;omega
   simp only [Mn,↓Mm,a1,r3.len]
   refine EW.up m.length (λi An=>Hz<=An.nx/\Al hp nx An.hp An.nx/\MapS An.hp nx (l.map PDim.name++(m.take i).map PAttr.name)/\Ae An (.t (.l (.r .o)))=.mp nx/\Ae An (.t (.r (.l (.l (.r .o)))))=a/\Ae An (.t (.l (.r (.l (.r .o)))))=iv m.length/\Ae An (.t (.r (.r (.l (.r .o)))))=iv (i:Nat)/\Z2 (l.map PDim.name) m=Z2 (l.map PDim.name++(m.take i).map PAttr.name) (m.drop i)) ?_ ?_ (by omega)
   .rintro i An hi ⟨gn,g2,gm,b5,V6,qJ,mK,hc⟩
    unfold Cf7
    by_cases h:i<m.length
    .have r4:RL rAttr An.hp (Bl n0) a m:=h2.ka hn g2
     rw [B70 h] at hc
     simp only [Mn,↓Mm,V6,qJ,mK,h,R1 r4 h,(R3 r4 h).1]
     refine Vr λGr Ni Iz=>?_
     simp only [bR] at Ni Iz
     simp only [Mn,↓Mm]
     refine Uu (id:=An.nx) (ds:=ac m[i]) (by simp only [bR]) Ni (by simp only [Hl,bR];exact fI rfl) rfl rfl λGz Mf Fp=>?_
     simp only [bR] at Mf Fp
     obtain ⟨⟨f0,f1⟩,l0,l1⟩:=MO Mf
     have hle:=g2.le
     have O6:MapS Gz nx (l.map PDim.name++(m.take i).map PAttr.name):=gm.keep (by rw [Fp nx (by omega),Iz nx (by omega)])
     have mb:Al hp nx Gz (An.nx+1):=⟨by omega,λj hj=>by rw [Fp j (by omega),Iz j (by omega),g2.same j hj]⟩
     simp only [Mn,↓Mm,f0,l0]
     refine Fl (NA (k:=k+1) _ _ _ _ ?_)
     simp only [Mn,↓Mm,bP,b5,f0,l0,O6.live,O6.lkp]
     refine A0 (λc=>?_) (λc=>?_)
     .rw [Af (by simpa using c)] at hc
      rw [hc] at hK
      simp only [Mn,↓Mm,bP]
      exact hK _ _ mb
     .rw [Ad (by simpa using c)] at hc
      simp only [Mn,↓Mm,f1,l1]
      refine A0 (λc2=>?_) (λc2=>?_)
      .rw [Af (by simpa using c2)] at hc
       rw [hc] at hK
       simp only [Mn,↓Mm,bP]
       exact hK _ _ mb
      .rw [Ad (by simpa using c2)] at hc
       simp only [Mn,↓Mm,b5,f0,l0]
       refine Bl9 (im:=nx) (s:=m[i].name) O6 (by simp only [Cg,bR,bP];exact O6.live) (by simp only [Cg,bR,bP];exact tx _ _) (by rfl) λHp hm5 Io=>?_
       simp only [bR] at Io
       simp only [Mn,↓Mm,b5,V6,qJ,mK,h,Jx (show i<_ by omega)]
       refine ⟨by omega,⟨by omega,λj hj=>by rw [Io j (by omega),mb.same j hj]⟩,by rw [TJ _ h,<- Bu];exact hm5,by rw [TJ _ h,<- Bu];exact hc⟩
    .simp only [Mn,↓Mm,bP,qJ,mK,h]
     have e:m.drop i=[]:=Bc (by omega)
     rw [e] at hc
     rw [hc] at hK
     exact hK _ _ g2
   .simp only [Mn]
    exact ⟨Dj,by simpa using gm,by simp⟩
omit h2
end
end Go.DD

/- Contracts: the reference's schemas. Conditions: those that each theorem states. -/
namespace Go.DD
open Go Go.Proofs
section
variable (k n0:Nat) (hp:Tr DObj) (nx:Nat) (K:DV->Tr DObj->Nat->Prop) (d a:DV) (l:List PDim) (m:List PAttr) (hn:n0<=nx) (h1:RL rDim hp (Bl n0) d l) (h2:RL rAttr hp (Bl n0) a m)
include hn h1 h2
end
end Go.DD

/- Contracts: natural numbers of few digits, greatest common divisors. Conditions: those that each theorem states. -/
namespace Go.DD
open Go Go.Proofs
section
variable (k:Nat) (hp:Tr DObj) (nx:Nat) (K:DV->Tr DObj->Nat->Prop)
end
end Go.DD

/- Contracts: greatest common divisors; what values are valid, by the program. Conditions: those that each theorem states. -/
namespace Go.DD
open Go Go.Proofs
theorem B71(a b:Nat):Nat.gcd b (a % b)=Nat.gcd a b:=by rw [Nat.gcd_comm b,<- Nat.gcd_rec,Nat.gcd_comm]
theorem B72{a b:Nat}(h:b<=a)(hb:b≠0):2*(a % b)<=a:=by
 have h1:=Nat.mod_lt a (show b>0 by omega)
 have h2:=Nat.div_add_mod a b
 have h3:1<=a / b:=(Nat.le_div_iff_mul_le (by omega)).2 (by omega)
 have h4:b*1<=b*(a / b):=Nat.mul_le_mul_left b h3
 omega
def GM(m a b:Nat):Prop:=(b<=a/\a*b<2 ^ m)\/(a<b/\∃ m',m=m'+1/\a*b<2 ^ m')
theorem GM.ini{a b:Nat}(ha:a<2 ^ 50)(hb:b<2 ^ 50):GM 101 a b:=by
 have mI:a*b<2 ^ 100:=by
  have:a*b<=2 ^ 50*b:=Cu b (by omega)
  have h2:2 ^ 50*b<2 ^ 50*2 ^ 50:=Nat.mul_lt_mul_of_pos_left hb (by decide)
  have h3:(2:Nat) ^ 50*2 ^ 50=2 ^ 100:=by decide
  omega
 by_cases h:b<=a
 .exact .inl ⟨h,by rw [show (2:Nat) ^ 101=2 ^ 100*2 from rfl];omega⟩
 .exact .inr ⟨by omega,100,rfl,mI⟩
theorem GM.step{m a b:Nat}(h:GM m a b)(h0:b≠0):∃ m',m'<m/\GM m' b (a % b):=by
 have Ez:=Nat.mod_lt a (show b>0 by omega)
 rcases h with ⟨h1,h2⟩ | ⟨h1,m',rfl,h2⟩
 .have hh:=B72 h1 h0
  have uB:1<=a*b:=Nat.mul_pos (by omega) (by omega)
  cases m with
  | zero=>simp at h2;omega
  | succ m=>
   refine ⟨m,by omega,.inl ⟨by omega,?_⟩⟩
   have h3:2*(b*(a % b))<=a*b:=by
    rw [show 2*(b*(a % b))=(2*(a % b))*b by rw [Nat.mul_comm b,Nat.mul_assoc]]
    exact Cu b hh
   rw [Nat.pow_succ] at h2
   omega
 .refine ⟨m',by omega,.inl ⟨by omega,?_⟩⟩
  rw [Nat.mod_eq_of_lt h1,Nat.mul_comm]
  exact h2
section
variable (k:Nat) (hp:Tr DObj) (nx:Nat) (K:DV->Tr DObj->Nat->Prop)
theorem C05(a b:Nat)(ha:a<2 ^ 50)(hb:b<2 ^ 50)(hK:∀ Bk,nx<=Bk->K (iv (Nat.gcd a b:Nat)) hp Bk):KW (kN (k+1)) (.fn 182) [iv (a:Nat),iv (b:Nat)] hp nx K:=by
 refine En (Hm (by decide)) WA (Ab rfl) λes e1 e2 he=>?_
 have a0:Ae es (.t .o)=iv (a:Nat):=he 0 _ rfl
 have a1:Ae es (.t (.l .o))=iv (b:Nat):=he 1 _ rfl
 unfold CV
 simp only [Ax,↓Ba]
 refine EW.l (I:=λm An=>∃ a' b',GM m a' b'/\An.hp=hp/\nx<=An.nx/\Ae An (.t .o)=iv (a':Nat)/\Ae An (.t (.l .o))=iv (b':Nat)/\Nat.gcd a' b'=Nat.gcd a b) ?_ 101 1000000 _ ?_ (by omega)
 .rintro m An ⟨a',b',hm,g1,g2,q0,q1,hg⟩
  unfold Cg4
  by_cases h0:b'=0
  .subst h0
   simp only [Ax,↓Ba,bP,q0,q1]
   rw [Nat.gcd_zero_right] at hg
   rw [g1,hg]
   exact hK _ g2
  .have h0':¬ (b':Int)=0:=by omega
   simp only [Ax,↓Ba,q0,q1,h0',Cf6 h0]
   obtain ⟨m',h1,h2⟩:=hm.step h0
   exact ⟨m',h1,b',a' % b',h2,g1,by omega,rfl,rfl,by rw [B71,hg]⟩
 .exact ⟨a,b,GM.ini ha hb,by simp only [Ax,e1],by simp only [Ax,e2],by simp only [Ax,a0],by simp only [Ax,a1],rfl⟩
end
end Go.DD

/- Contracts: what values are valid, by the program. Conditions: those that each theorem states. -/
namespace Go.DD
open Go Go.Proofs
section
variable {call:Bg} {es:ES} {Q:ES->Prop} {dst:Option Pa} {q:Hold (ES->Prop)}
theorem AA{x:Operand} : SW (sU dst (Bd (.rgs x))) call es Q↔@Nr (sU dst (Bd (.rgs x))) call es ⟨Q⟩:=Da
theorem AB{x:Operand} : SW (sU dst (Bd (.nxs x))) call es Q↔@Nr (sU dst (Bd (.nxs x))) call es ⟨Q⟩:=Da
theorem Cp3{x:Operand}{s:ByteArray}(e:es.ds.ev x=sv s)(h:∀ Ao,Ao.get es.nx=some (.siter s 0)->(∀ j,j≠es.nx->Ao.get j=es.hp.get j)->q.val ((ES.mk es.sl Ao (es.nx+1)).putE dst (.pt es.nx 0))):Nr (sU dst (Bd (.rgs x))) call es:=by
 show SW _ _ _ _
 rw [sw_u,Fi]
 refine ⟨.pt es.nx 0,.lay (.siter s 0),?_,h (es.up (.lay (.siter s 0))).hp (by rw [aO,get_set,Af rfl]) λj hj=>by rw [aO,get_set,Ad hj]⟩
 simp only [Ay,e]
theorem Cp4{x:Operand}{s:ByteArray}{id pos:Nat}(e:es.ds.ev x=.pt id 0)(hg:es.hp.get id=some (.siter s pos))
  (h1:¬ pos<s.size->q.val (es.putE dst (.tup [.v (.bool false)])))
  (h2:∀ Ao,pos<s.size->Ao.get id=some (.siter s (pos+(Utf8.decode s pos).2))->(∀ j,j≠id->Ao.get j=es.hp.get j)->q.val ((ES.mk es.sl Ao es.nx).putE dst (.tup [.v (.bool true),.v (.int .i64 (pos:Nat)),.v (.int .i32 ((Utf8.decode s pos).1:Nat))]))):Nr (sU dst (Bd (.nxs x))) call es:=by
 show SW _ _ _ _
 rw [sw_u,Fi]
 have hx:Ay es.nx es.ds (.nxs x)=if pos<s.size then some (.tup [.v (.bool true),.v (.int .i64 (pos:Nat)),.v (.int .i32 ((Utf8.decode s pos).1:Nat))],.wr id (.siter s (pos+(Utf8.decode s pos).2))) else some (.tup [.v (.bool false)],.keep):=by
  simp only [Ay,e]
  show (match es.hp.get id with
   | some (.siter t pos)=>if pos<t.size then some (DV.tup [.v (.bool true),.v (.int .i64 (pos:Nat)),.v (.int .i32 ((Utf8.decode t pos).1:Nat))],Upd.wr id (.siter t (pos+(Utf8.decode t pos).2))) else some (.tup [.v (.bool false)],.keep)
   | _=>none)=_
  rw [hg]
 rw [hx]
 by_cases h:pos<s.size
 .rw [Af h]
  exact ⟨_,_,rfl,h2 (es.up (.wr id (.siter s (pos+(Utf8.decode s pos).2)))).hp h (by rw [Kh,get_set,Af rfl]) λj hj=>by rw [Kh,get_set,Ad hj]⟩
 .rw [Ad h]
  exact ⟨_,_,rfl,h1 h⟩
end
theorem LK{hp:Tr DObj}{v:Value} : Fv hp (.tup [.v v]) 0=some (.v v):=nr rfl
theorem C06{hp:Tr DObj}{u v w:Value} : Fv hp (.tup [.v u,.v v,.v w]) 0=some (.v u):=nr rfl
theorem Zq{hp:Tr DObj}{id T:Nat}{x:PVal}(h:hp.get id=some (.row T (vc x))):(On hp 0 (.pt id 0)=some (.pt id 0)/\On hp 1 (.pt id 0)=some (.pt id 1)/\On hp 2 (.pt id 0)=some (.pt id 2)/\On hp 3 (.pt id 0)=some (.pt id 3))/\Gl hp none (.pt id 0)=some (iv x.kind)/\Gl hp none (.pt id 1)=some (iv x.n)/\Gl hp none (.pt id 2)=some (iv x.d)/\Gl hp none (.pt id 3)=some (sv x.s)/\Gl hp (some 4) (.pt id 0)=some (.agg (vc x)):=by
 refine ⟨⟨Qq h,Qq h,Qq h,Qq h⟩,?_,?_,?_,?_,?_⟩ <;> rw [Ro h] <;> rfl
theorem Q0(s:ByteArray):decide (s=bs [])=V2 s:=(Lw s (bs [])).symm
section
variable (k:Nat) (hp:Tr DObj) (nx:Nat) (K:DV->Tr DObj->Nat->Prop)
theorem Bm0(v:PVal)(hK:∀ Ao Bk,Al hp nx Ao Bk->K (bv (Z3 v)) Ao Bk):KW (kN (k+1)) (.fn 181) [.agg (vc v)] hp nx K:=by
 refine En (Hm (by decide)) WC (Ab rfl) λes e1 e2 he=>?_
 have a0:Ae es (.t .o)=.agg (vc v):=he 0 _ rfl
 unfold CX
 simp only [↓Mm]
 refine Zo (cs:=vc v) (by rw [Hl,a0];exact fI rfl) λEi Dm Cv=>?_
 simp only [bR,e1,e2] at Dm Cv
 obtain ⟨⟨_,_,f2,f3⟩,_,_,l2,l3,_⟩:=Zq Dm
 simp only [Mn,↓Mm,bP,e2,f2,f3,l2,l3,Q0]
 exact kb (hK _ _ ⟨by omega,λj hj=>Cv j (by omega)⟩) rfl
theorem Ch1(r:Nat)(hK:K (bv (!(decide ((32:Int)<=(r:Int))&&decide ((r:Int)<=126)))) hp nx):KW (kN (k+1)) (.fn 183) [.v (.int .i32 (r:Int))] hp nx K:=by
 refine En (Hm (by decide)) VZ (Ab rfl) λes e1 e2 he=>?_
 have a0:Ae es (.t .o)=.v (.int .i32 (r:Int)):=he 0 _ rfl
 unfold CU
 simp only [Mn,↓Mm,bP,a0,e1,e2]
 refine kb hK ?_
 rw [Yr];simp
theorem Bx0(s:ByteArray)(hl:s.size<900000)(hK:∀ r Ao Bk,Al hp nx Ao Bk->(decide (r<0)=Wa s)->K (iv r) Ao Bk):KW (kN (k+2)) (.fn 202) [sv s,.fn (.func 183) [.tup []],bv true] hp nx K:=by
 refine En (Hm (by decide)) VU (Ab rfl) λes e1 e2 he=>?_
 have a0:Ae es (.t .o)=sv s:=he 0 _ rfl
 have a1:Ae es (.t (.l .o))=.fn (.func 183) [.tup []]:=he 1 _ rfl
 have a2:Ae es (.t (.r .o))=bv true:=he 2 _ rfl
 unfold CP
 simp only [Mn,↓Mm,a0,↓AA]
 refine Cp3 (s:=s) (by simp only [Cg,bR,bP];exact tx _ _) λEi Dm Cv=>?_
 simp only [bR,e1,e2] at Dm Cv
 simp only [Mn,↓Mm,e2]
 refine EW.l (I:=λm An=>∃ i,m=s.size-i/\i<=s.size/\nx+1<=An.nx/\(∀ j,j<nx->An.hp.get j=hp.get j)/\An.hp.get nx=some (.siter s i)/\Ae An (.t (.l .o))=.fn (.func 183) [.tup []]/\Ae An (.t (.r .o))=bv true/\Ae An (.t (.r (.r (.l .o))))=.pt nx 0/\∀ j,(h:j<s.data.toList.length)->j<i->nJ s.data.toList[j]=true) ?_ s.size 1000000 _ ?_ (by omega)
 .rintro m An ⟨i,rfl,hi,g1,g2,g3,b1,b2,b10,kH⟩
  unfold Cg5
  simp only [↓Mm,↓AB]
  refine Cp4 (id:=nx) (s:=s) (pos:=i) (by simp only [Cg,bP,b10];exact Rk g3) g3 (λh=>?_) (λDb h Ft Et=>?_)
  .simp only [Mn,↓Mm,bP,LK]
   refine hK (-1) _ _ ⟨by omega,g2⟩ ?_
   have:Wa s=true:=by
    unfold Wa
    rw [Bi]
    intro c hc
    obtain ⟨j,hj,rfl⟩:=Bq.1 hc
    exact kH j hj (by have:s.data.toList.length=s.size:=rfl;omega)
   rw [this];rfl
  .simp only [bR] at Ft Et
   have h':i<s.data.toList.length:=h
   have bN:(s[i]'h).toNat=(s.data.toList[i]).toNat:=rfl
   simp only [Mn,↓Mm,b1,C06,↓jV]
   refine Xo (f:=183) (fs:=[]) (cs:=[]) (by simp only [Hl,bR];exact NC _ _) ?_
   simp only [bR,Bv,Dh,Ag,Ak]
   have M1:∀ j,j<nx->Db.get j=hp.get j:=λj hj=>by rw [Et j (by omega),g2 j hj]
   by_cases ID:(s.data.toList[i]).toNat<128
   .have N0:=decode_ascii s i h (by rw [bN];exact ID)
    rw [bN] at N0
    rw [N0] at Ft ⊢
    simp only at Ft ⊢
    refine Ch1 (k:=k) _ _ _ (s.data.toList[i]).toNat ?_
    cases iU:nJ s.data.toList[i] with
    | true=>
     have:(decide ((32:Int)<=((s.data.toList[i]).toNat:Int))&&decide (((s.data.toList[i]).toNat:Int)<=126))=true:=iU
     rw [this]
     simp only [Mn,↓Mm,bP,b1,b2,b10]
     refine ⟨s.size-(i+1),by omega,i+1,rfl,by omega,by omega,M1,Ft,λj hj Nu=>?_⟩
     by_cases e:j=i
     .subst e;exact iU
     .exact kH j hj (by omega)
    | false=>
     have:(decide ((32:Int)<=((s.data.toList[i]).toNat:Int))&&decide (((s.data.toList[i]).toNat:Int)<=126))=false:=iU
     rw [this]
     simp only [Mn,↓Mm,bP,b2]
     refine hK _ _ _ ⟨by omega,M1⟩ ?_
     have:Wa s=false:=by
      rw [Hd]
      intro ha
      have:=Bi.1 ha _ (Bh h')
      rw [iU] at this;cases this
     rw [this,Aj (by omega)]
   .have N0:=decode_high s i h (by rw [bN];omega)
    have iU:nJ s.data.toList[i]=false:=by
     unfold nJ
     rw [Bool.and_eq_false_iff]
     exact .inr (Aj (by omega))
    refine Ch1 (k:=k) _ _ _ _ ?_
    have:(decide ((32:Int)<=(((Utf8.decode s i).1:Nat):Int))&&decide ((((Utf8.decode s i).1:Nat):Int)<=126))=false:=by
     rw [Bool.and_eq_false_iff]
     exact .inr (Aj (by omega))
    rw [this]
    simp only [Mn,↓Mm,bP,b2]
    refine hK _ _ _ ⟨by omega,M1⟩ ?_
    have:Wa s=false:=by
     rw [Hd]
     intro ha
     have:=Bi.1 ha _ (Bh h')
     rw [iU] at this;cases this
    rw [this,Aj (by omega)]
 .simp only [Mn,a1,a2]
  exact ⟨0,rfl,by omega,λj hj=>Cv j (by omega),Dm,λj _ h=>by omega⟩
theorem B73(s:ByteArray)(hl:s.size<900000)(hK:∀ r Ao Bk,Al hp nx Ao Bk->(decide (r<0)=Wa s)->K (iv r) Ao Bk):KW (kN (k+3)) (.fn 184) [sv s,.fn (.func 183) [.tup []]] hp nx K:=by
 refine En (Hm (by decide)) VY (Ab rfl) λes e1 e2 he=>?_
 have a0:Ae es (.t .o)=sv s:=he 0 _ rfl
 have a1:Ae es (.t (.l .o))=.fn (.func 183) [.tup []]:=he 1 _ rfl
 unfold CT
 simp only [Mn,↓Mm,a0,a1,e1,e2]
 refine Fl (Bx0 k _ _ _ s hl λr Ao Bk Rj hr=>?_)
 simp only [Mn,↓Mm,bP]
 exact hK r _ _ Rj hr
end
end Go.DD

/- Contracts: which values are valid, and fit a type. Conditions: those that each theorem states. -/
namespace Go.DD
open Go Go.Proofs
theorem B74{v:PVal}(h:v.kind=0):fR v=(Z3 v&&decide (1<=v.n)&&decide (v.n<=255)):=by unfold fR;rw [Af h,Bool.and_assoc]
theorem B75{v:PVal}(h:v.kind=1):fR v=(Z3 v&&(decide (v.n=0)||decide (v.n=1))):=by unfold fR;rw [Ad (by omega),Af h]
theorem B76{v:PVal}(h:v.kind=2):fR v=(V2 v.s&&(decide (1<=v.d)&&(decide (v.d<=1099511627776)&&(decide (-1099511627776<=v.n)&&(decide (v.n<=1099511627776)&&decide (Nat.gcd v.n.natAbs v.d.natAbs=1)))))):=by unfold fR;rw [Ad (by omega),Ad (by omega),Af h]
theorem B77{v:PVal}(h:v.kind=3):fR v=(decide (v.n=0)&&(decide (v.d=0)&&(decide (v.s.size<=16)&&Wa v.s))):=by unfold fR;rw [Ad (by omega),Ad (by omega),Ad (by omega),Af h]
theorem B78{v:PVal}(h0:v.kind≠0)(h1:v.kind≠1)(h2:v.kind≠2)(h3:v.kind≠3):fR v=false:=by unfold fR;rw [Ad h0,Ad h1,Ad h2,Ad h3]
section
variable (k:Nat) (hp:Tr DObj) (nx:Nat) (K:DV->Tr DObj->Nat->Prop)
theorem B79(v:PVal)(hl:v.s.size<900000)(hK:∀ Ao Bk,Al hp nx Ao Bk->K (bv (fR v)) Ao Bk):KW (kN (k+4)) (.fn 158) [.agg (vc v)] hp nx K:=by
 refine En (Hm (by decide)) WN (Ab rfl) λes e1 e2 he=>?_
 have a0:Ae es (.t .o)=.agg (vc v):=he 0 _ rfl
 unfold DJ
 simp only [↓Ba]
 refine Zo (cs:=vc v) (by rw [Hl,a0];exact fI rfl) λEi Dm Cv=>?_
 simp only [bR,e1,e2] at Dm Cv
 obtain ⟨⟨f0,f1,f2,f3⟩,l0,l1,l2,l3,l4⟩:=Zq Dm
 have Rj:Al hp nx Ei (nx+1):=⟨by omega,λj hj=>Cv j (by omega)⟩
 by_cases k0:v.kind=0
 .rw [B74 k0] at hK
  simp only [Ax,↓Ba,e2,f0,l0,l4,Ar k0]
  refine Fl (Bm0 (k:=k+2) _ _ _ v λDb Hz Dj=>?_)
  have q1:On Db 1 (.pt nx 0)=some (.pt nx 1):=Qq ((Dj.same nx (by omega)).trans Dm)
  have q2:Gl Db none (.pt nx 1)=some (iv v.n):=by rw [Ro ((Dj.same nx (by omega)).trans Dm)];rfl
  simp only [Mn,↓Mm,bP,e2,q1,q2]
  exact kb (hK _ _ (Rj.trans Dj)) rfl
 by_cases k1:v.kind=1
 .rw [B75 k1] at hK
  simp only [Ax,↓Ba,e2,f0,l0,l4,Aj k0,Ar k1]
  refine Fl (Bm0 (k:=k+2) _ _ _ v λDb Hz Dj=>?_)
  have q1:On Db 1 (.pt nx 0)=some (.pt nx 1):=Qq ((Dj.same nx (by omega)).trans Dm)
  have q2:Gl Db none (.pt nx 1)=some (iv v.n):=by rw [Ro ((Dj.same nx (by omega)).trans Dm)];rfl
  have hh:=hK _ _ (Rj.trans Dj)
  cases oK:Z3 v <;> cases h0:decide (v.n=0) <;> cases h1:decide (v.n=1) <;> simp only [Ax,↓Ba,bP,e2,q1,q2,h0,h1] <;> exact kb hh (by simp [oK,h0,h1])
 by_cases k2:v.kind=2
 .rw [B76 k2] at hK
  have hh:=hK _ _ Rj
  cases c1:V2 v.s with
  | false=>
   simp only [Ax,↓Ba,bP,e2,f0,l0,f3,l3,Aj k0,Aj k1,Ar k2,Q0,c1]
   exact kb hh (by rw [c1];rfl)
  | true=>
   rw [c1,Bool.true_and] at hh hK
   by_cases c2:1<=v.d
   .by_cases c3:v.d<=1099511627776
    .by_cases c4 : -1099511627776<=v.n
     .by_cases c5:v.n<=1099511627776
      .have eh:E0 .neg (.v (.int .i64 v.n))=some (.v (.int .i64 (-v.n))):=by rw [FF,Eo (by omega)];congr 3;omega
       have fg:tA true (.v (.int .i64 v.n)) (.v (.int .i64 (-v.n)))=some (.v (.int .i64 ((v.n.natAbs:Nat):Int))):=by rw [Cy9];congr 3;omega
       have hd:v.d=((v.d.natAbs:Nat):Int):=by omega
       have S4:Gl Ei none (.pt nx 2)=some (iv ((v.d.natAbs:Nat):Int)):=by rw [<- hd];exact l2
       have c2':(1:Int)<=((v.d.natAbs:Nat):Int):=by omega
       have c3':((v.d.natAbs:Nat):Int)<=1099511627776:=by omega
       simp only [Ax,↓Ba,bP,e2,f0,l0,f1,l1,f2,S4,f3,l3,Aj k0,Aj k1,Ar k2,Q0,c1,c2',c3',c4,c5,eh,fg]
       have h50:(2:Nat) ^ 50=1125899906842624:=by decide
       refine Fl (C05 (k:=k+2) _ _ _ v.n.natAbs v.d.natAbs (by omega) (by omega) λHz Ya=>?_)
       have he:decide ((Nat.gcd v.n.natAbs v.d.natAbs:Int)=1)=decide (Nat.gcd v.n.natAbs v.d.natAbs=1):=decide_eq_decide.2 (by omega)
       have zA:=hK Ei Hz (Rj.nx Ya)
       cases c6:decide (Nat.gcd v.n.natAbs v.d.natAbs=1) with
       | true=>
        simp only [Ax,↓Ba,bP,he,c6]
        exact kb zA (by simp [c2,c3,c4,c5,c6])
       | false=>
        simp only [Ax,↓Ba,bP,he,c6]
        exact kb zA (by simp [c6])
      .simp only [Ax,↓Ba,bP,e2,f0,l0,f1,l1,f2,l2,f3,l3,Aj k0,Aj k1,Ar k2,Q0,c1,c2,c3,c4,c5]
       exact kb hh (by simp [c5])
     .simp only [Ax,↓Ba,bP,e2,f0,l0,f1,l1,f2,l2,f3,l3,Aj k0,Aj k1,Ar k2,Q0,c1,c2,c3,c4]
      exact kb hh (by simp [c4])
    .simp only [Ax,↓Ba,bP,e2,f0,l0,f2,l2,f3,l3,Aj k0,Aj k1,Ar k2,Q0,c1,c2,c3]
     exact kb hh (by simp [c3])
   .simp only [Ax,↓Ba,bP,e2,f0,l0,f2,l2,f3,l3,Aj k0,Aj k1,Ar k2,Q0,c1,c2]
    exact kb hh (by simp [c2])
 by_cases k3:v.kind=3
 .rw [B77 k3] at hK
  have hh:=hK _ _ Rj
  cases c1:decide (v.n=0) with
  | false=>
   simp only [Ax,↓Ba,bP,e2,f0,l0,f1,l1,Aj k0,Aj k1,Aj k2,Ar k3,c1]
   exact kb hh (by rw [c1];rfl)
  | true=>
   cases c2:decide (v.d=0) with
   | false=>
    simp only [Ax,↓Ba,bP,e2,f0,l0,f1,l1,f2,l2,Aj k0,Aj k1,Aj k2,Ar k3,c1,c2]
    exact kb hh (by rw [c1,c2];rfl)
   | true=>
    by_cases c3:(v.s.size:Int)<=16
    .simp only [Ax,↓Ba,bP,e2,f0,l0,f1,l1,f2,l2,f3,l3,Aj k0,Aj k1,Aj k2,Ar k3,c1,c2,c3]
     refine Fl (B73 (k:=k) _ _ _ v.s hl λr Db Hz Dj hr=>?_)
     have zA:=hK _ _ (Rj.trans Dj)
     cases c4:decide (r<0) with
     | true=>
      simp only [Ax,↓Ba,bP,c4]
      exact kb zA (by rw [c1,c2,<- hr,c4,Ar (show v.s.size<=16 by omega)];rfl)
     | false=>
      simp only [Ax,↓Ba,bP,c4]
      exact kb zA (by rw [<- hr,c4];simp)
    .simp only [Ax,↓Ba,bP,e2,f0,l0,f1,l1,f2,l2,f3,l3,Aj k0,Aj k1,Aj k2,Ar k3,c1,c2,c3]
     exact kb hh (by rw [Aj (show ¬ v.s.size<=16 by omega)];simp)
 .simp only [Ax,↓Ba,bP,e2,f0,l0,Aj k0,Aj k1,Aj k2,Aj k3]
  rw [B78 k0 k1 k2 k3] at hK
  exact hK _ _ Rj
theorem Bx1(v:PVal)(t:Int)(hl:v.s.size<900000)(hK:∀ Ao Bk,Al hp nx Ao Bk->K (bv (Tz v t)) Ao Bk):KW (kN (k+5)) (.fn 123) [.agg (vc v),iv t] hp nx K:=by
 refine En (Hm (by decide)) XF (Ab rfl) λes e1 e2 he=>?_
 have a0:Ae es (.t .o)=.agg (vc v):=he 0 _ rfl
 have a1:Ae es (.t (.l .o))=iv t:=he 1 _ rfl
 unfold ED
 simp only [↓Ba]
 refine Zo (cs:=vc v) (by rw [Hl,a0];exact fI rfl) λEi Dm Cv=>?_
 simp only [bR,e1,e2] at Dm Cv
 obtain ⟨_,_,_,_,_,l4⟩:=Zq Dm
 have Gb:Al hp nx Ei (nx+1):=⟨by omega,λj hj=>Cv j (by omega)⟩
 simp only [Mn,↓Mm,e2,l4]
 refine Fl (B79 k _ _ _ v hl λDb Hz Dj=>?_)
 have Ft:=(Dj.same nx (by omega)).trans Dm
 obtain ⟨⟨f0,f1,f2,f3⟩,l0,l1,l2,l3,l4⟩:=Zq Ft
 have hh:=hK _ _ (Gb.trans Dj)
 unfold Tz at hh
 simp only [Mn,↓Mm,e2,a1]
 refine A0 (λc=>?_) (λc=>?_)
 .rw [Af (by cases hr:fR v <;> simp [hr] at c ⊢;omega)] at hh
  simp only [Mn,↓Mm,bP]
  exact hh
 rw [Ad (by cases hr:fR v <;> simp [hr] at c ⊢;omega)] at hh
 by_cases k1:v.kind=1
 .rw [Af k1] at hh
  simp only [Mn,↓Mm,bP,e2,a1,f0,l0,Ar k1]
  exact hh
 rw [Ad k1] at hh
 by_cases k2:v.kind=2
 .rw [Af k2] at hh
  cases h3:decide (t=3) <;> cases h2:decide (t=2) <;> cases h1:decide (v.d=1) <;> simp only [Ax,↓Ba,bP,e2,a1,f0,l0,f2,l2,Aj k1,Ar k2,h3,h2,h1] <;> exact kb hh (by simp [h1,h2,h3])
 rw [Ad k2] at hh
 by_cases k3:v.kind=3
 .rw [Af k3] at hh
  simp only [Mn,↓Mm,bP,e2,a1,f0,l0,Aj k1,Aj k2,Ar k3]
  exact hh
 .rw [Ad k3] at hh
  simp only [Mn,↓Mm,bP,e2,f0,l0,Aj k1,Aj k2,Aj k3]
  exact hh
end
end Go.DD

/- Contracts: which values are valid, and fit a type, by the reference. Conditions: those that each theorem states. -/
namespace Go.DD
open Go Go.Proofs
theorem qS{n0 m i:Nat}{an refs lo:List Nat}{c:Bool}{ws:List Look}{ps:List Past}{id:Nat}{T:TypeId}{cs:List DV}(hr:∀ j∈refs,j=id)(hid:id<n0)(hp:∀ p∈ps,p.a.get id=some (.row T cs)/\p.b.get id=some (.row T cs))(hc:∀ c∈cs,Oz 6 c c=true)(h2:Qw n0 m ws ps=true):Qw n0 m (Gt i an true c refs n0 lo ws) ps=true:=
 sA (λj hj=>by
  rw [hr j hj]
  refine ⟨hid,λp Ao=>.inr (.inr ?_)⟩
  obtain ⟨h3,h4⟩:=hp p Ao
  cases c with
  | true=>rw [Af rfl];exact NV h3 (h4.trans h3.symm) hc
  | false=>rw [Ad (by simp)];simp [uM,h3,h4]) h2
section
variable (k:Nat) (hp:Tr DObj) (nx:Nat) (K:DV->Tr DObj->Nat->Prop)
end
end Go.DD

/- Contracts: coordinates of dimensions; cells. Conditions: those that each theorem states. -/
namespace Go.DD
open Go Go.Proofs
theorem wQ{d:List PDim}{x:List Int}{i:Nat}(h:i<d.length)(h2:i<x.length):gC (d.drop i) (x.drop i)=if x[i]<d[i].lo\/dO d[i]<x[i] then false else gC (d.drop (i+1)) (x.drop (i+1)):=by
 rw [Bb h,Bb h2];rfl
theorem wR{d:List PDim}{x:List Int}{i:Nat}(h:d.length<=i):gC (d.drop i) (x.drop i)=true:=by
 rw [Bc h];cases x.drop i <;> rfl
theorem Bx2{v:List PVal}{a:List PAttr}{i:Nat}(h:i<v.length)(h2:i<a.length):Nk (v.drop i) (a.drop i)=if Tz v[i] a[i].type=false then false else Nk (v.drop (i+1)) (a.drop (i+1)):=by
 rw [Bb h,Bb h2];rfl
theorem Bx3{v:List PVal}{a:List PAttr}{i:Nat}(h:v.length<=i):Nk (v.drop i) (a.drop i)=true:=by
 rw [Bc h];cases a.drop i <;> rfl
def PsOK(ps:List Past)(hp:Tr DObj)(n0:Nat):Prop:=∀ q∈ps,(∀ j,Bl n0 j->q.a.get j=hp.get j)/\∀ j,Bl n0 j->q.b.get j=hp.get j
theorem PsOK.nil(hp:Tr DObj)(n0:Nat):PsOK [] hp n0:=λq h=>by cases h
theorem PsOK.cons{hp:Tr DObj}{n0 i:Nat}{an:List Nat}{a b:Tr DObj}{ps:List Past}(h:PsOK ps hp n0)(h1:∀ j,j<n0->a.get j=hp.get j)(h2:∀ j,j<n0->b.get j=hp.get j):PsOK (⟨i,an,a,b⟩::ps) hp n0:=λq hq=>by
 rcases Aq.1 hq with rfl | hq
 .exact ⟨h1,h2⟩
 .exact h q hq
section
variable (k n0:Nat) (hp:Tr DObj) (nx:Nat) (K:DV->Tr DObj->Nat->Prop)
theorem GK(d x:DV)(l:List PDim)(m:List Int)(hn:n0<=nx)(h1:RL rDim hp (Bl n0) d l)(h2:RL rInt hp (Bl n0) x m)(hm:m.length<900000)(hK:∀ Ao Bk,Al hp nx Ao Bk->K (bv (sV l m)) Ao Bk):KW (kN (k+2)) (.fn 157) [d,x] hp nx K:=by
 refine En (Hm (by decide)) WO (Ab rfl) λes e1 e2 he=>?_
 have a0:Ae es (.t .o)=d:=he 0 _ rfl
 have a1:Ae es (.t (.l .o))=x:=he 1 _ rfl
 unfold DK
 by_cases c:m.length=l.length
 .have hb:sV l m=gC l m:=by unfold sV;rw [Ar c];rfl
  rw [hb] at hK
  simp only [Ax,↓Ba,a0,a1,e1,h1.len,h2.len,show decide (¬ m.length=l.length)=false by simp [c]]
  refine EW.up m.length (λi An=>Al hp nx An.hp An.nx/\Ae An (.t .o)=d/\Ae An (.t (.r (.l (.r .o))))=x/\Ae An (.t (.l (.r (.r .o))))=iv m.length/\Ae An (.t (.r (.r (.r .o))))=iv (i:Nat)/\gC l m=gC (l.drop i) (m.drop i)) ?_ ?_ (by omega)
  .rintro i An hi ⟨g,b0,Qe,Ta,b14,hc⟩
   unfold Cg3
   by_cases h:i<m.length
   .have h':i<l.length:=by omega
    have r1:=h1.ka hn g
    have r2:=h2.ka hn g
    rw [wQ h' h] at hc
    by_cases c1:m[i]<l[i].lo
    .rw [Af (.inl c1)] at hc
     rw [hc] at hK
     simp only [Ax,↓Ba,bP,b0,Qe,Ta,b14,h,lP r2 h,ints_at r2 h,B9 r1 h',Bw8 (k:=1) r1 h',(uO r1 h').2.2.2.1,c1]
     exact hK _ _ g
    .simp only [Ax,↓Ba,b0,Qe,Ta,b14,h,lP r2 h,ints_at r2 h,B9 r1 h',Bw8 (k:=1) r1 h',(uO r1 h').2.2.2.1,(uO r1 h').1,c1]
     refine Fl (Cp0 (k:=k) _ _ _ l[i] λDb Hz Dj=>?_)
     by_cases c2:dO l[i]<m[i]
     .rw [Af (.inr c2)] at hc
      rw [hc] at hK
      simp only [Ax,↓Ba,bP,c2]
      exact hK _ _ (g.trans Dj)
     .rw [Ad (by omega)] at hc
      simp only [Ax,↓Ba,b0,Qe,Ta,b14,h,c2,Jx (show i<_ by omega)]
      exact ⟨g.trans Dj,hc⟩
   .simp only [Ax,↓Ba,bP,Ta,b14,h]
    rw [wR (by omega)] at hc
    rw [hc] at hK
    exact hK _ _ g
  .simp only [Ax,a0,e1,e2]
 .have hb:sV l m=false:=by unfold sV;rw [Aj c];rfl
  rw [hb] at hK
  simp only [Ax,↓Ba,bP,a0,a1,e1,e2,h1.len,h2.len,c]
  exact hK _ _ (Al.refl _ _)
end
end Go.DD

/- Contracts: cells. Conditions: those that each theorem states. -/
namespace Go.DD
open Go Go.Proofs
theorem Xh{hp:Tr DObj}{id T:Nat}{a b:DV}(h:hp.get id=some (.row T [a,b])):(On hp 0 (.pt id 0)=some (.pt id 0)/\On hp 1 (.pt id 0)=some (.pt id 1))/\Gl hp none (.pt id 0)=some a/\Gl hp none (.pt id 1)=some b/\Gl hp (some 2) (.pt id 0)=some (.agg [a,b]):=by
 refine ⟨⟨Qq h,Qq h⟩,?_,?_,?_⟩ <;> rw [Ro h] <;> rfl
def dI(v:PVal):Prop:=v.s.size<900000
theorem wk{hp:Tr DObj}{p:Nat->Prop}{a b:DV}{c:PCell}(h1:RL rInt hp p a c.pos)(h2:RL rVal hp p b c.vals):Cd hp (.agg [a,b])=.agg [a,b]:=Wc λid hid=>by
 have:id∈a.refs\/id∈b.refs:=by simpa [DV.refs,DV.refsL] using hid
 exact this.elim (λh=>(h1.refs id h).2) λh=>(h2.refs id h).2
section
variable (k n0:Nat) (hp:Tr DObj) (nx:Nat) (K:DV->Tr DObj->Nat->Prop) (d a x y:DV) (l:List PDim) (m:List PAttr) (c:PCell) (hn:n0<=nx) (h1:RL rDim hp (Bl n0) d l) (h2:RL rAttr hp (Bl n0) a m) (h3:RL rInt hp (Bl n0) x c.pos) (h4:RL rVal hp (Bl n0) y c.vals) (hl:l.length<900000) (hm:m.length<900000) (hs:∀ v∈c.vals,dI v)
include hn h1 h2 h3 h4 hl hm hs
theorem Bx4(hK:∀ Ao Bk,Al hp nx Ao Bk->K (iv (Hb l m c)) Ao Bk):KW (kN (k+6)) (.fn 122) [d,a,.agg [x,y]] hp nx K:=by
 refine En (Hm (by decide)) XG (Ab rfl) λes e1 e2 he=>?_
 have a0:Ae es (.t .o)=d:=he 0 _ rfl
 have a1:Ae es (.t (.l .o))=a:=he 1 _ rfl
 have a2:Ae es (.t (.r .o))=.agg [x,y]:=he 2 _ rfl
 unfold EE
 simp only [↓Ba]
 refine Zo (cs:=[x,y]) (by rw [Hl,a2,e1];exact wk h3 h4) λEi Dm Cv=>?_
 simp only [bR,e1,e2] at Dm Cv
 obtain ⟨⟨f0,f1⟩,l0,l1,_⟩:=Xh Dm
 have Gb:Al hp nx Ei (nx+1):=⟨by omega,λj hj=>Cv j (by omega)⟩
 have r1:=h1.ka hn Gb
 have r2:=h2.ka hn Gb
 have r3:=h3.ka hn Gb
 have r4:=h4.ka hn Gb
 unfold Hb at hK
 by_cases c1:c.pos.length=l.length
 .by_cases c2:c.vals.length=m.length
  .rw [Ad (by omega)] at hK
   simp only [Ax,↓Ba,a0,a1,e2,f0,f1,l0,l1,r1.len,r2.len,r3.len,r4.len,show decide (¬ c.pos.length=l.length)=false by simp [c1],show decide (¬ c.vals.length=m.length)=false by simp [c2]]
   refine Fl (GK (k:=k+3) n0 _ _ _ d x l c.pos (by omega) r1 r3 (by omega) λDb Hz Dj=>?_)
   have Hj:=Dj.le
   have Ft:=(Dj.same nx (by omega)).trans Dm
   obtain ⟨⟨q0,q1⟩,m0,m1,_⟩:=Xh Ft
   have u4:=r4.ka (by omega:n0<=nx+1) Dj
   cases c3:sV l c.pos with
   | false=>
    rw [Af c3] at hK
    simp only [Ax,↓Ba,bP]
    exact hK _ _ (Gb.trans Dj)
   | true=>
    rw [Ad (by rw [c3];simp)] at hK
    simp only [Ax,↓Ba,e2,q1,m1,u4.len]
    refine EW.up c.vals.length (λi An=>Al hp nx An.hp An.nx/\Hz<=An.nx/\Ae An (.t (.l .o))=a/\Ae An (.t (.l (.r (.r (.r .o)))))=y/\Ae An (.t (.r (.r (.r (.r .o)))))=iv c.vals.length/\Ae An (.t (.l (.l (.l (.l (.l .o))))))=iv (i:Nat)/\Nk c.vals m=Nk (c.vals.drop i) (m.drop i)) ?_ ?_ (by omega)
    .rintro i An hi ⟨g,gn,b1,b29,qq,qo,hc⟩
     unfold Cf8
     have hle:=g.le
     by_cases h:i<c.vals.length
     .have h':i<m.length:=by omega
      have w4:=h4.ka hn g
      rw [Bx2 h h'] at hc
      simp only [Ax,↓Ba,b29,qq,qo,h,W4 w4 h,W7 w4 h]
      refine Vr λGr Ni Iz=>?_
      simp only [bR] at Ni Iz
      simp only [Ax,↓Ba]
      refine Uu (id:=An.nx) (ds:=vc c.vals[i]) (by simp only [bR]) Ni (by simp only [Hl,bR];exact fI rfl) rfl rfl λGz Mf Fp=>?_
      simp only [bR] at Mf Fp
      obtain ⟨_,_,_,_,_,t4⟩:=Zq Mf
      have g4:Al hp nx Gz (An.nx+1):=⟨by omega,λj hj=>by rw [Fp j (by omega),Iz j (by omega),g.same j hj]⟩
      have w2:=h2.ka hn g4
      simp only [Ax,↓Ba,b1,t4,R1 w2 h',Bl6 (k:=1) w2 h',(R3 w2 h').2.2.2,w2.rox (show n0<=An.nx+1 by omega),Y1 w2 (show n0<=An.nx+1 by omega),Ba5 w2 (show n0<=An.nx+1 by omega),Mp (n0:=An.nx+1) (m:=8) Mf (show An.nx<An.nx+1 by omega),B7 (show DV.refsL (vc c.vals[i])=[] from rfl)]
      refine Nt rfl (Xi ?_)
      simp only [bR,Ag,Ak]
      refine Bx1 (k:=k) _ _ _ c.vals[i] m[i].type (hs _ (Bh h)) λHp Jp Kr=>?_
      have Su:=Kr.le
      have g5:=(g4.nx (by omega:An.nx+1<=An.nx+1+8)).trans Kr
      cases c4:Tz c.vals[i] m[i].type with
      | false=>
       rw [Af c4] at hc
       rw [hc] at hK
       simp only [Ax,↓Ba,bP,Su]
       exact hK _ _ g5
      | true=>
       rw [Ad (by rw [c4];simp)] at hc
       simp only [Ax,↓Ba,b1,b29,qq,qo,h,Su,Jx (show i<_ by omega)]
       exact ⟨g5,by omega,hc⟩
     .simp only [Ax,↓Ba,bP,qq,qo,h]
      rw [Bx3 (by omega)] at hc
      rw [hc] at hK
      exact hK _ _ g
    .simp only [Ax,a1]
     exact Gb.trans Dj
  .rw [Af (.inr c2)] at hK
   simp only [Ax,↓Ba,bP,a0,a1,e2,f0,f1,l0,l1,r1.len,r2.len,r3.len,r4.len,show decide (¬ c.pos.length=l.length)=false by simp [c1],c2]
   exact hK _ _ Gb
 .rw [Af (.inl c1)] at hK
  simp only [Ax,↓Ba,bP,a0,e2,f0,l0,r1.len,r3.len,c1]
  exact hK _ _ Gb
end
end Go.DD

/- Contracts: which arrays are valid. Conditions: those that each theorem states. -/
namespace Go.DD
open Go Go.Proofs
theorem Uw{hp:Tr DObj}{id T:Nat}{a b c:DV}(h:hp.get id=some (.row T [a,b,c])):(On hp 0 (.pt id 0)=some (.pt id 0)/\On hp 1 (.pt id 0)=some (.pt id 1)/\On hp 2 (.pt id 0)=some (.pt id 2))/\Gl hp none (.pt id 0)=some a/\Gl hp none (.pt id 1)=some b/\Gl hp none (.pt id 2)=some c/\Gl hp (some 3) (.pt id 0)=some (.agg [a,b,c]):=by
 refine ⟨⟨Qq h,Qq h,Qq h⟩,?_,?_,?_,?_⟩ <;> rw [Ro h] <;> rfl
structure AOK (x:PArr):Prop where
 d:x.dims.length<900000
 a:x.attrs.length<900000
 c:x.cells.length<900000
 e:∀ c∈x.cells,c.pos.length<900000/\c.vals.length<900000/\∀ v∈c.vals,dI v
structure AR (hp:Tr DObj) (p:Nat->Prop) (d:DV) (x:PArr):Prop where
 ex:∃ a b c,d=.agg [a,b,c]/\RL rDim hp p a x.dims/\RL rAttr hp p b x.attrs/\RL rCell hp p c x.cells
theorem AR.live{hp:Tr DObj}{p:Nat->Prop}{a b c:DV}{x:PArr}(h1:RL rDim hp p a x.dims)(h2:RL rAttr hp p b x.attrs)(h3:RL rCell hp p c x.cells):Cd hp (.agg [a,b,c])=.agg [a,b,c]:=Wc λid hid=>by
 have:id∈a.refs\/id∈b.refs\/id∈c.refs:=by simpa [DV.refs,DV.refsL] using hid
 rcases this with h | h | h
 .exact (h1.refs id h).2
 .exact (h2.refs id h).2
 .exact (h3.refs id h).2
def Tp(l:List PCell)(i:Nat):Option PCell:=match i with
 | 0=>none
 | i+1=>l[i]?
theorem A4{d:List PDim}{a:List PAttr}{l:List PCell}(h:0<l.length):Qr d a (Tp l 0) (l.drop 0)=if Hb d a l[0]≠0 then Hb d a l[0] else Qr d a (Tp l 1) (l.drop 1):=by
 have e1:Tp l 1=some l[0]:=Aa h
 rw [Bb h,e1]
 rfl
theorem A3{d:List PDim}{a:List PAttr}{l:List PCell}{i:Nat}(h:i+1<l.length):Qr d a (Tp l (i+1)) (l.drop (i+1))=if Hb d a l[i+1]≠0 then Hb d a l[i+1] else if Cq l[i].pos l[i+1].pos=0 then 5 else if Cq l[i].pos l[i+1].pos=1 then 2 else Qr d a (Tp l (i+2)) (l.drop (i+2)):=by
 have e1:Tp l (i+1)=some l[i]:=Aa (by omega)
 have e2:Tp l (i+2)=some l[i+1]:=Aa h
 rw [Bb h,e1,e2]
 rfl
section
variable (k n0:Nat) (hp:Tr DObj) (nx:Nat) (K:DV->Tr DObj->Nat->Prop) (d:DV) (x:PArr) (hn:n0<=nx) (h0:AR hp (Bl n0) d x) (ho:AOK x)
include hn h0 ho
theorem SH(hK:∀ Ao Bk,Al hp nx Ao Bk->K (iv (Mo x)) Ao Bk):KW (kN (k+7)) (.fn 57) [d] hp nx K:=by
 obtain ⟨d,a,c,rfl,h1,h2,h3⟩:=h0
 refine En (Hm (by decide)) t57 (Ab rfl) λes e1 e2 he=>?_
 have a0:Ae es (.t .o)=.agg [d,a,c]:=he 0 _ rfl
 unfold zq
 simp only [↓Ba]
 refine Zo (cs:=[d,a,c]) (by rw [Hl,a0,e1];exact AR.live h1 h2 h3) λEi Dm Cv=>?_
 simp only [bR,e1,e2] at Dm Cv
 obtain ⟨⟨f0,f1,f2⟩,l0,l1,l2,_⟩:=Uw Dm
 have Gb:Al hp nx Ei (nx+1):=⟨by omega,λj hj=>Cv j (by omega)⟩
 unfold Mo at hK
 simp only [Ax,↓Ba,e2,f0,f1,l0,l1]
 refine Fl (Ba6 (k:=k+3) n0 _ _ _ d a x.dims x.attrs (by omega) (h1.ka hn Gb) (h2.ka hn Gb) λDb Hz Dj=>?_)
 have Hj:=Dj.le
 have Ft:=(Dj.same nx (by omega)).trans Dm
 obtain ⟨⟨f0,f1,f2⟩,l0,l1,l2,_⟩:=Uw Ft
 have jG:=Gb.trans Dj
 have r3:=h3.ka hn jG
 by_cases c1:jS x.dims x.attrs=0
 .rw [Ad (by simp [c1])] at hK
  simp only [Mn,↓Mm,e2,f2,l2,r3.len,show decide (¬ jS x.dims x.attrs=0)=false by simp [c1]]
  refine A0 (λc2=>?_) (λc2=>?_)
  .rw [Af (by simp at c2;omega)] at hK
   simp only [Mn,↓Mm,bP]
   exact hK _ _ jG
  .rw [Ad (by simp at c2;omega)] at hK
   simp only [Mn,↓Mm,e2,f2,l2,r3.len]
   refine EW.up x.cells.length (λi An=>Al hp nx An.hp An.nx/\nx<An.nx/\An.hp.get nx=some (.row 26 [d,a,c])/\Ae An (.t (.l .o))=.pt nx 0/\Ae An (.t (.r (.l (.r (.l .o)))))=c/\Ae An (.t (.l (.r (.r (.l .o)))))=iv x.cells.length/\Ae An (.t (.r (.r (.r (.l .o)))))=iv (i:Nat)/\Qr x.dims x.attrs none x.cells=Qr x.dims x.attrs (Tp x.cells i) (x.cells.drop i)) ?_ ?_ (by have:=ho.c;omega)
   .rintro i An hi ⟨g,gn,hg,b1,V7,B1,P4,hc⟩
    unfold xU
    have hoc:=ho.c
    by_cases h:i<x.cells.length
    .have w1:=h1.ka hn g
     have w2:=h2.ka hn g
     have w3:=h3.ka hn g
     obtain ⟨p,v,rp,rv,lc,_⟩:=Ev w3 h
     simp only [Ax,↓Ba,V7,B1,P4,h,dC w3 h,lc]
     refine Vr λGr Ni Iz=>?_
     simp only [bR] at Ni Iz
     have g3:Al hp nx Gr (An.nx+1):=⟨by omega,λj hj=>by rw [Iz j (by omega),g.same j hj]⟩
     have BZ:=rp.keep λj (hj:j<n0)=>Iz j (by omega)
     have BY:=rv.keep λj (hj:j<n0)=>Iz j (by omega)
     simp only [Ax,↓Ba]
     refine Uu (id:=An.nx) (ds:=[p,v]) (by simp only [bR]) Ni (by simp only [Hl,bR];exact wk BZ BY) rfl rfl λGz Mf Fp=>?_
     simp only [bR] at Mf Fp
     have Yc:Gz.get nx=some (.row 26 [d,a,c]):=by rw [Fp nx (by omega),Iz nx (by omega),hg]
     obtain ⟨⟨q0,q1,q2⟩,m0,m1,m2,_⟩:=Uw Yc
     obtain ⟨⟨t0,t1⟩,u0,u1,u2⟩:=Xh Mf
     have g4:Al hp nx Gz (An.nx+1):=g3.new (Ai _) λj hj=>Fp j (by omega)
     have yi:=BZ.keep λj (hj:j<n0)=>Fp j (by omega)
     have rv4:=BY.keep λj (hj:j<n0)=>Fp j (by omega)
     have tY:=ho.e _ (Bh h)
     simp only [Ax,↓Ba,b1,q0,q1,m0,m1,u2]
     refine Fl (Bx4 k n0 _ _ _ d a p v x.dims x.attrs x.cells[i] (by omega) (h1.ka hn g4) (h2.ka hn g4) yi rv4 ho.d ho.a tY.2.2 λHp Jp Kr=>?_)
     have Su:=Kr.le
     have g5:=g4.trans Kr
     have tT:=(Kr.same nx (by omega)).trans Yc
     have Qb:=(Kr.same An.nx (by omega)).trans Mf
     by_cases c3:Hb x.dims x.attrs x.cells[i]=0
     .cases i with
      | zero=>
       rw [A4 h,Ad (by simp [c3])] at hc
       simp only [Ax,↓Ba,b1,V7,B1,P4,h,show decide (¬ Hb x.dims x.attrs x.cells[0]=0)=false by simp [c3],show Ds .add (.v (.int .i64 0)) (.v (.int .i64 1))=some (.v (.int .i64 1)) from rfl]
       exact ⟨g5,by omega,tT,by rfl,hc⟩
      | succ i=>
       rw [A3 h,Ad (by simp [c3])] at hc
       have hi0:¬ ((i+1:Nat):Int)=0:=by omega
       have Ow:Ds .sub (.v (.int .i64 ((i+1:Nat):Int))) (.v (.int .i64 1))=some (.v (.int .i64 (i:Int))):=by rw [Ml,Eo (by omega)];congr 3;omega
       obtain ⟨⟨q0,q1,q2⟩,m0,m1,m2,_⟩:=Uw tT
       obtain ⟨⟨t0,t1⟩,u0,u1,u2⟩:=Xh Qb
       have w5:=h3.ka hn g5
       have Xe:i<x.cells.length:=by omega
       obtain ⟨p',v',ym,rv',_,_,lp',_⟩:=Ev w5 Xe
       have yh:=yi.keep λj (hj:j<n0)=>Kr.same j (by omega)
       simp only [Ax,↓Ba,b1,show decide (¬ Hb x.dims x.attrs x.cells[i+1]=0)=false by simp [c3],hi0,Ow,q2,m2,t0,u0,dC w5 Xe,C6 (k:=0) w5 Xe,lp',w5.rox (show n0<=Jp by omega),R7 w5 (show n0<=Jp by omega),vd w5 (show n0<=Jp by omega),Mp (n0:=Jp) (m:=10) tT (show nx<Jp by omega),Mp (n0:=Jp) (m:=10) Qb (show An.nx<Jp by omega),ym.rox (show n0<=Jp by omega),yh.rox (show n0<=Jp by omega)]
       refine Nt rfl (Xi ?_)
       simp only [bR,Ag,Ak]
       refine D0 (k:=k+2) n0 _ _ _ p' p _ _ (by omega) ym yh (ho.e _ (Bh Xe)).1 ?_
       have g6:Al hp nx Hp (Jp+10):=g5.nx (by omega)
       by_cases c4:Cq x.cells[i].pos x.cells[i+1].pos=0
       .rw [Af c4] at hc
        rw [hc] at hK
        simp only [Ax,↓Ba,bP,Ar c4]
        exact hK _ _ g6
       .rw [Ad c4] at hc
        by_cases c5:Cq x.cells[i].pos x.cells[i+1].pos=1
        .rw [Af c5] at hc
         rw [hc] at hK
         simp only [Ax,↓Ba,bP,Aj c4,Ar c5]
         exact hK _ _ g6
        .rw [Ad c5] at hc
         simp only [Ax,↓Ba,b1,V7,B1,P4,h,Aj c4,Aj c5,Jx (show i+1<_ by have:=ho.c;omega)]
         exact ⟨g6,by omega,tT,hc⟩
     .have Yg:Qr x.dims x.attrs none x.cells=Hb x.dims x.attrs x.cells[i]:=by
       cases i with
       | zero=>rw [hc,A4 h,Af c3]
       | succ i=>rw [hc,A3 h,Af c3]
      rw [Yg] at hK
      simp only [Ax,↓Ba,bP,c3]
      exact hK _ _ g5
    .simp only [Ax,↓Ba,bP,B1,P4,h]
     have e:x.cells.drop i=[]:=Bc (by omega)
     have Yg:Qr x.dims x.attrs none x.cells=0:=by
      rw [hc,e]
      cases Tp x.cells i <;> rfl
     rw [Yg] at hK
     exact hK _ _ g
   .simp only [Ax]
    exact ⟨jG,by omega,Ft,rfl⟩
 .rw [Af c1] at hK
  simp only [Ax,↓Ba,bP,c1]
  exact hK _ _ jG
end
end Go.DD

/- Contracts: which arrays are valid, by the reference. Conditions: those that each theorem states. -/
namespace Go.DD
open Go Go.Proofs
section
variable (k n0:Nat) (hp:Tr DObj) (nx:Nat) (K:DV->Tr DObj->Nat->Prop)
variable (d:DV) (x:PArr) (hn:n0<=nx) (h0:AR hp (Bl n0) d x) (ho:AOK x)
include hn h0 ho
end
end Go.DD

/- Contracts: which arrays are examined. Conditions: those that each theorem states. -/
namespace Go.DD
open Go Go.Proofs
section
variable (k n0:Nat) (hp:Tr DObj) (nx:Nat) (K:DV->Tr DObj->Nat->Prop)
end
end Go.DD

/- Contracts: copies of lists; arrays of the same dimensions and attributes. Conditions: those that each theorem states. -/
namespace Go.DD
open Go Go.Proofs
section
variable {α:Type} {R:Rep α} {hp Ao:Tr DObj} {p q:Nat->Prop} {d:DV} {l:List α}
theorem RL.notnil(h:RL R hp p d l)(hl:l≠[]):isNil 0 d=some false:=by
 cases h with
 | nil=>exact absurd rfl hl
 | sl=>
  show (if 0<l.length then some false else none)=_
  rw [Af (by cases l with | nil=>exact absurd rfl hl | cons=>simp)]
 | ms id off fl l h hid mC hr hs=>
  show (if 0<l.length then some false else none)=_
  rw [Af (by cases l with | nil=>exact absurd rfl hl | cons=>simp)]
theorem RL.sl0(h:RL R hp p (.sl [] 0) l):l=[]:=by
 have:=h.len
 have e:Qo hp (.sl [] 0)=some (.v (.int .i64 ((0:Nat):Int))):=rfl
 rw [e] at this
 simp at this
 exact Ef (by omega)
theorem RL.nil0(h:RL R hp p Cl l):l=[]:=by
 have:=h.len
 have e:Qo hp Cl=some (.v (.int .i64 ((0:Nat):Int))):=rfl
 rw [e] at this
 simp at this
 exact Ef (by omega)
def OLs(R:Rep α)(hp:Tr DObj)(p:Nat->Prop)(d:DV)(l:List α):Prop:=OL R hp p d l\/(l=[]/\d=.sl [] 0)
theorem OLs.rl{n n':Nat}(h:OLs R hp p d l)(hr:Rng n n' d):RL R hp (λj=>p j\/Bw n n' j) d l:=by
 rcases h with h | ⟨rfl,rfl⟩
 .exact h.rl.mono λj hj=>hj.imp id λh=>hr j h
 .exact .sl []
theorem OLs.rlF{n n':Nat}(h:OLs R hp (λ_=>False) d l)(hr:Rng n n' d):RL R hp (Bw n n') d l:=(h.rl hr).mono λ_ hj=>hj.elim False.elim id
def Nn(d:DV)(l:List α):Prop:=l≠[]\/d=Cl\/d=.sl [] 0
end
theorem RV(n n':Nat):Rng n n' (.sl [] 0):=λ_ h=>by cases h
theorem lW:isNil 0 (Qt (.slice none 0 0))=some true:=rfl
theorem NQ{α:Type}{R:Rep α}{hp Ao:Tr DObj}{p q:Nat->Prop}(hf:∀ {ds:List DV} {x:α},R.rd hp p ds x->R.rd Ao q ds x):∀ {l:List α} {ds:List DV},Rows R hp p ds l->Rows R Ao q ds l
 | [],_,h=>h
 | _::_,_,⟨a,b,e,h1,h2⟩=>⟨a,b,e,hf h1,NQ hf h2⟩
theorem vb(k n0:Nat)(hp:Tr DObj)(nx:Nat)(K:DV->Tr DObj->Nat->Prop)(d:DV)(l:List Int)(hn:n0<=nx)(h1:RL rInt hp (Bl n0) d l)(kO:Nn d l)(hl:l.length<2000000000)(hK:∀ Ao Bk d',Al hp nx Ao Bk->OLs rInt Ao (λ_=>False) d' l->Rng nx Bk d'->Nn d' l->K d' Ao Bk):KW (kN (k+1)) (.fn 70) [d] hp nx K:=by
 rcases kO with Ha | rfl | rfl
 .have hr:Lg 70 [d]=none:=by
   unfold Lg
   rw [Ad (by decide),Af (by decide)]
   split
   .rename_i e
    exact absurd (by cases h1 <;> simp_all) Ha
   .rfl
  refine En hr ya (Ab rfl) λes e1 e2 he=>?_
  have a0:Ae es (.t .o)=d:=he 0 _ rfl
  subst e1 e2
  unfold YE
  simp only [Ax,↓Ba,a0]
  refine iJ false (by simp only [Cg,bR,bP,h1.live];exact h1.notnil Ha) lW ?_
  simp only [Ax,↓Ba]
  refine Vt (fl:=[]) (by rfl) (by rfl) λEi Dm Cv=>?_
  simp only [bR] at Dm Cv
  simp only [Ax,↓Ba,a0]
  have r1:RL rInt Ei (Bl n0) d l:=h1.keep λj (hj:j<n0)=>Cv j (by omega)
  refine jT (R:=rInt) (p:=(λ_=>False)) (p2:=(λ_=>False)) (d:=.ms es.nx 0 0 rInt.e) (d2:=d) (l:=[]) (m:=l) (by simp only [bR,bP];rfl) (.ms es.nx [] [] Dm rfl) (by simp only [Cg,bR,bP];exact r1.live) ((by obtain ⟨ds,q1,q2⟩:=r1.srcD (es:=⟨_,Ei,_⟩);exact ⟨ds,q1,NQ (p:=Bl n0) (q:=λ_=>False) (λh=>h) q2⟩)) rfl rfl (by simp;omega) (by decide) λDb Et h2=>?_
  simp only [bR,Bv] at Et h2
  have h3:=h2 (λ_=>False) (λj hj=>(hj.elim False.elim False.elim:False).elim)
  simp only [Ax,↓Ba,bP,h3.rl.live]
  refine hK _ _ _ ⟨by omega,λj hj=>?_⟩ (.inl h3) (Rng.ms (by omega) (by omega)) (.inl Ha)
  rw [Et j (by omega) (by simp [DV.refs];omega),Cv j (by omega)]
 .have cK:l=[]:=h1.nil0
  subst cK
  have hr:Lg 70 [Cl]=none:=by
   unfold Lg
   rw [Ad (by decide),Af (by decide)]
   rfl
  refine En hr ya (Ab rfl) λes e1 e2 he=>?_
  have a0:Ae es (.t .o)=Cl:=he 0 _ rfl
  subst e1 e2
  unfold YE
  simp only [Ax,↓Ba,a0]
  refine iJ true (by simp only [Cg,bR,bP,Cl,Ns];rfl) lW ?_
  simp only [Ax,↓Ba,bP]
  exact hK _ _ Cl (Al.refl _ _) (.inl .nil) (Rng.nil _ _) (.inr (.inl rfl))
 .have cK:l=[]:=h1.sl0
  subst cK
  exact NZ (d:=.sl [] 0) (by unfold Lg;rw [Ad (by decide),Af (by decide)];rfl) (hK _ _ _ (Al.refl _ _) (.inr ⟨rfl,rfl⟩) (RV _ _) (.inr (.inr rfl)))
theorem Ba7(k n0:Nat)(hp:Tr DObj)(nx:Nat)(K:DV->Tr DObj->Nat->Prop)(d:DV)(l:List PVal)(hn:n0<=nx)(h1:RL rVal hp (Bl n0) d l)(kO:Nn d l)(hl:l.length<2000000000)(hK:∀ Ao Bk d',Al hp nx Ao Bk->OLs rVal Ao (λ_=>False) d' l->Rng nx Bk d'->Nn d' l->K d' Ao Bk):KW (kN (k+1)) (.fn 142) [d] hp nx K:=by
 rcases kO with Ha | rfl | rfl
 .have hr:Lg 142 [d]=none:=by
   unfold Lg
   rw [Ad (by decide),Af (by decide)]
   split
   .rename_i e
    exact absurd (by cases h1 <;> simp_all) Ha
   .rfl
  refine En hr BM (Ab rfl) λes e1 e2 he=>?_
  have a0:Ae es (.t .o)=d:=he 0 _ rfl
  subst e1 e2
  unfold G4
  simp only [Ax,↓Ba,a0]
  refine iJ false (by simp only [Cg,bR,bP,h1.live];exact h1.notnil Ha) lW ?_
  simp only [Ax,↓Ba]
  refine Vt (fl:=[]) (by rfl) (by rfl) λEi Dm Cv=>?_
  simp only [bR] at Dm Cv
  simp only [Ax,↓Ba,a0]
  have r1:RL rVal Ei (Bl n0) d l:=h1.keep λj (hj:j<n0)=>Cv j (by omega)
  refine jT (R:=rVal) (p:=(λ_=>False)) (p2:=(λ_=>False)) (d:=.ms es.nx 0 0 rVal.e) (d2:=d) (l:=[]) (m:=l) (by simp only [bR,bP];rfl) (.ms es.nx [] [] Dm rfl) (by simp only [Cg,bR,bP];exact r1.live) ((by obtain ⟨ds,q1,q2⟩:=r1.srcD (es:=⟨_,Ei,_⟩);exact ⟨ds,q1,NQ (p:=Bl n0) (q:=λ_=>False) (λh=>h) q2⟩)) rfl rfl (by simp;omega) (by decide) λDb Et h2=>?_
  simp only [bR,Bv] at Et h2
  have h3:=h2 (λ_=>False) (λj hj=>(hj.elim False.elim False.elim:False).elim)
  simp only [Ax,↓Ba,bP,h3.rl.live]
  refine hK _ _ _ ⟨by omega,λj hj=>?_⟩ (.inl h3) (Rng.ms (by omega) (by omega)) (.inl Ha)
  rw [Et j (by omega) (by simp [DV.refs];omega),Cv j (by omega)]
 .have cK:l=[]:=h1.nil0
  subst cK
  have hr:Lg 142 [Cl]=none:=by
   unfold Lg
   rw [Ad (by decide),Af (by decide)]
   rfl
  refine En hr BM (Ab rfl) λes e1 e2 he=>?_
  have a0:Ae es (.t .o)=Cl:=he 0 _ rfl
  subst e1 e2
  unfold G4
  simp only [Ax,↓Ba,a0]
  refine iJ true (by simp only [Cg,bR,bP,Cl,Ns];rfl) lW ?_
  simp only [Ax,↓Ba,bP]
  exact hK _ _ Cl (Al.refl _ _) (.inl .nil) (Rng.nil _ _) (.inr (.inl rfl))
 .have cK:l=[]:=h1.sl0
  subst cK
  exact NZ (d:=.sl [] 0) (by unfold Lg;rw [Ad (by decide),Af (by decide)];rfl) (hK _ _ _ (Al.refl _ _) (.inr ⟨rfl,rfl⟩) (RV _ _) (.inr (.inr rfl)))
theorem Bx5(k n0:Nat)(hp:Tr DObj)(nx:Nat)(K:DV->Tr DObj->Nat->Prop)(d:DV)(l:List PDim)(hn:n0<=nx)(h1:RL rDim hp (Bl n0) d l)(kO:Nn d l)(hl:l.length<2000000000)(hK:∀ Ao Bk d',Al hp nx Ao Bk->OLs rDim Ao (λ_=>False) d' l->Rng nx Bk d'->Nn d' l->K d' Ao Bk):KW (kN (k+1)) (.fn 162) [d] hp nx K:=by
 rcases kO with Ha | rfl | rfl
 .have hr:Lg 162 [d]=none:=by
   unfold Lg
   rw [Ad (by decide),Af (by decide)]
   split
   .rename_i e
    exact absurd (by cases h1 <;> simp_all) Ha
   .rfl
  refine En hr BK (Ab rfl) λes e1 e2 he=>?_
  have a0:Ae es (.t .o)=d:=he 0 _ rfl
  subst e1 e2
  unfold G2
  simp only [Ax,↓Ba,a0]
  refine iJ false (by simp only [Cg,bR,bP,h1.live];exact h1.notnil Ha) lW ?_
  simp only [Ax,↓Ba]
  refine Vt (fl:=[]) (by rfl) (by rfl) λEi Dm Cv=>?_
  simp only [bR] at Dm Cv
  simp only [Ax,↓Ba,a0]
  have r1:RL rDim Ei (Bl n0) d l:=h1.keep λj (hj:j<n0)=>Cv j (by omega)
  refine jT (R:=rDim) (p:=(λ_=>False)) (p2:=(λ_=>False)) (d:=.ms es.nx 0 0 rDim.e) (d2:=d) (l:=[]) (m:=l) (by simp only [bR,bP];rfl) (.ms es.nx [] [] Dm rfl) (by simp only [Cg,bR,bP];exact r1.live) ((by obtain ⟨ds,q1,q2⟩:=r1.srcD (es:=⟨_,Ei,_⟩);exact ⟨ds,q1,NQ (p:=Bl n0) (q:=λ_=>False) (λh=>h) q2⟩)) rfl rfl (by simp;omega) (by decide) λDb Et h2=>?_
  simp only [bR,Bv] at Et h2
  have h3:=h2 (λ_=>False) (λj hj=>(hj.elim False.elim False.elim:False).elim)
  simp only [Ax,↓Ba,bP,h3.rl.live]
  refine hK _ _ _ ⟨by omega,λj hj=>?_⟩ (.inl h3) (Rng.ms (by omega) (by omega)) (.inl Ha)
  rw [Et j (by omega) (by simp [DV.refs];omega),Cv j (by omega)]
 .have cK:l=[]:=h1.nil0
  subst cK
  have hr:Lg 162 [Cl]=none:=by
   unfold Lg
   rw [Ad (by decide),Af (by decide)]
   rfl
  refine En hr BK (Ab rfl) λes e1 e2 he=>?_
  have a0:Ae es (.t .o)=Cl:=he 0 _ rfl
  subst e1 e2
  unfold G2
  simp only [Ax,↓Ba,a0]
  refine iJ true (by simp only [Cg,bR,bP,Cl,Ns];rfl) lW ?_
  simp only [Ax,↓Ba,bP]
  exact hK _ _ Cl (Al.refl _ _) (.inl .nil) (Rng.nil _ _) (.inr (.inl rfl))
 .have cK:l=[]:=h1.sl0
  subst cK
  exact NZ (d:=.sl [] 0) (by unfold Lg;rw [Ad (by decide),Af (by decide)];rfl) (hK _ _ _ (Al.refl _ _) (.inr ⟨rfl,rfl⟩) (RV _ _) (.inr (.inr rfl)))
theorem Bx6(k n0:Nat)(hp:Tr DObj)(nx:Nat)(K:DV->Tr DObj->Nat->Prop)(d:DV)(l:List PAttr)(hn:n0<=nx)(h1:RL rAttr hp (Bl n0) d l)(kO:Nn d l)(hl:l.length<2000000000)(hK:∀ Ao Bk d',Al hp nx Ao Bk->OLs rAttr Ao (λ_=>False) d' l->Rng nx Bk d'->Nn d' l->K d' Ao Bk):KW (kN (k+1)) (.fn 163) [d] hp nx K:=by
 rcases kO with Ha | rfl | rfl
 .have hr:Lg 163 [d]=none:=by
   unfold Lg
   rw [Ad (by decide),Af (by decide)]
   split
   .rename_i e
    exact absurd (by cases h1 <;> simp_all) Ha
   .rfl
  refine En hr BI (Ab rfl) λes e1 e2 he=>?_
  have a0:Ae es (.t .o)=d:=he 0 _ rfl
  subst e1 e2
  unfold G1
  simp only [Ax,↓Ba,a0]
  refine iJ false (by simp only [Cg,bR,bP,h1.live];exact h1.notnil Ha) lW ?_
  simp only [Ax,↓Ba]
  refine Vt (fl:=[]) (by rfl) (by rfl) λEi Dm Cv=>?_
  simp only [bR] at Dm Cv
  simp only [Ax,↓Ba,a0]
  have r1:RL rAttr Ei (Bl n0) d l:=h1.keep λj (hj:j<n0)=>Cv j (by omega)
  refine jT (R:=rAttr) (p:=(λ_=>False)) (p2:=(λ_=>False)) (d:=.ms es.nx 0 0 rAttr.e) (d2:=d) (l:=[]) (m:=l) (by simp only [bR,bP];rfl) (.ms es.nx [] [] Dm rfl) (by simp only [Cg,bR,bP];exact r1.live) ((by obtain ⟨ds,q1,q2⟩:=r1.srcD (es:=⟨_,Ei,_⟩);exact ⟨ds,q1,NQ (p:=Bl n0) (q:=λ_=>False) (λh=>h) q2⟩)) rfl rfl (by simp;omega) (by decide) λDb Et h2=>?_
  simp only [bR,Bv] at Et h2
  have h3:=h2 (λ_=>False) (λj hj=>(hj.elim False.elim False.elim:False).elim)
  simp only [Ax,↓Ba,bP,h3.rl.live]
  refine hK _ _ _ ⟨by omega,λj hj=>?_⟩ (.inl h3) (Rng.ms (by omega) (by omega)) (.inl Ha)
  rw [Et j (by omega) (by simp [DV.refs];omega),Cv j (by omega)]
 .have cK:l=[]:=h1.nil0
  subst cK
  have hr:Lg 163 [Cl]=none:=by
   unfold Lg
   rw [Ad (by decide),Af (by decide)]
   rfl
  refine En hr BI (Ab rfl) λes e1 e2 he=>?_
  have a0:Ae es (.t .o)=Cl:=he 0 _ rfl
  subst e1 e2
  unfold G1
  simp only [Ax,↓Ba,a0]
  refine iJ true (by simp only [Cg,bR,bP,Cl,Ns];rfl) lW ?_
  simp only [Ax,↓Ba,bP]
  exact hK _ _ Cl (Al.refl _ _) (.inl .nil) (Rng.nil _ _) (.inr (.inl rfl))
 .have cK:l=[]:=h1.sl0
  subst cK
  exact NZ (d:=.sl [] 0) (by unfold Lg;rw [Ad (by decide),Af (by decide)];rfl) (hK _ _ _ (Al.refl _ _) (.inr ⟨rfl,rfl⟩) (RV _ _) (.inr (.inr rfl)))
def rCells:Rep (List PCell):=Sc rCell 24
end Go.DD

/- Contracts: arrays that are alike; where coordinates lie in an array. Conditions: those that each theorem states. -/
namespace Go.DD
open Go Go.Proofs
def Rg(l:List PCell):Prop:=∀ i j,(h:i<j)->(h2:j<l.length)->Cq (l[i]'(by omega)).pos l[j].pos = -1
def Th(l:List PCell)(x:List Int):List PVal:=match l.find? (λc=>decide (c.pos=x)) with
 | some c=>c.vals
 | none=>[]
theorem A24{l m:List Int}(h:Cq l m = -1):l≠m:=λe=>by rw [cmpL_0.2 e] at h;cases h
theorem Bp4{l:List PCell}(hs:Rg l){i:Nat}(hi:i<l.length):Th l l[i].pos=l[i].vals:=by
 have:l.find? (λc=>decide (c.pos=l[i].pos))=some l[i]:=by
  rw [List.find?_eq_some_iff_getElem]
  refine ⟨by simp,i,hi,rfl,λj hj=>?_⟩
  have:=A24 (hs j i hj hi)
  simpa using this
 unfold Th
 rw [this]
theorem Bp5{l:List PCell}{x:List Int}(h:∀ j,(h:j<l.length)->l[j].pos≠x):Th l x=[]:=by
 have:l.find? (λc=>decide (c.pos=x))=none:=by
  rw [List.find?_eq_none]
  intro c hc
  obtain ⟨j,hj,rfl⟩:=Bq.1 hc
  simpa using h j hj
 unfold Th
 rw [this]
section
variable (k n0:Nat) (hp:Tr DObj) (nx:Nat) (K:DV->Tr DObj->Nat->Prop)
end
end Go.DD

/- Contracts: cells are merged and sorted. Conditions: those that each theorem states. -/
namespace Go.DD
open Go Go.Proofs
theorem RL.sliE{α:Type}{R:Rep α}{hp:Tr DObj}{p:Nat->Prop}{d:DV}{l:List α}(hd:RL R hp p d l){a z e:Nat}{lo hi:Option DV}(he:e=R.e)(Gg:iD 0 lo=some (a:Int))(Sw:∀ n:Int,n=l.length->iD n hi=some (z:Int))(haz:a<=z)(hz:z<=l.length):Go.DD.sliE e d lo hi=some (lY R.e a z d):=by
 subst he
 cases hd with
 | nil=>
  have ha:a=0/\z=0:=by simp at hz;omega
  obtain ⟨rfl,rfl⟩:=ha
  have hh:=Sw 0 rfl
  unfold Go.DD.sliE
  simp only [Cl,Gg,hh]
  rfl
 | sl=>
  have hh:=Sw l.length rfl
  unfold Go.DD.sliE
  simp only [Gg,hh]
  rw [Af ⟨by omega,by omega,by omega⟩]
  simp only [Hc];rfl
 | ms id off fl l hg hid hl hr hs=>
  have hh:=Sw l.length rfl
  unfold Go.DD.sliE
  simp only [Gg,hh]
  rw [Af ⟨trivial,by omega,by omega,by omega⟩]
  simp only [Hc]
  have e2:((a:Int)<(z:Int)\/(a:Int)=0)↔(a<z\/a=0):=by omega
  unfold lY
  simp only [e2]
theorem NP{hp:Tr DObj}{p:Nat->Prop}{d:DV}{l:List PCell}(h:RL rCell hp p d l)(hi:0<l.length):Rr hp 2 d (.v (.int .i64 0))=some (Ca 2 d 0):=h.ia hi
section
variable (k n0:Nat) (hp:Tr DObj) (nx:Nat) (K:DV->Tr DObj->Nat->Prop)
end
end Go.DD

/- Contracts: cells are sorted. Conditions: those that each theorem states. -/
namespace Go.DD
open Go Go.Proofs
theorem RL.ro'{α:Type}{R:Rep α}{hp:Tr DObj}{p:Nat->Prop}{d:DV}{l:List α}{n m:Nat}{an:List Nat}(h:RL R hp p d l)(ho:∀ j,p j->j<n\/n+m<=j):Ii d (λid=>Cs n m an hp id):=λid hid=>(sC hp id).2 ⟨(h.refs id hid).2,(ho id (h.refs id hid).1).imp (λh=>h) .inl⟩
end Go.DD

/- Contracts: the coordinates of some arrays. Conditions: those that each theorem states. -/
namespace Go.DD
open Go Go.Proofs
def rChange:Rep PCell:=iN Qh wH 62 PCell.pos PCell.vals
theorem rChange_rd{hp:Tr DObj}{p:Nat->Prop}{ds:List DV}{x:PCell} : rChange.rd hp p ds x↔∃ a b,ds=[a,b]/\RL rInt hp p a x.pos/\RL rVal hp p b x.vals:=rCell_rd
section
variable (k n0:Nat) (hp:Tr DObj) (nx:Nat) (K:DV->Tr DObj->Nat->Prop)
end
end Go.DD

/- Contracts: the reference's difference of two arrays. Conditions: those that each theorem states. -/
namespace Go.DD
open Go Go.Proofs
theorem MY{z w:Value}{a b:DV}(h1:a.okC=true/\a.cells=[a])(h2:b.okC=true/\b.cells=[b]):Ia [DV.v z,DV.v w] [(0,1,a),(1,1,b)]=some [a,b]:=by
 simp [Ia,h1.1,h1.2,h2.1,h2.2]
theorem C07{z:List Value}{a b:DV}(hz:z.length=2):Ia (List.replicate 1 (z.map DV.v)).flatten [(0,2,.agg [a,b])]=some [a,b]:=by
 match z,hz with
 | [u,v],_=>rfl
theorem AR.rox{hp:Tr DObj}{n0 n m:Nat}{an:List Nat}{a b c:DV}{x:PArr}(h1:RL rDim hp (Bl n0) a x.dims)(h2:RL rAttr hp (Bl n0) b x.attrs)(h3:RL rCell hp (Bl n0) c x.cells)(hn:n0<=n):Ii (.agg [a,b,c]) (λid=>Cs n m an hp id):=λid hid=>by
 have:id∈a.refs\/id∈b.refs\/id∈c.refs:=by simpa [DV.refs,DV.refsL] using hid
 rcases this with h | h | h
 .exact h1.rox hn id h
 .exact h2.rox hn id h
 .exact h3.rox hn id h
theorem AR.same{hp:Tr DObj}{p:Nat->Prop}{a b c:DV}{x:PArr}(h1:RL rDim hp p a x.dims)(h2:RL rAttr hp p b x.attrs)(h3:RL rCell hp p c x.cells):∀ d∈[a,b,c],Oz 6 d d=true:=λd hd=>by
 simp only [Aq,Ci,or_false] at hd
 rcases hd with rfl | rfl | rfl
 .exact h1.same (by decide)
 .exact h2.same (by decide)
 .exact h3.same (by decide)
theorem Yp{α β:Type}{R:Rep α}{S:Rep β}{hp:Tr DObj}{p q:Nat->Prop}{a b:DV}{l:List α}{m:List β}(h1:RL R hp p a l)(h2:RL S hp q b m):Cd hp (.agg [a,b])=.agg [a,b]:=Wc λid hid=>by
 have:id∈a.refs\/id∈b.refs:=by simpa [DV.refs,DV.refsL] using hid
 rcases this with h | h
 .exact (h1.refs id h).2
 .exact (h2.refs id h).2
section
variable (k n0:Nat) (hp:Tr DObj) (nx:Nat) (K:DV->Tr DObj->Nat->Prop)
end
end Go.DD

/- Contracts: the reference's Delta; equal changes. Conditions: those that each theorem states. -/
namespace Go.DD
open Go Go.Proofs
theorem MX{hp:Tr DObj}{p:Nat->Prop}{d:DV}{l:List PCell}(h:RL rChange hp p d l){i:Nat}(hi:i<l.length):∃ a b,RL rInt hp p a l[i].pos/\RL rVal hp p b l[i].vals/\Gl hp (some 2) (Ca 2 d i)=some (.agg [a,b])/\Gl hp none (Gi (Ca 2 d i) 0)=some a/\Gl hp none (Gi (Ca 2 d i) 1)=some b:=by
 obtain ⟨ds,hr,h1,h0,h2⟩:=h.at hi
 obtain ⟨a,b,rfl,h3,h4⟩:=rChange_rd.1 hr
 exact ⟨a,b,h3,h4,h1,h2 0 _ rfl,h2 1 _ rfl⟩
theorem P9{hp:Tr DObj}{p:Nat->Prop}{d:DV}{l:List PCell}(h:RL rChange hp p d l){i:Nat}(hi:i<l.length):Rr hp 2 d (.v (.int .i64 (i:Int)))=some (Ca 2 d i):=h.ia hi
theorem Ch2{hp:Tr DObj}{p:Nat->Prop}{d:DV}{l:List PCell}{k:Nat}(h:RL rChange hp p d l){i:Nat}(hi:i<l.length):On hp k (Ca 2 d i)=some (Gi (Ca 2 d i) k):=h.fa hi
theorem Cp5{hp:Tr DObj}{n0:Nat}{d:DV}{l:List PCell}{n m i:Nat}{an:List Nat}(h:RL rChange hp (Bl n0) d l)(hn:n0<=n):Ii (Ca 2 d i) (λid=>Cs n m an hp id):=h.roax hn
theorem Cp6{hp:Tr DObj}{n0:Nat}{d:DV}{l:List PCell}{n m i k:Nat}{an:List Nat}(h:RL rChange hp (Bl n0) d l)(hn:n0<=n):Ii (Gi (Ca 2 d i) k) (λid=>Cs n m an hp id):=h.rofx hn
theorem Bp6{d:List PDim}{a:List PAttr}{l:List PCell} : ∀ {b:PCell},Qr d a (some b) l=0->(∀ c∈l,Cq b.pos c.pos = -1/\Hb d a c=0)/\l.Pairwise (λx y=>Cq x.pos y.pos = -1):=by
 induction l with
 | nil=>intro b _;exact ⟨λc hc=>(by cases hc),.nil⟩
 | cons c l ih=>
  intro b h
  unfold Qr at h
  by_cases c1:Hb d a c=0
  .rw [Ad (by simp [c1])] at h
   by_cases c2:Cq b.pos c.pos=0
   .rw [Af c2] at h;cases h
   .rw [Ad c2] at h
    by_cases c3:Cq b.pos c.pos=1
    .rw [Af c3] at h;cases h
    .rw [Ad c3] at h
     have c4:Cq b.pos c.pos = -1:=by have:=lX b.pos c.pos;omega
     obtain ⟨h1,h2⟩:=ih h
     refine ⟨λe he=>?_,.cons (λe he=>(h1 e he).1) h2⟩
     rcases Aq.1 he with rfl | he
     .exact ⟨c4,c1⟩
     .exact ⟨qU c4 (h1 e he).1,(h1 e he).2⟩
  .rw [Af c1] at h;exact absurd h c1
theorem iK{x:PArr}(h:Mo x=0):x.cells.Pairwise (λx y=>Cq x.pos y.pos = -1)/\(∀ c∈x.cells,Hb x.dims x.attrs c=0)/\jS x.dims x.attrs=0:=by
 unfold Mo at h
 by_cases c1:jS x.dims x.attrs=0
 .rw [Ad (by simp [c1])] at h
  split at h
  .cases h
  .generalize x.cells=l at h ⊢
   cases l with
   | nil=>exact ⟨.nil,λc hc=>(by cases hc),c1⟩
   | cons c l=>
    unfold Qr at h
    by_cases c2:Hb x.dims x.attrs c=0
    .rw [Ad (by simp [c2])] at h
     obtain ⟨h1,h2⟩:=Bp6 h
     refine ⟨.cons (λe he=>(h1 e he).1) h2,λe he=>?_,c1⟩
     rcases Aq.1 he with rfl | he
     .exact c2
     .exact (h1 e he).2
    .rw [Af c2] at h;exact absurd h c2
 .rw [Af c1] at h;exact absurd h c1
theorem A25{x:PArr}(h:Mo x=0):Rg x.cells:=λi j Oy hj=>Cy.1 (iK h).1 i j (by omega) hj Oy
theorem Y0{x:PArr}(h:Mo x=0):∀ c∈x.cells,c.pos≠[]:=λc hc he=>by
 have h1:=(iK h).2.1 c hc
 have h2:=(iK h).2.2
 have h3:c.pos.length=x.dims.length:=by
  unfold Hb at h1
  split at h1
  .cases h1
  .rename_i h3;omega
 have h4:x.dims.length=0:=by rw [<- h3,he];rfl
 have h5:Ph x.dims=13:=by unfold Ph;rw [Af (Or.inl (show x.dims.length<1 by omega))]
 unfold jS at h2
 rw [h5] at h2
 cases h2
section
variable (k n0:Nat) (hp:Tr DObj) (nx:Nat) (K:DV->Tr DObj->Nat->Prop)
end
end Go.DD

/- The walk over several sorted cell lists at once, in plain Lean; rows of slices are stored into. -/
namespace Go.DD
open Go Go.Proofs
def Ja:Option (List Int)->List (List PCell)->Option (List Int)
 | a,[]=>a
 | a,[]::hs=>Ja a hs
 | none,(c::_)::hs=>Ja (some c.pos) hs
 | some p,(c::_)::hs=>if Cq c.pos p = -1 then Ja (some c.pos) hs else Ja (some p) hs
def bZ(p:List Int):List PCell->List PVal
 | []=>[]
 | c::_=>if c.pos=p then c.vals else []
def Tb(p:List Int):List PCell->List PCell
 | []=>[]
 | c::t=>if c.pos=p then t else c::t
theorem Sb(p:List Int)(c:PCell)(t:List PCell):Tb p (c::t)=if c.pos=p then t else c::t:=rfl
theorem iL(p:List Int)(c:PCell)(t:List PCell):bZ p (c::t)=if c.pos=p then c.vals else []:=rfl
def Kg:Nat->List (List PCell)->List (List Int×List (List PVal))
 | 0,_=>[]
 | n+1,hs=>match Ja none hs with
  | none=>[]
  | some p=>(p,hs.map (bZ p))::Kg n (hs.map (Tb p))
def Za(hs:List (List PCell)):Nat:=(hs.map List.length).sum
def Hy(hs:List (List PCell)):List (List Int×List (List PVal)):=Kg (Za hs) hs
theorem wj{hs:List (List PCell)} : ∀ {a:Option (List Int)} {p:List Int},Ja a hs=some p->a=some p\/∃ c t,(c::t)∈hs/\c.pos=p:=by
 induction hs with
 | nil=>intro a p h;exact .inl h
 | cons h hs ih=>
  intro a p e
  have up:(∃ c t,(c::t)∈hs/\c.pos=p)->∃ c t,(c::t)∈h::hs/\c.pos=p:=λ⟨c,t,h1,h2⟩=>⟨c,t,Be _ h1,h2⟩
  cases h with
  | nil=>cases a <;> exact (ih e).imp id up
  | cons c t=>
   have here:some c.pos=some p->∃ c2 t2,(c2::t2)∈(c::t)::hs/\c2.pos=p:=λh=>⟨c,t,by simp,by simpa using h⟩
   cases a with
   | none=>exact .inr ((ih e).elim here up)
   | some q=>
    unfold Ja at e
    split at e
    .exact .inr ((ih e).elim here up)
    .exact (ih e).imp id up
theorem Bx7(p:List Int)(h:List PCell):(Tb p h).length<=h.length:=by
 cases h with
 | nil=>simp [Tb]
 | cons c t=>rw [Sb];split <;> simp
theorem C08(p:List Int)(hs:List (List PCell)):Za (hs.map (Tb p))<=Za hs:=by
 induction hs with
 | nil=>simp [Za]
 | cons h hs ih=>
  have:=Bx7 p h
  unfold Za at ih ⊢
  simp only [Ag,List.sum_cons]
  omega
theorem C09{p:List Int}{hs:List (List PCell)}{c:PCell}{t:List PCell}(h:(c::t)∈hs)(hc:c.pos=p):Za (hs.map (Tb p))<Za hs:=by
 induction hs with
 | nil=>cases h
 | cons a hs ih=>
  have h1:=Bx7 p a
  have h2:=C08 p hs
  unfold Za at ih h2 ⊢
  simp only [Ag,List.sum_cons]
  rcases Aq.1 h with rfl | h
  .have:(Tb p (c::t)).length=t.length:=by rw [Sb,Af hc]
   simp only [Ec] at *
   omega
  .have:=ih h
   omega
theorem TV{p:List Int}{h:List PCell}{c:PCell}(hc:c∈Tb p h):c∈h:=by
 cases h with
 | nil=>exact hc
 | cons a t=>
  rw [Sb] at hc
  split at hc
  .exact Be _ hc
  .exact hc
theorem tw{n:Nat}{hs:List (List PCell)}{p:List Int}(hn:Za hs<=n)(h:Ja none hs=some p):∃ m,n=m+1/\Za (hs.map (Tb p))<=m/\Kg n hs=(p,hs.map (bZ p))::Kg m (hs.map (Tb p)):=by
 obtain ⟨c,t,h1,h2⟩:=(wj h).elim (λh=>by cases h) id
 have Ez:=C09 h1 h2
 obtain ⟨m,rfl⟩:∃ m,n=m+1:=⟨n-1,by omega⟩
 refine ⟨m,rfl,by omega,?_⟩
 show (match Ja none hs with
  | none=>[]
  | some p=>(p,hs.map (bZ p))::Kg m (hs.map (Tb p)))=_
 rw [h]
theorem TU{n:Nat}{hs:List (List PCell)}(h:Ja none hs=none):Kg n hs=[]:=by
 cases n with
 | zero=>rfl
 | succ n=>
  show (match Ja none hs with
   | none=>[]
   | some p=>(p,hs.map (bZ p))::Kg n (hs.map (Tb p)))=_
  rw [h]
theorem Rows.set1{α:Type}{R:Rep α}{T:Nat}{hd:R.dep+1<=6}{hp:Tr DObj}{p:Nat->Prop}{v:DV}{x:List α}(hv:RL R hp p v x):∀ {l:List (List α)} {fl:List DV} (i:Nat),Rows (Sc R T hd) hp p fl l->Rows (Sc R T hd) hp p (fl.set i v) (l.set i x)
 | [],_,_,h=>by cases h;exact rfl
 | _::l,_,0,⟨a,b,e,⟨d,h1,h2⟩,h3⟩=>by subst e h1;exact ⟨[v],b,rfl,⟨v,rfl,hv⟩,h3⟩
 | _::l,_,i+1,⟨a,b,e,⟨d,h1,h2⟩,h3⟩=>by subst e h1;exact ⟨[d],_,rfl,⟨d,rfl,h2⟩,h3.set1 hv i⟩
def uK{α:Type}(R:Rep α)(T:Nat)(hd:R.dep+1<=6:=by decide):Rep (List α) where
 e:=1
 T:=T
 dep:=R.dep+1
 rd hp p ds l:=∃ d,ds=[d]/\RL R hp p d l/\Nn d l
 cells l:=[.sl (l.flatMap R.cells) l.length]
 e0:=Nat.one_pos
 d6:=hd
 len:=λ⟨_,h,_⟩=>by rw [h];rfl
 keep:=λ⟨d,h,h2,h3⟩ hk=>⟨d,h,h2.keep hk,h3⟩
 mono:=λ⟨d,h,h2,h3⟩ hk=>⟨d,h,h2.mono hk,h3⟩
 refs:=λ⟨d,h,h2,_⟩ id hi=>by
  subst h
  exact h2.refs id (by simpa [DV.refsL] using hi)
 pure:=λ_ _ l=>⟨_,rfl,.sl l,by cases l with | nil=>exact .inr (.inr rfl) | cons a l=>exact .inl (by simp)⟩
 ok:=λ⟨d,h,h2,_⟩ c hc=>by
  subst h
  obtain rfl:=Am.1 hc
  exact h2.ok
 same:=λ⟨d,h,h2,_⟩ c hc n hn=>by
  subst h
  obtain rfl:=Am.1 hc
  exact h2.same hn
 samec:=λl c hc n hn=>by
  obtain rfl:=Am.1 hc
  exact (RL.sl (R:=R) (hp:=.e) (p:=λ_=>True) l).same hn
theorem Rows.set1N{α:Type}{R:Rep α}{T:Nat}{hd:R.dep+1<=6}{hp:Tr DObj}{p:Nat->Prop}{v:DV}{x:List α}(hv:RL R hp p v x/\Nn v x):∀ {l:List (List α)} {fl:List DV} (i:Nat),Rows (uK R T hd) hp p fl l->Rows (uK R T hd) hp p (fl.set i v) (l.set i x)
 | [],_,_,h=>by cases h;exact rfl
 | _::l,_,0,⟨a,b,e,⟨d,h1,h2,zM⟩,h3⟩=>by subst e h1;exact ⟨[v],b,rfl,⟨v,rfl,hv.1,hv.2⟩,h3⟩
 | _::l,_,i+1,⟨a,b,e,⟨d,h1,h2,zM⟩,h3⟩=>by subst e h1;exact ⟨[d],_,rfl,⟨d,rfl,h2,zM⟩,h3.set1N hv i⟩
theorem Rows.replN{α:Type}{R:Rep α}{T:Nat}{hd:R.dep+1<=6}{hp:Tr DObj}{p:Nat->Prop} : ∀ n:Nat,Rows (uK R T hd) hp p (List.replicate n Cl) (List.replicate n [])
 | 0=>rfl
 | n+1=>⟨[Cl],List.replicate n Cl,rfl,⟨Cl,rfl,.nil,.inr (.inl rfl)⟩,Rows.replN n⟩
theorem OL.get{α:Type}{R:Rep α}{hp:Tr DObj}{p:Nat->Prop}{id n e:Nat}{l:List α}(h:OL R hp p (.ms id 0 n e) l):n=l.length/\e=R.e/\∃ fl,hp.get id=some (.row R.T fl)/\Rows R hp p fl l:=by
 cases h with
 | ms id fl l h hr=>exact ⟨rfl,rfl,fl,h,hr⟩
section
variable {call:Bg} {es:ES} {dst:Option Pa} {q:Hold (ES->Prop)}
theorem Cp7{α:Type}{R:Rep α}{T:Nat}{hd:R.dep+1<=6}{p:Nat->Prop}{a x:EO}{id i n:Nat}{v:DV}{l:List (List α)}{m:List α}(ea:Ae es a=.pt id i)(ho:OL (Sc R T hd) es.hp p (.ms id 0 n 1) l)(ev:Oc es x=v)(hv:RL R es.hp p v m)(hi:i<l.length)(Ng:¬ p id)
  (h:∀ Ao,OL (Sc R T hd) Ao p (.ms id 0 n 1) (l.set i m)->(∀ j,j≠id->Ao.get j=es.hp.get j)->q.val ((ES.mk es.sl Ao es.nx).putE dst .any)) :
  Nr (sU dst (Jr 1 a x)) call es:=by
 obtain ⟨hn,_,fl,hg,hr⟩:=ho.get
 have hl:=hr.len
 refine mN ea hg ev hv.ok (by rw [hl];show i<l.length*1;omega) λAo bQ K3=>h Ao ?_ K3
 have:=OL.ms (R:=Sc R T hd) (p:=p) id _ (l.set i m) bQ ((hr.set1 hv i).keep λj hj=>K3 j λe=>Ng (e ▸ hj))
 rw [Mx,<- hn] at this
 exact this
theorem Cp8{α:Type}{R:Rep α}{T:Nat}{hd:R.dep+1<=6}{p:Nat->Prop}{a x:EO}{id i n:Nat}{v:DV}{l:List (List α)}{m:List α}(ea:Ae es a=.pt id i)(ho:OL (uK R T hd) es.hp p (.ms id 0 n 1) l)(ev:Oc es x=v)(hv:RL R es.hp p v m)(kO:Nn v m)(hi:i<l.length)(Ng:¬ p id)
  (h:∀ Ao,OL (uK R T hd) Ao p (.ms id 0 n 1) (l.set i m)->(∀ j,j≠id->Ao.get j=es.hp.get j)->q.val ((ES.mk es.sl Ao es.nx).putE dst .any)) :
  Nr (sU dst (Jr 1 a x)) call es:=by
 obtain ⟨hn,_,fl,hg,hr⟩:=ho.get
 have hl:=hr.len
 refine mN ea hg ev hv.ok (by rw [hl];show i<l.length*1;omega) λAo bQ K3=>h Ao ?_ K3
 have:=OL.ms (R:=uK R T hd) (p:=p) id _ (l.set i m) bQ ((hr.set1N ⟨hv,kO⟩ i).keep λj hj=>K3 j λe=>Ng (e ▸ hj))
 rw [Mx,<- hn] at this
 exact this
theorem B80{α:Type}{R:Rep α}{T e b:Nat}{hd:R.dep+1<=6}{x y:Operand}{n:Nat}(hx:es.ds.ev x=iv n)(hy:es.ds.ev y=iv n)(hn:n<=65536)(he:e=1)(hb:b<=64)
  (h:∀ Ao,(∀ p,OL (uK R T hd) Ao p (.ms es.nx 0 n 1) (List.replicate n []))->(∀ j,j≠es.nx->Ao.get j=es.hp.get j)->q.val ((ES.mk es.sl Ao (es.nx+1)).putE dst (.ms es.nx 0 n 1))):Nr (sU dst (Bd (.mks T e b [.slice none 0 0] x y))) call es:=by
 subst he
 show SW _ _ _ _
 rw [sw_u,Fi]
 have e:(List.replicate n ([Value.slice none 0 0].map DV.v)).flatten=List.replicate n Cl:=by
  clear h hx hy hn
  induction n with
  | zero=>rfl
  | succ n ih=>rw [Jd,List.flatten_cons,ih];rfl
 refine ⟨.ms es.nx 0 n 1,.lay (.row T (List.replicate n Cl)),?_,?_⟩
 .have hnb:n*b<=65536*64:=aQ hn hb
  simp only [Ay,hx,hy,iv,Lh]
  rw [Af ⟨by omega,by omega,by omega,by omega,rfl,by omega⟩,Hc,e]
 .refine h (es.up (.lay (.row T (List.replicate n Cl)))).hp (λp=>?_) λj hj=>by rw [aO,get_set,Ad hj]
  have:=OL.ms (R:=uK R T hd) (p:=p) (hp:=(es.up (.lay (.row T (List.replicate n Cl)))).hp) es.nx (List.replicate n Cl) (List.replicate n []) (by rw [aO,get_set,Af rfl];rfl) (Rows.replN n)
  rw [List.length_replicate] at this
  exact this
end
end Go.DD
