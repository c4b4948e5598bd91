/- A part. -/
import Derived.Test.YtnphfnhhpcelbaaGreatYe
import Derived.Test.YtnphfnhhpcelbaaGreatYg
import Derived.Test.YtnphfnhhpcelbaaGreatYh
import Derived.Laws.RangeAny
import Derived.Laws.RangeString
noncomputable section
set_option linter.unusedSectionVars false
set_option linter.unusedVariables false
namespace Go.DD
open Go Go.Proofs
theorem jI:Yn Tryz.prog 1000000 te:=zw _ _
theorem Bv1{f:Nat}(QM:∀ cap,Known Tryz.prog f [.v (.slice none 0 cap)] (.v (.slice none 0 0)))(ya:∀ a cap,Known Tryz.prog f [.v (.slice (some a) 0 cap)] (.sl [] 0)):Known Tryz.prog f [.sl [] 0] (.sl [] 0):=by
 refine ⟨(QM 0).1,λx hx=>by rw [Bk] at hx;subst hx;rfl,λw S vs h1 h2 h3 hg=>?_⟩
 obtain ⟨v,rfl⟩:∃ v,vs=[v]:=by
  match vs,h2 with
  | [v],_=>exact ⟨v,rfl⟩
 have hr:=h3 0 v _ rfl rfl
 have fin:∀ a cap,v=.slice a 0 cap->Calls Tryz.prog f [v].toArray w λe w'=>∃ v r,e=.returned v/\r=.sl [] 0/\Go.RowKit.Below w.heap.size w w'/\RelI w' (λb=>(S b\/w.heap.size<=b)/\b<w'.heap.size) v r:=by
  intro a cap hv
  subst hv
  cases a with
  | none=>
   refine ((QM cap).2.2 w S [.slice none 0 cap] h1 rfl (λj u d hu hd=>?_) hg).mono λe w' ⟨v,r,h4,h5,h6,h7⟩=>?_
   .match j with
    | 0=>cases hu;cases hd;exact .v _
    | j+1=>cases hu
   .subst h5
    cases h7
    exact ⟨_,_,h4,rfl,h6,.sl0 _ _⟩
  | some a=>
   refine (ya a cap).2.2 w S [.slice (some a) 0 cap] h1 rfl (λj u d hu hd=>?_) hg
   match j with
   | 0=>cases hu;cases hd;exact .v _
   | j+1=>cases hu
 cases hr with
 | sl0 a cap=>exact fin a cap rfl
 | sl ad n cap us cs hl hn ha ho hc h=>exact fin (some ad) cap rfl
def XF:List Nat:=[70,142,139,162,163]
theorem Cw5:∀ f∈XF,Known Tryz.prog f [.sl [] 0] (.sl [] 0):=by
 intro f hf
 simp only [XF,Ak,Om,or_false] at hf
 rcases hf with rfl | rfl | rfl | rfl | rfl <;> exact Bv1 (λcap=>Ba7 (n:=1000) (k:=3) mixed jI (MemoOK.nil _) rfl (by kernel_rfl)) λa cap=>Ba7 (n:=1000) (k:=3) mixed jI (MemoOK.nil _) rfl (by kernel_rfl)
def Kr(f:Nat)(ds:List DV):Option DV:=if f=15 then (match ds with
 | []=>some (.v (.bool true))
 | _=>none) else if f∈XF then (match ds with
 | [.sl [] 0]=>some (.sl [] 0)
 | _=>none) else none
theorem Cn0:∀ f ds d,Kr f ds=some d->Known Tryz.prog f ds d:=by
 intro f ds d h
 unfold Kr at h
 split at h
 .rename_i hf
  subst hf
  cases ds with
  | nil=>cases h;exact Cw4
  | cons _ _=>cases h
 .split at h
  .rename_i hf
   split at h
   .cases h;exact Cw5 f hf
   .cases h
  .cases h
theorem Gb{f:Nat}{ds:List DV}(h:f≠15/\f∉XF):Kr f ds=none:=by unfold Kr;rw [Ae h.1,Ae h.2]
def kN(k:Nat):Bf:=Hb te 1000000 Kr k
theorem J4(k:Nat)(hp:Tr DObj)(nx:Nat)(K:DV->Tr DObj->Nat->Prop)(h:K (.v (.bool true)) hp nx):KW (kN (k+1)) (.fn 15) [] hp nx K:=RS (d:=.v (.bool true)) rfl h
section
variable {α:Type} {R:Rep α} {hp Ap:Tr DObj} {n0 nx Ba:Nat} {d:DV} {l:List α}
theorem RL.ka(h:RL R hp (Bl n0) d l)(hn:n0<=nx)(a:Al hp nx Ap Ba):RL R Ap (Bl n0) d l:=h.keep λj hj=>a.same j (Br hj hn)
theorem RL.bl{n:Nat}(h:RL R hp (Bl n0) d l)(hn:n0<=n):RL R hp (Bl n) d l:=h.mono λ_ hj=>Br hj hn
theorem RL.rox{n m:Nat}{an:List Nat}(h:RL R hp (Bl n0) d l)(hn:n0<=n):Ib d (λid=>Cp n m an hp id):=h.ro λ_ hj=>Br hj hn
theorem RL.roax{n m i:Nat}{an:List Nat}(h:RL R hp (Bl n0) d l)(hn:n0<=n):Ib (Cf R.e d i) (λid=>Cp n m an hp id):=h.roa λ_ hj=>Br hj hn
theorem RL.rofx{n m i k:Nat}{an:List Nat}(h:RL R hp (Bl n0) d l)(hn:n0<=n):Ib (It (Cf R.e d i) k) (λid=>Cp n m an hp id):=h.rof λ_ hj=>Br hj hn
end
theorem Al.nx{hp Ap:Tr DObj}{n n' m:Nat}(a:Al hp n Ap n')(h:n'<=m):Al hp n Ap m:=⟨Es a.le h,a.same⟩
theorem Al.new{hp Ap Db:Tr DObj}{n n' n2:Nat}(a:Al hp n Ap n')(h:n'<=n2)(hk:∀ j,j<n->Db.get j=Ap.get j):Al hp n Db n2:=⟨Es a.le h,λj hj=>(hk j hj).trans (a.same j hj)⟩
theorem Al.ini(hp:Tr DObj){n m:Nat}(h:n<=m):Al hp n hp m:=⟨h,λ_ _=>rfl⟩
section
variable {hp:Tr DObj} {n0:Nat} {p:Nat->Prop} {d:DV} {l:List Int} {i:Nat}
theorem nQ(h:RL rInt hp p d l)(hi:i<l.length):Ms hp 1 d (.v (.int .i64 (i:Int)))=some (Cf 1 d i):=h.ia hi
theorem Y7{n m:Nat}{an:List Nat}(h:RL rInt hp (Bl n0) d l)(hn:n0<=n):Ib (Cf 1 d i) (λid=>Cp n m an hp id)↔True:=Bj (h.roax hn)
end
section
variable {hp:Tr DObj} {n0:Nat} {p:Nat->Prop} {d:DV} {l:List PVal} {i:Nat}
theorem Y2(h:RL rVal hp p d l)(hi:i<l.length):Ms hp 4 d (.v (.int .i64 (i:Int)))=some (Cf 4 d i):=h.ia hi
theorem Cn1{k:Nat}(h:RL rVal hp p d l)(hi:i<l.length):Ow hp k (Cf 4 d i)=some (It (Cf 4 d i) k):=h.fa hi
theorem XV{n m:Nat}{an:List Nat}(h:RL rVal hp (Bl n0) d l)(hn:n0<=n):Ib (Cf 4 d i) (λid=>Cp n m an hp id)↔True:=Bj (h.roax hn)
end
section
variable {hp:Tr DObj} {n0:Nat} {p:Nat->Prop} {d:DV} {l:List PDim} {i:Nat}
theorem wF(h:RL rDim hp p d l)(hi:i<l.length):Ms hp 3 d (.v (.int .i64 (i:Int)))=some (Cf 3 d i):=h.ia hi
theorem Be3{k:Nat}(h:RL rDim hp p d l)(hi:i<l.length):Ow hp k (Cf 3 d i)=some (It (Cf 3 d i) k):=h.fa hi
theorem XT{n m:Nat}{an:List Nat}(h:RL rDim hp (Bl n0) d l)(hn:n0<=n):Ib (Cf 3 d i) (λid=>Cp n m an hp id)↔True:=Bj (h.roax hn)
end
section
variable {hp:Tr DObj} {n0:Nat} {p:Nat->Prop} {d:DV} {l:List PAttr} {i:Nat}
theorem J3(h:RL rAttr hp p d l)(hi:i<l.length):Ms hp 2 d (.v (.int .i64 (i:Int)))=some (Cf 2 d i):=h.ia hi
theorem A64{k:Nat}(h:RL rAttr hp p d l)(hi:i<l.length):Ow hp k (Cf 2 d i)=some (It (Cf 2 d i) k):=h.fa hi
theorem CG{n m:Nat}{an:List Nat}(h:RL rAttr hp (Bl n0) d l)(hn:n0<=n):Ib (Cf 2 d i) (λid=>Cp n m an hp id)↔True:=Bj (h.roax hn)
theorem Bb4{n m k:Nat}{an:List Nat}(h:RL rAttr hp (Bl n0) d l)(hn:n0<=n):Ib (It (Cf 2 d i) k) (λid=>Cp n m an hp id)↔True:=Bj (h.rofx hn)
end
section
variable {hp:Tr DObj} {n0:Nat} {p:Nat->Prop} {d:DV} {l:List PCell} {i:Nat}
theorem Yo(h:RL rCell hp p d l)(hi:i<l.length):Ms hp 2 d (.v (.int .i64 (i:Int)))=some (Cf 2 d i):=h.ia hi
theorem nS{k:Nat}(h:RL rCell hp p d l)(hi:i<l.length):Ow hp k (Cf 2 d i)=some (It (Cf 2 d i) k):=h.fa hi
theorem Z1{n m:Nat}{an:List Nat}(h:RL rCell hp (Bl n0) d l)(hn:n0<=n):Ib (Cf 2 d i) (λid=>Cp n m an hp id)↔True:=Bj (h.roax hn)
theorem Ay9{n m k:Nat}{an:List Nat}(h:RL rCell hp (Bl n0) d l)(hn:n0<=n):Ib (It (Cf 2 d i) k) (λid=>Cp n m an hp id)↔True:=Bj (h.rofx hn)
end
section
variable {hp:Tr DObj} {n0:Nat} {p:Nat->Prop} {d:DV} {l:List (List Int)} {i:Nat}
end
section
variable {hp:Tr DObj} {n0:Nat} {p:Nat->Prop} {d:DV} {l:List (List PVal)} {i:Nat}
end
theorem SF{α:Type}{l m:List α}{i:Nat}(h1:i<l.length)(h2:i<m.length):(l.drop i=m.drop i)↔(l[i]=m[i]/\l.drop (i+1)=m.drop (i+1)):=by
 rw [As h1,As h2,List.cons.injEq]
theorem CU(neg:Bool)(ks:List Nat)(x y:Operand)(nid:Nat)(es:ES):Dz (Bc (.eqs neg ks x y)) nid es=vU neg ks (es.ds.ev x) (es.ds.ev y):=fS (X:=λes=>vU neg ks (es.ds.ev x) (es.ds.ev y)) (KF neg ks x y) nid
theorem BZ{hp:Tr DObj}{cs:List DV}(h:DV.refsL cs=[]):Ch hp (.agg cs)=.agg cs:=eL (by rw [DV.refs];exact h)
theorem I4{cs:List DV}{f:Nat->Bool}(h:DV.refsL cs=[]):Ib (.agg cs) f↔True:=RR (by rw [DV.refs];exact h)
theorem Lg(a b:ByteArray):(a.toList==b.toList)=decide (a=b):=by
 by_cases h:a=b
 .subst h;simp
 .have:a.toList≠b.toList:=λe=>h (by
   rw [ByteArray.toList_eq,ByteArray.toList_eq] at e
   have e2:=Jf.1 e
   obtain ⟨a⟩:=a;obtain ⟨b⟩:=b
   simp only at e2;rw [e2])
  simp [h,this]
theorem F4(x y:PVal):Qu [0,0,0,2] (vc x) (vc y)=some (decide (x=y)):=by
 obtain ⟨k,n,d,s⟩:=x
 obtain ⟨k',n',d',s'⟩:=y
 simp only [vc,Qu,iQ,iv,sv,Ip,Lg,PVal.mk.injEq]
 by_cases h1:k=k'
 .by_cases h2:n=n'
  .by_cases h3:d=d'
   .by_cases h4:s=s' <;> simp [h1,h2,h3,h4]
   .simp [h1,h2,h3,Da.2 h3]
  .simp [h1,h2,Da.2 h2]
 .simp [h1,Da.2 h1]
theorem F5(x y:PDim):Qu [2,0,0] (dc x) (dc y)=some (decide (x=y)):=by
 obtain ⟨n,a,b⟩:=x
 obtain ⟨n',a',b'⟩:=y
 simp only [dc,Qu,iQ,iv,sv,Ip,Lg,PDim.mk.injEq]
 by_cases h1:n=n'
 .by_cases h2:a=a'
  .by_cases h3:b=b'
   .simp [h1,h2,h3]
   .simp [h1,h2,h3,Da.2 h3]
  .simp [h1,h2,Da.2 h2]
 .simp [h1]
theorem F6(x y:PAttr):Qu [2,0] (ac x) (ac y)=some (decide (x=y)):=by
 obtain ⟨n,a⟩:=x
 obtain ⟨n',a'⟩:=y
 simp only [ac,Qu,iQ,iv,sv,Ip,Lg,PAttr.mk.injEq]
 by_cases h1:n=n'
 .by_cases h2:a=a'
  .simp [h1,h2]
  .simp [h1,h2,Da.2 h2]
 .simp [h1]
theorem FC{p:Pa}{b:Bool}{f:Nat}{args:List EO}{dst:Option Pa}{call:Bf}{es:ES}{Q:ES->Prop} : SW (sG p b dst (Au f args dst)) call es Q↔GW (Ac es (.t p)) b (SW (Au f args dst) call es Q) (Q (es.putE dst (.v undef))):=oD
theorem zW(kd:KD)(z:Value)(x k:Operand)(es:ES)(nid:Nat):Bc (.lkp kd z x k false) es nid=Iw (Qo es.hp kd z (es.ds.ev x) (es.ds.ev k)):=by
 rw [Hf]
 simp only [Bb,Qo]
 cases Ya (es.ds.ev k) with
 | none=>rfl
 | some kv=>
  simp only []
  by_cases hk:nN kd kv=true
  .rw [Ah hk,Ah hk]
   cases es.ds.ev x with
   | v a=>
    cases a with
    | map a=>cases a <;> rfl
    | _=>rfl
   | mp id=>
    show (match es.hp.get id with
     | some (.mapo _ es)=>match findD kd kv es 0 with
      | some (some p)=>some (Io false p.2.v true,Upd.keep)
      | some none=>some (Io false (.v z) false,.keep)
      | none=>none
     | _=>none)=Iw (match es.hp.get id with
     | some (.mapo _ es)=>match findD kd kv es 0 with
      | some (some p)=>some (Io false p.2.v true)
      | some none=>some (Io false (.v z) false)
      | none=>none
     | _=>none)
    cases es.hp.get id with
    | none=>rfl
    | some o=>
     cases o with
     | mapo c l=>
      simp only []
      cases findD kd kv l 0 with
      | none=>rfl
      | some r=>cases r <;> rfl
     | _=>rfl
   | _=>rfl
  .rw [Ae hk,Ae hk];rfl
theorem Cf2{dst:Option Pa}{kd:KD}{z:Value}{x k:Operand}{call:Bf}{es:ES}{Q:ES->Prop} : SW (sU dst (Bc (.lkp kd z x k false))) call es Q↔XW (Qo es.hp kd z (es.ds.ev x) (es.ds.ev k)) λd=>Q (es.putE dst d):=Zz (zW kd z x k)
theorem Cn2{p:Pa}{g:Bool}{dst:Option Pa}{kd:KD}{z:Value}{x k:Operand}{call:Bf}{es:ES}{Q:ES->Prop} : SW (sG p g dst (sU dst (Bc (.lkp kd z x k false)))) call es Q↔XW (dH (Ac es (.t p)) g (Qo es.hp kd z (es.ds.ev x) (es.ds.ev k))) λd=>Q (es.putE dst d):=oC (zW kd z x k)
theorem kb{K:DV->Tr DObj->Nat->Prop}{a b:Bool}{hp:Tr DObj}{nx:Nat}(h:K (bv b) hp nx)(e:a=b):K (.v (.bool a)) hp nx:=by rw [e];exact h
theorem EI{l:List UInt8}{i:Nat}(h:i<l.length):Jc none ((l.map λc=>DV.v (.int .u8 (c.toNat:Int))).drop (i*1))=some (.v (.int .u8 (l[i].toNat:Int))):=by
 rw [Zv,As (by simpa using h)]
 simp [Jc]
theorem Cw6{s:ByteArray}{i:Nat}{k:IntKind}(h:i<s.data.toList.length):Qq (.v (.string s)) (.v (.int k (i:Int)))=some (.v (.int .u8 (s.data.toList[i].toNat:Int))):=by
 show (if 0<=(i:Int) then (s[(i:Int).toNat]?).map λc=>DV.v (.int .u8 (c.toNat:Int)) else none)=_
 rw [Ah (by omega)]
 have hs:i<s.size:=h
 have:s[(i:Int).toNat]?=some s.data.toList[i]:=by
  rw [Fy,getElem?_pos s i hs];rfl
 rw [this];rfl
theorem zX(x y:Operand)(es:ES)(nid:Nat):Bc (.ixs x y) es nid=Iw (Qq (es.ds.ev x) (es.ds.ev y)):=by
 rw [Hf];simp only [Bb]
 cases es.ds.ev x with
 | v a=>
  cases a with
  | string b=>
   cases es.ds.ev y with
   | v c=>
    cases c with
    | int kk j=>
     show (if 0<=j then (b[j.toNat]?).map λc=>(DV.v (.int .u8 (c.toNat:Int)),Upd.keep) else none)=Iw (if 0<=j then (b[j.toNat]?).map λc=>DV.v (.int .u8 (c.toNat:Int)) else none)
     by_cases h:0<=j
     .rw [Ah h,Ah h];cases b[j.toNat]? <;> rfl
     .rw [Ae h,Ae h];rfl
    | _=>rfl
   | _=>rfl
  | _=>cases es.ds.ev y with
   | v c=>cases c <;> rfl
   | _=>rfl
 | _=>cases es.ds.ev y with
  | v c=>cases c <;> rfl
  | _=>rfl
theorem Cf3{dst:Option Pa}{x:Operand}{v:Value}{call:Bf}{es:ES}{Q:ES->Prop} : SW (sU dst (Bc (.ixs x (.const v)))) call es Q↔XW (Qq (es.ds.ev x) (aC v)) λd=>Q (es.putE dst d):=Zz (zX x (.const v))
theorem wO{call:Bf}{es:ES}{Q:ES->Prop}{dst:Option Pa}{kd:KD}{x k y:Operand} : SW (sU dst (Bc (.mup kd x k y))) call es Q↔@Mv (sU dst (Bc (.mup kd x k y))) call es ⟨Q⟩:=Dp
def BN(t:Bool)[a:Hold Prop][b:Hold Prop]:Prop:=(t=true->a.val)/\(t=false->b.val)
theorem Cn3{t:Bool}{A B:Prop} : CW (.v (.bool t)) A B↔@BN t ⟨A⟩ ⟨B⟩:=X0
theorem QJ{A B:Prop} : @BN true ⟨A⟩ ⟨B⟩↔A:=by unfold BN;simp
theorem QK{A B:Prop} : @BN false ⟨A⟩ ⟨B⟩↔B:=by unfold BN;simp
theorem tB{t:Bool}{a b:Hold Prop}(h1:t=true->a.val)(h2:t=false->b.val) : @BN t a b:=⟨h1,h2⟩
theorem Cw7{c:Bool}{hp:Tr DObj}{kd:KD}{z:Value}{a b y:DV} : Qo hp kd z (if c=true then a else b) y=if c=true then Qo hp kd z a y else Qo hp kd z b y:=by cases c <;> rfl
theorem Cw8{c:Bool}{hp:Tr DObj}{kd:KD}{z:Value}{a b y:DV} : Qo hp kd z y (if c=true then a else b)=if c=true then Qo hp kd z y a else Qo hp kd z y b:=by cases c <;> rfl
theorem Cf4(a b:ByteArray):Cl .eql (.v (.string a)) (.v (.string b))=some (.v (.bool (decide (a=b)))):=by
 rw [G8]
 show (some (Value.bool (a.toList==b.toList))).map DV.v=_
 rw [Lg];rfl
theorem Cf5(a b:ByteArray):Cl .neq (.v (.string a)) (.v (.string b))=some (.v (.bool (!decide (a=b)))):=by
 rw [G8]
 show (some (Value.bool !(a.toList==b.toList))).map DV.v=_
 rw [Lg];rfl
theorem G9(a:Bool):QP false (.v (.bool a)) (.v (.bool true))=some (.v (.bool a)):=by cases a <;> rfl
theorem H0(a:Bool):QP false (.v (.bool a)) (.v (.bool false))=some (.v (.bool (!a))):=by cases a <;> rfl
theorem jk:Cn 100=.r (.l (.r (.l (.l (.r .o))))):=nr rfl
theorem jj:Cn 101=.l (.r (.r (.l (.l (.r .o))))):=nr rfl
theorem ji:Cn 102=.r (.r (.r (.l (.l (.r .o))))):=nr rfl
theorem jh:Cn 103=.l (.l (.l (.r (.l (.r .o))))):=nr rfl
theorem jg:Cn 104=.r (.l (.l (.r (.l (.r .o))))):=nr rfl
theorem jf:Cn 105=.l (.r (.l (.r (.l (.r .o))))):=nr rfl
theorem je:Cn 106=.r (.r (.l (.r (.l (.r .o))))):=nr rfl
theorem jd:Cn 107=.l (.l (.r (.r (.l (.r .o))))):=nr rfl
theorem jc:Cn 108=.r (.l (.r (.r (.l (.r .o))))):=nr rfl
theorem jb:Cn 109=.l (.r (.r (.r (.l (.r .o))))):=nr rfl
theorem ja:Cn 110=.r (.r (.r (.r (.l (.r .o))))):=nr rfl
theorem iz:Cn 111=.l (.l (.l (.l (.r (.r .o))))):=nr rfl
theorem iy:Cn 112=.r (.l (.l (.l (.r (.r .o))))):=nr rfl
theorem iw:Cn 113=.l (.r (.l (.l (.r (.r .o))))):=nr rfl
theorem iu:Cn 114=.r (.r (.l (.l (.r (.r .o))))):=nr rfl
theorem iq:Cn 115=.l (.l (.r (.l (.r (.r .o))))):=nr rfl
theorem ik:Cn 116=.r (.l (.r (.l (.r (.r .o))))):=nr rfl
theorem ij:Cn 117=.l (.r (.r (.l (.r (.r .o))))):=nr rfl
theorem ig:Cn 118=.r (.r (.r (.l (.r (.r .o))))):=nr rfl
theorem ie:Cn 119=.l (.l (.l (.r (.r (.r .o))))):=nr rfl
theorem ic:Cn 120=.r (.l (.l (.r (.r (.r .o))))):=nr rfl
theorem gz:Cn 121=.l (.r (.l (.r (.r (.r .o))))):=nr rfl
theorem gv:Cn 122=.r (.r (.l (.r (.r (.r .o))))):=nr rfl
theorem gu:Cn 123=.l (.l (.r (.r (.r (.r .o))))):=nr rfl
theorem gq:Cn 124=.r (.l (.r (.r (.r (.r .o))))):=nr rfl
theorem gp:Cn 125=.l (.r (.r (.r (.r (.r .o))))):=nr rfl
theorem gl:Cn 126=.r (.r (.r (.r (.r (.r .o))))):=nr rfl
theorem gk:Cn 127=.l (.l (.l (.l (.l (.l (.l .o)))))):=nr rfl
theorem gj:Cn 128=.r (.l (.l (.l (.l (.l (.l .o)))))):=nr rfl
theorem gi:Cn 129=.l (.r (.l (.l (.l (.l (.l .o)))))):=nr rfl
theorem gf:Cn 130=.r (.r (.l (.l (.l (.l (.l .o)))))):=nr rfl
end Go.DD

/- Lists of lemmas as one name each. Conditions: those that each lemma states. -/
namespace Go.DD
open Go
set_option linter.defProp false
def J{a b:Prop}(x:a)(y:b):a/\b:=⟨x,y⟩
theorem JO{α:Type}(l:List α):l ++ []=l:=Bu l
theorem JN{α:Type}(l:List α):l.drop 0=l:=Fx
theorem JF{α β:Type}(f:α->β)(a:α)(l:List α):(a::l).map f=f a::l.map f:=Ao
theorem JE{α β:Type}(f:α->β):([]:List α).map f=[]:=Aq
theorem JD{α:Type}(l:List α):[]++l=l:=Bh l
theorem JM{α:Type}(a:α):(a=a)=True:=eq_self a
theorem JL{α:Type}[LE α]{x y:α} : x≥y↔y<=x:=ge_iff_le
theorem JK{α:Type}[LT α]{x y:α} : x>y↔y<x:=gt_iff_lt
theorem JJ{α:Type}[Decidable False](a b:α):(if False then a else b)=b:=Ae id
theorem JI[Decidable False](a b:Prop):(if False then a else b)=b:=Ae id
theorem JG{α:Type}[Decidable True](a b:α):(if True then a else b)=a:=Ah trivial
theorem JH[Decidable True](a b:Prop):(if True then a else b)=a:=Ah trivial
theorem O0(a b:Pa):(a.l=b.r)=False:=Uz nofun
theorem N5(a b:Pa):(a.r=b.l)=False:=Uz nofun
theorem N7(b:Pa):(Pa.o=b.l)=False:=Uz nofun
theorem N6(b:Pa):(Pa.o=b.r)=False:=Uz nofun
theorem O1(b:Pa):(b.l=.o)=False:=Uz nofun
theorem N4(b:Pa):(b.r=.o)=False:=Uz nofun
theorem N3{α:Type}(a:α):(some a=none)=False:=Uz nofun
theorem N8{α:Type}(a:α):(none=some a)=False:=Uz nofun
theorem N9{α:Type}(a b:α):(a≠b)=¬ (a=b):=ne_eq a b
def Am:=(J (J (J (J (J (J (J @oN @JM) (J @E0 @E3)) (J (J @E1 @E2) (J @PC @ZC))) (J (J (J @I9 @Bt9) (J @xy @xz)) (J (J @Cc9 @wX) (J @EE @EC)))) (J (J (J (J @EF @JU) (J @W6 @JF)) (J (J @JE @zv) (J @A59 @jz))) (J (J (J @N2 @zu) (J @nx_put @zt)) (J (J @IY @wY) (J @Cc2 @DZ))))) (J (J (J (J (J @yN @Sd) (J @Bt7 @Bt8)) (J (J @Cc3 @N9) (J @Th @not_true_eq_false))) (J (J (J @Bool.false_eq_true @Bool.true_eq_false) (J @true_imp_iff @false_imp_iff)) (J (J @and_true @true_and) (J @or_true @true_or)))) (J (J (J (J @and_self @JG) (J @JH @JJ)) (J (J @JI @Bool.not_true) (J @Bool.not_false @JL))) (J (J (J @JK @decide_true) (J @decide_false @Pa.l.injEq)) (J (J @Pa.r.injEq @Ce0) (J @Ys @Cd7)))))) (J (J (J (J (J (J @wW @BU) (J @FT @xP)) (J (J @xT @xR) (J @xQ @xS))) (J (J (J @Bk2 @Cb8) (J @Bd9 @zo)) (J (J @zn @look_nil) (J @Cc0 @Cb9)))) (J (J (J (J @Cc1 @JD) (J @JO @DY)) (J (J @Mo @E6) (J @E5 @Dh))) (J (J (J @yP @yL) (J @yM @yK)) (J (J @yJ @Cf4) (J @Cf5 @Int.natCast_zero))))) (J (J (J (J (J @H2 @H4) (J @H3 @H5)) (J (J @Ce1 @Ce2) (J @Int.ofNat_lt @Int.ofNat_le))) (J (J (J @Int.ofNat_inj @Nat.le_refl) (J @JN @Al.refl)) (J (J @Bool.false_xor @Bool.true_xor) (J @Bool.xor_false @Bool.xor_true)))) (J (J (J (J @G9 @H0) (J @yU @yI)) (J (J @Cd1 @Cd2) (J @Cd3 @yO))) (J (J (J @yH @O0) (J @N5 @N7)) (J (J @N6 @O1) (J @N4 (J @N3 @N8))))))))
def An:=(J (J (J (J (J @ew_s (J @W7 @QD)) (J (J @E7 @ew_b) (J @K9 @xK))) (J (J (J @xJ @PX) (J @xI @K8)) (J (J @fW @oD) (J @Cc6 @Cc7)))) (J (J (J @Cc8 (J @G7 @G6)) (J (J @G5 @G4) (J @DP @DO))) (J (J (J @wP @wV) (J @wS @DK)) (J (J @wM @wU) (J @J8 @Cd8))))) (J (J (J (J @z_l (J @z_r @wT)) (J (J @wN @Cb6) (J @xB @xA))) (J (J (J @K5 @K4) (J @xD @xC)) (J (J @xE @Cb7) (J @Bt6 @EP)))) (J (J (J (J @Cd9 @wR) (J @Bu7 @Bk1)) (J (J @As9 @Bj6) (J @Cd4 @Bu3))) (J (J (J @xH @xL) (J @wO @zr)) (J (J @zq @Cf3) (J @Cd0 @Cf2))))))
def Jn:=(J (J (J (J (J (J (J @Cw7 @Cw8) (J @Cn3 (J @QJ @QK))) (J (J @KL @KN) (J @KM (J @lj @lk)))) (J (J (J @oN @JM) (J @E0 (J @E3 @E1))) (J (J @E2 @PC) (J @tq (J @tt @tp))))) (J (J (J (J @ts @Cu8) (J @lf (J @ll @Cu9))) (J (J @Cv0 @kz) (J @Cm4 (J @Cv1 @KK)))) (J (J (J @Cv2 @Cv3) (J @ky (J @lg @KO))) (J (J @Cv4 (J @Bool.true_or @Bool.false_or)) (J @Bool.or_false (J @Bool.or_true @Bool.true_and)))))) (J (J (J (J (J @Bool.false_and @Bool.and_true) (J @Bool.and_false (J @ZC @I9))) (J (J @Bt9 @Cc9) (J @wX (J @EE @EC)))) (J (J (J @EF @JU) (J @W6 (J @JF @JE))) (J (J @zv @A59) (J @jz (J @N2 @zu))))) (J (J (J (J @nx_put @zt) (J @IY (J @wY @Cc2))) (J (J @DZ @yN) (J @Sd (J @Bt7 @Bt8)))) (J (J (J @Cc3 @N9) (J @Th (J @not_true_eq_false @Bool.false_eq_true))) (J (J @Bool.true_eq_false (J @true_imp_iff @false_imp_iff)) (J @and_true (J @true_and @or_true))))))) (J (J (J (J (J (J @true_or @and_self) (J @JG (J @JH @JJ))) (J (J @JI @Bool.not_true) (J @Bool.not_false (J @JL @JK)))) (J (J (J @decide_true @decide_false) (J @Pa.l.injEq (J @Pa.r.injEq @Ce0))) (J (J @Ys @Cd7) (J @wW (J @BU @FT))))) (J (J (J (J @xP @xT) (J @xR (J @xQ @xS))) (J (J @Bk2 @Cb8) (J @Bd9 (J @zo @zn)))) (J (J (J @look_nil @Cc0) (J @Cb9 (J @Cc1 @JD))) (J (J @JO (J @DY @Mo)) (J @E6 (J @E5 @Dh)))))) (J (J (J (J (J @yP @yL) (J @yM (J @yK @yJ))) (J (J @Cf4 @Cf5) (J @Int.natCast_zero (J @H2 @H4)))) (J (J (J @H3 @H5) (J @Ce1 (J @Ce2 @Int.ofNat_lt))) (J (J @Int.ofNat_le @Int.ofNat_inj) (J @Nat.le_refl (J @JN @Al.refl))))) (J (J (J (J @Bool.false_xor @Bool.true_xor) (J @Bool.xor_false (J @Bool.xor_true @G9))) (J (J @H0 @yU) (J @yI (J @Cd1 @Cd2)))) (J (J (J @Cd3 @yO) (J @yH (J @O0 @N5))) (J (J @N7 (J @N6 @O1)) (J @N4 (J @N3 @N8))))))))
def Jm:=(J (J (J (J (J (J @Cv5 @Cv6) (J @ew_s @W7)) (J (J @QD @E7) (J @ew_b @K9))) (J (J (J @xK @xJ) (J @PX @xI)) (J (J @K8 @fW) (J @FA (J @FB @Cm2))))) (J (J (J (J @Cm3 @Cn2) (J @FC @Cc6)) (J (J @Cc7 @Cc8) (J @G7 @G6))) (J (J (J @G5 @G4) (J @DP @DO)) (J (J @wP @wV) (J @wS (J @DK @wM)))))) (J (J (J (J (J @wU @J8) (J @Cd8 @z_l)) (J (J @z_r @wT) (J @wN @Cb6))) (J (J (J @xB @xA) (J @K5 @K4)) (J (J @xD @xC) (J @xE (J @Cb7 @Bt6))))) (J (J (J (J @EP @Cd9) (J @wR @Bu7)) (J (J @Bk1 @As9) (J @Bj6 @Cd4))) (J (J (J @Bu3 @xH) (J @xL @wO)) (J (J @zr @zq) (J @Cf3 (J @Cd0 @Cf2)))))))
def bR:=(J (J (J (J @oN @zv) (J @A59 (J @jz @N2))) (J (J @zu (J @nx_put @zt)) (J @Bd9 (J @zo @zn)))) (J (J (J @N9 (J @Th @Pa.l.injEq)) (J @Pa.r.injEq (J @O0 @N5))) (J (J @N7 (J @N6 @O1)) (J @N4 (J @N3 @N8)))))
def bP:=(J (J (J (J (J (J (J @p0 @p1) (J @p2 @p3)) (J (J @p4 @p5) (J @p6 @p7))) (J (J (J @p8 @p9) (J @p10 @p11)) (J (J @Z8 @p13) (J @UD @UC)))) (J (J (J (J @p16 @p17) (J @p18 @p19)) (J (J @p20 @p21) (J @p22 @p23))) (J (J (J @p24 @p25) (J @p26 @p27)) (J (J @p28 @p29) (J @p30 @p31))))) (J (J (J (J (J @p32 @p33) (J @p34 @p35)) (J (J @p36 @p37) (J @p38 @p39))) (J (J (J @p40 @p41) (J @p42 @p43)) (J (J @p44 @p45) (J @p46 @p47)))) (J (J (J (J @p48 @p49) (J @p50 @p51)) (J (J @p52 @p53) (J @p54 @p55))) (J (J (J @p56 @p57) (J @p58 @p59)) (J (J @p60 @p61) (J @p62 (J @p63 @p64))))))) (J (J (J (J (J (J @p65 @p66) (J @p67 @p68)) (J (J @p69 @p70) (J @p71 @p72))) (J (J (J @p73 @p74) (J @p75 @p76)) (J (J @p77 @p78) (J @p79 @p80)))) (J (J (J (J @p81 @p82) (J @p83 @p84)) (J (J @p85 @p86) (J @p87 @p88))) (J (J (J @p89 @p90) (J @p91 @p92)) (J (J @p93 @p94) (J @p95 (J @p96 @p97)))))) (J (J (J (J (J @p98 @p99) (J @jk @jj)) (J (J @ji @jh) (J @jg @jf))) (J (J (J @je @jd) (J @jc @jb)) (J (J @ja @iz) (J @iy @iw)))) (J (J (J (J @iu @iq) (J @ik @ij)) (J (J @ig @ie) (J @ic @gz))) (J (J (J @gv @gu) (J @gq @gp)) (J (J @gl @gk) (J @gj (J @gi @gf))))))))
end Go.DD

/- Contracts: integers compared; lists of integers compared. Conditions: those that each theorem states. -/
namespace Go.DD
open Go Go.Proofs
section
variable (k:Nat) (hp:Tr DObj) (nx:Nat) (K:DV->Tr DObj->Nat->Prop)
theorem Bk6(a:Int)(hK:K (bv false) hp nx):KW (kN (k+1)) (.fn 173) [iv a] hp nx K:=by
 refine Ds (Gb (by decide)) bz (Ab rfl) λes e1 e2 he=>?_
 have a0:Ac es (.t .o)=iv a:=he 0 _ rfl
 unfold HJ
 simp only [Am,↓An,bP,a0,e1,e2]
 exact hK
theorem Cw9(a b:Int)(hK:K (iv (Mc a b)) hp nx):KW (kN (k+2)) (.fn 141) [iv a,iv b] hp nx K:=by
 refine Ds (Gb (by decide)) cu (Ab rfl) λes e1 e2 he=>?_
 have a0:Ac es (.t .o)=iv a:=he 0 _ rfl
 have a1:Ac es (.t (.l .o))=iv b:=he 1 _ rfl
 unfold HT
 simp only [Am,↓An,a0,e1,e2]
 refine Dt (Bk6 k _ _ _ _ ?_)
 simp only [Am,↓An,a1,bv]
 refine Dt (Bk6 k _ _ _ _ ?_)
 unfold Mc at hK
 by_cases h1:a<b
 .rw [Ah h1] at hK
  simp only [Am,↓An,bP,a0,a1,h1,bv]
  exact hK
 .rw [Ae h1] at hK
  by_cases h2:b<a
  .rw [Ah h2] at hK
   simp only [Am,↓An,bP,a0,a1,h1,h2,bv]
   exact hK
  .rw [Ae h2] at hK
   simp only [Am,↓An,bP,a0,a1,h1,h2,bv]
   exact hK
end
section
variable (k n0:Nat) (hp:Tr DObj) (nx:Nat) (K:DV->Tr DObj->Nat->Prop) (d1 d2:DV) (l m:List Int) (hn:n0<=nx) (h1:RL rInt hp (Bl n0) d1 l) (h2:RL rInt hp (Bl n0) d2 m) (hl:l.length<900000)
include hn h1 h2 hl
theorem Cn4(hK:K (iv (Cd l m)) hp nx):KW (kN (k+3)) (.fn 75) [d1,d2] hp nx K:=by
 refine Ds (Gb (by decide)) t75 (Ab rfl) λes e1 e2 he=>?_
 have a0:Ac es (.t .o)=d1:=he 0 _ rfl
 have a1:Ac es (.t (.l .o))=d2:=he 1 _ rfl
 unfold r75
 simp only [Am,↓An,a0,e1,h1.len]
 refine EW.up l.length (λi es1=>es1.hp=hp/\es1.nx=nx/\Ac es1 (.t .o)=d1/\Ac es1 (.t (.l .o))=d2/\Ac es1 (.t (.l (.r (.l .o))))=d1/\Ac es1 (.t (.r (.r (.l .o))))=iv l.length/\Ac es1 (.t (.l (.l (.r .o))))=iv (i:Nat)/\Cd l m=Cd (l.drop i) (m.drop i)) ?_ ?_ (by omega)
 .rintro i es1 hi ⟨g1,g2,b0,b1,b9,b10,b11,hc⟩
  unfold zD
  by_cases c1:i<l.length
  .by_cases c2:i<m.length
   .have hd:Cd (l.drop i) (m.drop i)=if Mc l[i] m[i]=0 then Cd (l.drop (i+1)) (m.drop (i+1)) else Mc l[i] m[i]:=by
     rw [As c1,As c2];rfl
    have c3:¬ m.length<=i:=by omega
    simp only [Am,↓An,b1,b9,b10,b11,g1,nQ h1 c1,nQ h2 c2,ints_at h1 c1,ints_at h2 c2,h2.len,c1,c3]
    refine Dt (Cw9 k _ _ _ _ _ ?_)
    by_cases c4:Mc l[i] m[i]=0
    .rw [Ah c4] at hd
     simp only [Am,↓An,b0,b1,b9,b10,b11,c4,Hn (show i<_ by omega)]
     exact ⟨c1,g2,by rw [hc,hd]⟩
    .rw [Ae c4] at hd
     simp only [Am,↓An,bP,c4]
     rw [<- hd,<- hc,g2];exact hK
   .have hd:Cd (l.drop i) (m.drop i)=1:=by
     rw [As c1,Av (show m.length<=i by omega)];rfl
    have c3:m.length<=i:=by omega
    simp only [Am,↓An,bP,b1,b9,b10,b11,g1,nQ h1 c1,ints_at h1 c1,h2.len,c1,c3]
    rw [hc,hd] at hK;rw [g2];exact hK
  .have qE:i=l.length:=by omega
   have hd:Cd (l.drop i) (m.drop i)=if l.length<m.length then -1 else 0:=by
    rw [Av (show l.length<=i by omega)]
    by_cases c3:i<m.length
    .rw [As c3,Ah (by omega)];rfl
    .rw [Av (show m.length<=i by omega),Ae (by omega)];rfl
   by_cases c3:l.length<m.length
   .rw [Ah c3] at hd
    simp only [Am,↓An,bP,b0,b1,b10,b11,g1,h1.len,h2.len,c1,c3]
    rw [hc,hd] at hK;rw [g2];exact hK
   .rw [Ae c3] at hd
    simp only [Am,↓An,bP,b0,b1,b10,b11,g1,h1.len,h2.len,c1,c3]
    rw [hc,hd] at hK;rw [g2];exact hK
 .simp only [Am,a0,a1,e1,e2]
theorem wL(hK:K (iv (Cd l m)) hp nx):KW (kN (k+4)) (.fn 24) [d1,d2] hp nx K:=by
 refine Ds (Gb (by decide)) t24 (Ab rfl) λes e1 e2 he=>?_
 have a0:Ac es (.t .o)=d1:=he 0 _ rfl
 have a1:Ac es (.t (.l .o))=d2:=he 1 _ rfl
 unfold r24
 simp only [Am,↓An,a0,a1,e1,e2]
 refine Dt (Cn4 k n0 _ _ _ d1 d2 l m hn h1 h2 hl ?_)
 simp only [Am,↓An,bP]
 exact hK
end
end Go.DD

/- Contracts: equal lists of integers, values, dimensions, attributes. Conditions: those that each theorem states. -/
namespace Go.DD
open Go Go.Proofs
theorem Cx0(k n0:Nat)(hp:Tr DObj)(nx:Nat)(K:DV->Tr DObj->Nat->Prop)(d1 d2:DV)(l m:List Int)(hn:n0<=nx)(h1:RL rInt hp (Bl n0) d1 l)(h2:RL rInt hp (Bl n0) d2 m)(hl:l.length<900000)(hK:∀ Ba,nx<=Ba->K (bv (decide (l=m))) hp Ba):KW (kN (k+1)) (.fn 80) [d1,d2] hp nx K:=by
 refine Ds (Gb (by decide)) t80 (Ab rfl) λes e1 e2 he=>?_
 have a0:Ac es (.t .o)=d1:=he 0 _ rfl
 have a1:Ac es (.t (.l .o))=d2:=he 1 _ rfl
 unfold r80
 by_cases hlen:l.length=m.length
 .simp only [Am,↓An,a0,a1,e1,h1.len,h2.len,hlen]
  refine EW.up l.length (λi es1=>es1.hp=hp/\nx<=es1.nx/\Ac es1 (.t .o)=d1/\Ac es1 (.t (.l .o))=d2/\Ac es1 (.t (.r (.l (.r .o))))=iv l.length/\Ac es1 (.t (.l (.r (.r .o))))=iv (i:Nat)/\(l=m↔l.drop i=m.drop i)) ?_ ?_ (by omega)
  .rintro i es1 hi ⟨g1,g2,b0,b1,Ig,Na,hc⟩
   unfold yY
   by_cases c1:i<l.length
   .have c2:i<m.length:=by omega
    rw [SF c1 c2] at hc
    by_cases c4:l[i]=m[i]
    .simp only [Am,↓An,b0,b1,Ig,Na,g1,c1,nQ h1 c1,nQ h2 c2,ints_at h1 c1,ints_at h2 c2,h1.rox (show n0<=es1.nx by omega),h2.rox (show n0<=es1.nx by omega),Y7 h1 (show n0<=es1.nx by omega),Y7 h2 (show n0<=es1.nx by omega),c4,Hn (show i<_ by omega)]
     exact ⟨by omega,by rw [hc];simp [c4]⟩
    .simp only [Am,↓An,bP,b0,b1,Ig,Na,g1,c1,nQ h1 c1,nQ h2 c2,ints_at h1 c1,ints_at h2 c2,h1.rox (show n0<=es1.nx by omega),h2.rox (show n0<=es1.nx by omega),Y7 h1 (show n0<=es1.nx by omega),Y7 h2 (show n0<=es1.nx by omega),c4]
     have:¬ l=m:=by rw [hc];simp [c4]
     have hh:=hK (es1.nx+9) (by omega)
     rw [Ad this] at hh
     exact hh
   .have:l=m:=hc.2 (by rw [Av (by omega),Av (by omega)])
    simp only [Am,↓An,bP,Ig,Na,g1,c1]
    have hh:=hK es1.nx g2
    rw [Ai this] at hh
    exact hh
  .simp only [Am,a0,a1,e1,e2,hlen]
 .simp only [Am,↓An,bP,a0,a1,e1,e2,h1.len,h2.len,hlen]
  have:¬ l=m:=λe=>hlen (by rw [e])
  have hh:=hK nx (Af _)
  rw [Ad this] at hh
  exact hh
theorem RQ(k n0:Nat)(hp:Tr DObj)(nx:Nat)(K:DV->Tr DObj->Nat->Prop)(d1 d2:DV)(l m:List PVal)(hn:n0<=nx)(h1:RL rVal hp (Bl n0) d1 l)(h2:RL rVal hp (Bl n0) d2 m)(hl:l.length<900000)(hK:∀ Ba,nx<=Ba->K (bv (decide (l=m))) hp Ba):KW (kN (k+1)) (.fn 69) [d1,d2] hp nx K:=by
 refine Ds (Gb (by decide)) t69 (Ab rfl) λes e1 e2 he=>?_
 have a0:Ac es (.t .o)=d1:=he 0 _ rfl
 have a1:Ac es (.t (.l .o))=d2:=he 1 _ rfl
 unfold r69
 by_cases hlen:l.length=m.length
 .simp only [Am,↓An,a0,a1,e1,h1.len,h2.len,hlen]
  refine EW.up l.length (λi es1=>es1.hp=hp/\nx<=es1.nx/\Ac es1 (.t .o)=d1/\Ac es1 (.t (.l .o))=d2/\Ac es1 (.t (.r (.l (.r .o))))=iv l.length/\Ac es1 (.t (.l (.r (.r .o))))=iv (i:Nat)/\(l=m↔l.drop i=m.drop i)) ?_ ?_ (by omega)
  .rintro i es1 hi ⟨g1,g2,b0,b1,Ig,Na,hc⟩
   unfold zE
   by_cases c1:i<l.length
   .have c2:i<m.length:=by omega
    rw [SF c1 c2] at hc
    by_cases c4:l[i]=m[i]
    .simp only [Am,↓An,bP,b0,b1,Ig,Na,g1,c1,Y2 h1 c1,Y2 h2 c2,BS h1 c1,BS h2 c2,h1.rox (show n0<=es1.nx by omega),h2.rox (show n0<=es1.nx by omega),XV h1 (show n0<=es1.nx by omega),XV h2 (show n0<=es1.nx by omega),CU,BZ (show DV.refsL (vc _)=[] from rfl),I4 (show DV.refsL (vc _)=[] from rfl),Zk,F4,Cb,c4,Hn (show i<_ by omega)]
     exact ⟨by omega,by rw [hc];simp [c4]⟩
    .simp only [Am,↓An,bP,b0,b1,Ig,Na,g1,c1,Y2 h1 c1,Y2 h2 c2,BS h1 c1,BS h2 c2,h1.rox (show n0<=es1.nx by omega),h2.rox (show n0<=es1.nx by omega),XV h1 (show n0<=es1.nx by omega),XV h2 (show n0<=es1.nx by omega),CU,BZ (show DV.refsL (vc _)=[] from rfl),I4 (show DV.refsL (vc _)=[] from rfl),Zk,F4,Cb,c4]
     have:¬ l=m:=by rw [hc];simp [c4]
     have hh:=hK (es1.nx+9) (by omega)
     rw [Ad this] at hh
     exact hh
   .have:l=m:=hc.2 (by rw [Av (by omega),Av (by omega)])
    simp only [Am,↓An,bP,Ig,Na,g1,c1]
    have hh:=hK es1.nx g2
    rw [Ai this] at hh
    exact hh
  .simp only [Am,a0,a1,e1,e2,hlen]
 .simp only [Am,↓An,bP,a0,a1,e1,e2,h1.len,h2.len,hlen]
  have:¬ l=m:=λe=>hlen (by rw [e])
  have hh:=hK nx (Af _)
  rw [Ad this] at hh
  exact hh
theorem Cf6(k n0:Nat)(hp:Tr DObj)(nx:Nat)(K:DV->Tr DObj->Nat->Prop)(d1 d2:DV)(l m:List PDim)(hn:n0<=nx)(h1:RL rDim hp (Bl n0) d1 l)(h2:RL rDim hp (Bl n0) d2 m)(hl:l.length<900000)(hK:∀ Ba,nx<=Ba->K (bv (decide (l=m))) hp Ba):KW (kN (k+1)) (.fn 76) [d1,d2] hp nx K:=by
 refine Ds (Gb (by decide)) t76 (Ab rfl) λes e1 e2 he=>?_
 have a0:Ac es (.t .o)=d1:=he 0 _ rfl
 have a1:Ac es (.t (.l .o))=d2:=he 1 _ rfl
 unfold r76
 by_cases hlen:l.length=m.length
 .simp only [Am,↓An,a0,a1,e1,h1.len,h2.len,hlen]
  refine EW.up l.length (λi es1=>es1.hp=hp/\nx<=es1.nx/\Ac es1 (.t .o)=d1/\Ac es1 (.t (.l .o))=d2/\Ac es1 (.t (.r (.l (.r .o))))=iv l.length/\Ac es1 (.t (.l (.r (.r .o))))=iv (i:Nat)/\(l=m↔l.drop i=m.drop i)) ?_ ?_ (by omega)
  .rintro i es1 hi ⟨g1,g2,b0,b1,Ig,Na,hc⟩
   unfold zC
   by_cases c1:i<l.length
   .have c2:i<m.length:=by omega
    rw [SF c1 c2] at hc
    by_cases c4:l[i]=m[i]
    .simp only [Am,↓An,bP,b0,b1,Ig,Na,g1,c1,wF h1 c1,wF h2 c2,(tF h1 c1).1,(tF h2 c2).1,h1.rox (show n0<=es1.nx by omega),h2.rox (show n0<=es1.nx by omega),XT h1 (show n0<=es1.nx by omega),XT h2 (show n0<=es1.nx by omega),CU,BZ (show DV.refsL (dc _)=[] from rfl),I4 (show DV.refsL (dc _)=[] from rfl),Zk,F5,Cb,c4,Hn (show i<_ by omega)]
     exact ⟨by omega,by rw [hc];simp [c4]⟩
    .simp only [Am,↓An,bP,b0,b1,Ig,Na,g1,c1,wF h1 c1,wF h2 c2,(tF h1 c1).1,(tF h2 c2).1,h1.rox (show n0<=es1.nx by omega),h2.rox (show n0<=es1.nx by omega),XT h1 (show n0<=es1.nx by omega),XT h2 (show n0<=es1.nx by omega),CU,BZ (show DV.refsL (dc _)=[] from rfl),I4 (show DV.refsL (dc _)=[] from rfl),Zk,F5,Cb,c4]
     have:¬ l=m:=by rw [hc];simp [c4]
     have hh:=hK (es1.nx+9) (by omega)
     rw [Ad this] at hh
     exact hh
   .have:l=m:=hc.2 (by rw [Av (by omega),Av (by omega)])
    simp only [Am,↓An,bP,Ig,Na,g1,c1]
    have hh:=hK es1.nx g2
    rw [Ai this] at hh
    exact hh
  .simp only [Am,a0,a1,e1,e2,hlen]
 .simp only [Am,↓An,bP,a0,a1,e1,e2,h1.len,h2.len,hlen]
  have:¬ l=m:=λe=>hlen (by rw [e])
  have hh:=hK nx (Af _)
  rw [Ad this] at hh
  exact hh
theorem Cf7(k n0:Nat)(hp:Tr DObj)(nx:Nat)(K:DV->Tr DObj->Nat->Prop)(d1 d2:DV)(l m:List PAttr)(hn:n0<=nx)(h1:RL rAttr hp (Bl n0) d1 l)(h2:RL rAttr hp (Bl n0) d2 m)(hl:l.length<900000)(hK:∀ Ba,nx<=Ba->K (bv (decide (l=m))) hp Ba):KW (kN (k+1)) (.fn 77) [d1,d2] hp nx K:=by
 refine Ds (Gb (by decide)) t77 (Ab rfl) λes e1 e2 he=>?_
 have a0:Ac es (.t .o)=d1:=he 0 _ rfl
 have a1:Ac es (.t (.l .o))=d2:=he 1 _ rfl
 unfold r77
 by_cases hlen:l.length=m.length
 .simp only [Am,↓An,a0,a1,e1,h1.len,h2.len,hlen]
  refine EW.up l.length (λi es1=>es1.hp=hp/\nx<=es1.nx/\Ac es1 (.t .o)=d1/\Ac es1 (.t (.l .o))=d2/\Ac es1 (.t (.r (.l (.r .o))))=iv l.length/\Ac es1 (.t (.l (.r (.r .o))))=iv (i:Nat)/\(l=m↔l.drop i=m.drop i)) ?_ ?_ (by omega)
  .rintro i es1 hi ⟨g1,g2,b0,b1,Ig,Na,hc⟩
   unfold zB
   by_cases c1:i<l.length
   .have c2:i<m.length:=by omega
    rw [SF c1 c2] at hc
    by_cases c4:l[i]=m[i]
    .simp only [Am,↓An,bP,b0,b1,Ig,Na,g1,c1,J3 h1 c1,J3 h2 c2,(J5 h1 c1).1,(J5 h2 c2).1,h1.rox (show n0<=es1.nx by omega),h2.rox (show n0<=es1.nx by omega),CG h1 (show n0<=es1.nx by omega),CG h2 (show n0<=es1.nx by omega),CU,BZ (show DV.refsL (ac _)=[] from rfl),I4 (show DV.refsL (ac _)=[] from rfl),Zk,F6,Cb,c4,Hn (show i<_ by omega)]
     exact ⟨by omega,by rw [hc];simp [c4]⟩
    .simp only [Am,↓An,bP,b0,b1,Ig,Na,g1,c1,J3 h1 c1,J3 h2 c2,(J5 h1 c1).1,(J5 h2 c2).1,h1.rox (show n0<=es1.nx by omega),h2.rox (show n0<=es1.nx by omega),CG h1 (show n0<=es1.nx by omega),CG h2 (show n0<=es1.nx by omega),CU,BZ (show DV.refsL (ac _)=[] from rfl),I4 (show DV.refsL (ac _)=[] from rfl),Zk,F6,Cb,c4]
     have:¬ l=m:=by rw [hc];simp [c4]
     have hh:=hK (es1.nx+9) (by omega)
     rw [Ad this] at hh
     exact hh
   .have:l=m:=hc.2 (by rw [Av (by omega),Av (by omega)])
    simp only [Am,↓An,bP,Ig,Na,g1,c1]
    have hh:=hK es1.nx g2
    rw [Ai this] at hh
    exact hh
  .simp only [Am,a0,a1,e1,e2,hlen]
 .simp only [Am,↓An,bP,a0,a1,e1,e2,h1.len,h2.len,hlen]
  have:¬ l=m:=λe=>hlen (by rw [e])
  have hh:=hK nx (Af _)
  rw [Ad this] at hh
  exact hh
end Go.DD

/- Contracts: names, bounds of dimensions; maps of names. Conditions: those that each theorem states. -/
namespace Go.DD
open Go Go.Proofs
def M9(l:List UInt8)(i:Nat):Prop:=∀ j,(h:j<l.length)->j<i->(j=0->lD l[j]=true)/\Nq l[j]=true
theorem B65{l:List UInt8}(h:M9 l l.length)(h0:l≠[]):Sm l=true:=by
 cases l with
 | nil=>exact absurd rfl h0
 | cons c cs=>
  have h1:=h 0 (by simp) (by simp)
  simp only [Sm,Bq,Ay]
  refine ⟨h1.1 rfl,λx hx=>?_⟩
  obtain ⟨j,hj,rfl⟩:=Bx.1 hx
  exact (h (j+1) (by simpa using hj) (by simpa using hj)).2
theorem Bk7{l:List UInt8}(h:Sm l=true):M9 l l.length:=by
 cases l with
 | nil=>intro j hj;simp at hj
 | cons c cs=>
  simp only [Sm,Bq,Ay] at h
  intro j hj _
  cases j with
  | zero=>exact ⟨λ_=>h.1,by simp [Nq,h.1]⟩
  | succ j=>exact ⟨λh=>by omega,h.2 _ (by simp)⟩
theorem IU{l:List UInt8}{i:Nat}(h:M9 l i)(hi:i<l.length)(h1:i=0->lD l[i]=true)(h2:Nq l[i]=true):M9 l (i+1):=λj hj Fb=>by
 by_cases e:j=i
 .subst e;exact ⟨h1,h2⟩
 .exact h j hj (by omega)
theorem A25{s:ByteArray}(h:¬ (1<=s.data.toList.length/\s.data.toList.length<=12)):Nr s=false:=by
 unfold Nr
 by_cases h1:s.size<=12
 .have:s.data.toList=[]:=Ex (by have:s.data.toList.length=s.size:=rfl;omega)
  rw [this];simp [Sm]
 .rw [Ad h1];rfl
theorem Bv2{s:ByteArray}(h:Sm s.data.toList=false):Nr s=false:=by unfold Nr;rw [h,Bool.and_false]
theorem Cn5{s:ByteArray}(h:M9 s.data.toList s.data.toList.length)(h1:1<=s.data.toList.length/\s.data.toList.length<=12):Nr s=true:=by
 unfold Nr
 rw [B65 h (λe=>by rw [e] at h1;simp at h1),Ai (show s.size<=12 from h1.2)];rfl
theorem IW{l:List UInt8}{i:Nat}(hi:i<l.length)(h:Nq l[i]=false):Sm l=false:=by
 rw [Ir]
 intro hn
 have:=(Bk7 hn i hi hi).2
 rw [h] at this;cases this
theorem IX{l:List UInt8}(hi:0<l.length)(h:lD l[0]=false):Sm l=false:=by
 rw [Ir]
 intro hn
 have:=(Bk7 hn 0 hi hi).1 rfl
 rw [h] at this;cases this
section
variable (k:Nat) (hp:Tr DObj) (nx:Nat) (K:DV->Tr DObj->Nat->Prop)
theorem Be4(s:ByteArray)(hK:K (bv (Nr s)) hp nx):KW (kN (k+1)) (.fn 83) [sv s] hp nx K:=by
 refine Ds (Gb (by decide)) t83 (Ab rfl) λes e1 e2 he=>?_
 have a0:Ac es (.t .o)=sv s:=he 0 _ rfl
 unfold r83
 have Hq:s.data.toList.length=s.size:=rfl
 by_cases c1:(s.size:Int)<1
 .simp only [Am,↓An,bP,a0,e1,e2,c1]
  exact kb hK (Eq.symm (A25 (by omega)))
 by_cases c2:(12:Int)<s.size
 .simp only [Am,↓An,bP,a0,e1,e2,c1,c2]
  exact kb hK (Eq.symm (A25 (by omega)))
 simp only [Am,↓An,bP,a0,e1,c1,c2]
 refine EW.up s.data.toList.length (λi es1=>es1.hp=hp/\es1.nx=nx/\Ac es1 (.t (.l (.l (.l (.l .o)))))=.sl (s.data.toList.map λc=>.v (.int .u8 (c.toNat:Int))) s.size/\Ac es1 (.t (.r (.l (.l (.l .o)))))=iv (s.size:Nat)/\Ac es1 (.t (.l (.r (.l (.l .o)))))=iv (i:Nat)/\M9 s.data.toList i) ?_ ?_ (by omega)
 .rintro i es1 hi ⟨g1,g2,b15,b16,We,hc⟩
  unfold yX
  by_cases h1:i<s.size
  .have jZ:Ms hp 1 (.sl (s.data.toList.map λc=>.v (.int .u8 (c.toNat:Int))) s.size) (.v (.int .i64 (i:Int)))=some (.ia ((s.data.toList.map λc=>.v (.int .u8 (c.toNat:Int))).drop (i*1))):=kx h1
   have hu:=EI (show i<s.data.toList.length from h1)
   have Vt:∀ c,c=s.data.toList[i]->(Nq c=false\/(i=0/\lD c=false))->false=Nr s:=by
    rintro c rfl (h | ⟨h0,h⟩)
    .exact (Bv2 (IW h1 h)).symm
    .subst h0;exact (Bv2 (IX h1 h)).symm
   have Zg:∀ c,c=s.data.toList[i]->Nq c=true->(i=0->lD c=true)->M9 s.data.toList (i+1):=by
    rintro c rfl h h2
    exact IU hc h1 h2 h
   generalize s.data.toList[i]=c at hu Vt Zg
   have Vt:=Vt c rfl
   have Zg:=Zg c rfl
   by_cases c1:(97:Int)<=c.toNat
   .by_cases c2:(c.toNat:Int)<=122
    .simp only [Am,↓An,b15,b16,We,g1,g2,h1,jZ,hu,c1,c2,Hn (show i<_ by omega)]
     exact ⟨h1,Zg (by simp [Nq,lD,c1,c2]) (by simp [lD,c1,c2])⟩
    .by_cases c0:(i:Int)=0
     .simp only [Am,↓An,bP,b15,b16,We,g1,g2,h1,jZ,hu,c1,c2,Ai c0]
      exact kb hK (Vt (.inr ⟨by omega,by simp [lD,c1,c2]⟩))
     .simp only [Am,↓An,bP,b15,b16,We,g1,g2,h1,jZ,hu,c1,c2,c0,show ¬ (c.toNat:Int)=95 by omega,show ¬ (c.toNat:Int)<48 by omega,show (57:Int)<c.toNat by omega]
      exact kb hK (Vt (.inl (by simp [Nq,lD,c1,c2];omega)))
   .by_cases c0:(i:Int)=0
    .simp only [Am,↓An,bP,b15,b16,We,g1,g2,h1,jZ,hu,c1,Ai c0]
     exact kb hK (Vt (.inr ⟨by omega,by simp [lD,c1]⟩))
    .by_cases c3:(c.toNat:Int)=95
     .simp only [Am,↓An,b15,b16,We,g1,g2,h1,jZ,hu,c1,c0,show decide (¬ (c.toNat:Int)=95)=false by simp [c3],Hn (show i<_ by omega)]
      exact ⟨h1,Zg (by simp [Nq,c3]) (λh=>by omega)⟩
     .by_cases c4:(c.toNat:Int)<48
      .simp only [Am,↓An,bP,b15,b16,We,g1,g2,h1,jZ,hu,c1,c0,c3,c4]
       exact kb hK (Vt (.inl (by simp [Nq,lD,c1,c3];omega)))
      .by_cases c5:(57:Int)<c.toNat
       .simp only [Am,↓An,bP,b15,b16,We,g1,g2,h1,jZ,hu,c1,c0,c3,c4,c5]
        exact kb hK (Vt (.inl (by simp [Nq,lD,c1,c3];omega)))
       .simp only [Am,↓An,b15,b16,We,g1,g2,h1,jZ,hu,c1,c0,c3,c4,c5,Hn (show i<_ by omega)]
        exact ⟨h1,Zg (by simp [Nq,c3];omega) (λh=>by omega)⟩
  .simp only [Am,↓An,bP,b16,We,g1,g2,h1]
   obtain rfl:i=s.data.toList.length:=by omega
   exact kb hK (Eq.symm (Cn5 hc (by omega)))
 .simp only [Am,e1,e2]
  exact λj _ h=>by omega
end
end Go.DD

/- Contracts: bounds of dimensions; maps of names. Conditions: those that each theorem states. -/
namespace Go.DD
open Go Go.Proofs
theorem A65(a:Int):uL false (.v (.int .i64 a)) (.v (.int .i64 1073741824))=some (.v (.int .i64 (min a 1073741824))):=Cd5 _ _ _ _
theorem rQ{hp:Tr DObj}{id T:Nat}{x:PDim}(h:hp.get id=some (.row T (dc x))):(Ow hp 0 (.pt id 0)=some (.pt id 0)/\Ow hp 1 (.pt id 0)=some (.pt id 1)/\Ow hp 2 (.pt id 0)=some (.pt id 2))/\Hk hp none (.pt id 0)=some (sv x.name)/\Hk hp none (.pt id 1)=some (iv x.lo)/\Hk hp none (.pt id 2)=some (iv x.hi):=by
 refine ⟨⟨Pp h,Pp h,Pp h⟩,?_,?_,?_⟩ <;> rw [Nt h] <;> rfl
theorem RB{hp:Tr DObj}{id T:Nat}{x:PAttr}(h:hp.get id=some (.row T (ac x))):(Ow hp 0 (.pt id 0)=some (.pt id 0)/\Ow hp 1 (.pt id 0)=some (.pt id 1))/\Hk hp none (.pt id 0)=some (sv x.name)/\Hk hp none (.pt id 1)=some (iv x.type):=by
 refine ⟨⟨Pp h,Pp h⟩,?_,?_⟩ <;> rw [Nt h] <;> rfl
section
variable (k:Nat) (hp:Tr DObj) (nx:Nat) (K:DV->Tr DObj->Nat->Prop) (x:PDim)
theorem Cn6(hK:∀ Ap Ba,Al hp nx Ap Ba->K (iv (bO x)) Ap Ba):KW (kN (k+1)) (.fn 180) [.agg (dc x)] hp nx K:=by
 refine Ds (Gb (by decide)) bt (Ab rfl) λes e1 e2 he=>?_
 have a0:Ac es (.t .o)=.agg (dc x):=he 0 _ rfl
 unfold HG
 simp only [↓An]
 refine Tm (cs:=dc x) (by rw [Di,a0];exact eL rfl) λDv Dc Cr=>?_
 simp only [bR,e1,e2] at Dc Cr
 obtain ⟨⟨_,_,f2⟩,_,_,l2⟩:=rQ Dc
 simp only [Am,↓An,bP,e2,f2,l2,A65]
 exact hK _ _ ⟨by omega,λj hj=>Cr j (by omega)⟩
end
structure MapS (hp:Tr DObj) (im:Nat) (met:List ByteArray):Prop where
 ex:∃ ck es,hp.get im=some (.mapo ck es)/\(∀ e∈es,e.v=bv true/\∃ s∈met,e.k=.string s)/\∀ s∈met,∃ e∈es,e.k=.string s
theorem MapS.nil{hp:Tr DObj}{im ck:Nat}(h:hp.get im=some (.mapo ck [])):MapS hp im []:=⟨ck,[],h,(λ_ h=>by cases h),(λ_ h=>by cases h)⟩
theorem MapS.keep{hp Ap:Tr DObj}{im:Nat}{met:List ByteArray}(h:MapS hp im met)(hk:Ap.get im=hp.get im):MapS Ap im met:=by
 obtain ⟨ck,es,h1,h2,h3⟩:=h
 exact ⟨ck,es,hk.trans h1,h2,h3⟩
theorem memB_iff{s:ByteArray}{l:List ByteArray} : bN s l=true↔s∈l:=by
 unfold bN
 rw [On]
 constructor
 .rintro ⟨x,hx,he⟩
  rw [<- Fw he];exact hx
 .intro h;exact ⟨s,h,Ai rfl⟩
theorem QH(a b:ByteArray):(a.data.toList==b.data.toList)=decide (a=b):=by
 rw [<- Lg,ByteArray.toList_eq,ByteArray.toList_eq]
theorem rJ:∀ (es:List ME) (s:ByteArray) (i:Nat),(∀ e∈es,∃ t,e.k=.string t)->(findD (.p .string) (.string s) es i=some none/\∀ e∈es,e.k≠.string s)\/∃ j e,findD (.p .string) (.string s) es i=some (some (i+j,e))/\e∈es/\e.k=.string s/\es[j]?=some e
 | [],s,i,_=>.inl ⟨rfl,λ_ h=>by cases h⟩
 | e::es,s,i,hk=>by
  obtain ⟨t,ht⟩:=hk e (Hz ..)
  have hs:Pw (.p .string) (.string s) e.k=some (decide (s=t)):=by
   rw [ht]
   show some (s.data.toList==t.data.toList)=_
   rw [QH]
  by_cases h:s=t
  .refine .inr ⟨0,e,?_,Hz ..,by rw [ht,h],rfl⟩
   unfold findD;rw [hs,Ai h];rfl
  .have hfd:findD (.p .string) (.string s) (e::es) i=findD (.p .string) (.string s) es (i+1):=by
    conv=>lhs;unfold findD
    rw [hs,Ad h]
   rcases rJ es s (i+1) (λe he=>hk e (Bn _ he)) with ⟨h1,h2⟩ | ⟨j,e',h1,h2,h3,h4⟩
   .refine .inl ⟨hfd.trans h1,λx hx=>?_⟩
    rcases Ak.1 hx with rfl | hx
    .rw [ht];intro e;exact h (Value.string.inj e).symm
    .exact h2 x hx
   .exact .inr ⟨j+1,e',by rw [hfd,h1,Nat.add_assoc,Nat.add_comm 1 j],Bn _ h2,h3,by simpa using h4⟩
theorem MapS.lkp{hp:Tr DObj}{im:Nat}{met:List ByteArray}(h:MapS hp im met)(s:ByteArray):Qo hp (.p .string) (.bool false) (.mp im) (.v (.string s))=some (.v (.bool (bN s met))):=by
 obtain ⟨ck,es,h1,h2,h3⟩:=h
 unfold Qo
 show (if nN (.p .string) (.string s)=true then _ else none)=_
 rw [Ah (by rfl)]
 simp only [h1]
 rcases rJ es s 0 (λe he=>by obtain ⟨_,t,_,ht⟩:=h2 e he;exact ⟨t,ht⟩) with ⟨h4,h5⟩ | ⟨j,e,h4,h5,h6,_⟩
 .rw [h4]
  have:bN s met=false:=by
   rw [Ir]
   intro hm
   obtain ⟨e,he,hs⟩:=h3 s (memB_iff.1 hm)
   exact h5 e he hs
  rw [this];rfl
 .rw [h4]
  obtain ⟨hv,t,ht,hkt⟩:=h2 e h5
  have:t=s:=by rw [h6] at hkt;exact (Value.string.inj hkt).symm
  subst this
  rw [memB_iff.2 ht]
  simp only [Io]
  rw [hv];rfl
theorem Bk8{call:Bf}{es:ES}{dst:Option Pa}{q:Hold (ES->Prop)}{x k y:Operand}{im:Nat}{met:List ByteArray}{s:ByteArray}(hm:MapS es.hp im met)(e1:es.ds.ev x=.mp im)(e2:es.ds.ev k=sv s)(e3:es.ds.ev y=bv true)
  (h:∀ Ap,MapS Ap im (met ++ [s])->(∀ j,j≠im->Ap.get j=es.hp.get j)->q.val ((ES.mk es.sl Ap es.nx).putE dst .any)) :
  Mv (sU dst (Bc (.mup (.p .string) x k y))) call es:=by
 obtain ⟨ck,l,h1,h2,h3⟩:=hm
 show SW _ _ _ _
 rw [sw_u,Hf]
 have key:∀ Wd By,Qm (.p .string) (.string s) (bv true) ck l=some (Wd,By)->Bb es.nx es.ds (.mup (.p .string) x k y)=some (.any,.wr im (.mapo Wd By)):=by
  intro Wd By hp
  simp only [Bb,e1,e2,e3,Ya,sv]
  rw [Ah (by rfl)]
  show (match es.hp.get im with
   | some (.mapo ck es)=>match Qm (.p .string) (.string s) (bv true) ck es with
    | some p=>some (DV.any,Upd.wr im (.mapo p.1 p.2))
    | none=>none
   | _=>none)=_
  rw [h1]
  simp only [hp]
 have fin:∀ Wd By,Qm (.p .string) (.string s) (bv true) ck l=some (Wd,By)->(∀ e∈By,e.v=bv true/\∃ t∈met ++ [s],e.k=.string t)->(∀ t∈met ++ [s],∃ e∈By,e.k=.string t)->UW (Bb es.nx es.ds (.mup (.p .string) x k y)) λd u=>q.val ((es.up u).putE dst d):=by
  intro Wd By hp h4 h5
  exact ⟨_,_,key Wd By hp,h (es.up (.wr im (.mapo Wd By))).hp ⟨Wd,By,by rw [Mk,get_set,Ah rfl],h4,h5⟩ λj hj=>by rw [Mk,get_set,Ae hj]⟩
 rcases rJ l s 0 (λe he=>by obtain ⟨_,t,_,ht⟩:=h2 e he;exact ⟨t,ht⟩) with ⟨h4,h5⟩ | ⟨j,e,h4,h5,h6,h7⟩
 .refine fin (ck+1) (l ++ [⟨.string s,bv true,ck⟩]) (by unfold Qm;rw [h4]) (λe he=>?_) (λt ht=>?_)
  .rcases Bo.1 he with he | he
   .obtain ⟨a,t,b,c⟩:=h2 e he
    exact ⟨a,t,Dw _ b,c⟩
   .obtain rfl:=Bk.1 he
    exact ⟨rfl,s,by simp,rfl⟩
  .rcases Bo.1 ht with ht | ht
   .obtain ⟨e,he,hk⟩:=h3 t ht
    exact ⟨e,Dw _ he,hk⟩
   .obtain rfl:=Bk.1 ht
    exact ⟨_,Dm _ (Bk.2 rfl),rfl⟩
 .have hj:j<l.length:=(Ar.1 h7).1
  refine fin ck (l.set j ⟨.string s,bv true,e.b⟩) (by unfold Qm;rw [h4,Er]) (λx hx=>?_) (λt ht=>?_)
  .rcases Se hx with hx | hx
   .obtain ⟨a,t,b,c⟩:=h2 x hx
    exact ⟨a,t,Dw _ b,c⟩
   .subst hx
    exact ⟨rfl,s,by simp,rfl⟩
  .by_cases mq:t=s
   .subst mq
    exact ⟨_,List.mem_set hj _,rfl⟩
   .have bW:t∈met:=by
     rcases Bo.1 ht with ht | ht
     .exact ht
     .exact absurd (Bk.1 ht) mq
    obtain ⟨x,hx,hk⟩:=h3 t bW
    obtain ⟨i,hi,rfl⟩:=Bx.1 hx
    refine ⟨l[i],?_,hk⟩
    have Nm:j≠i:=by
     intro e2
     subst e2
     rw [Aa hi] at h7
     have:=Im h7
     rw [this,h6] at hk
     exact mq (Value.string.inj hk).symm
    refine Bx.2 ⟨i,by simpa using hi,?_⟩
    rw [List.getElem_set_ne Nm]
end Go.DD

/- Contracts: schemas. Conditions: those that each theorem states. -/
namespace Go.DD
open Go Go.Proofs
theorem YP{α β:Type}(f:α->β){l:List α}{i:Nat}(h:i<l.length):(l.take (i+1)).map f=(l.take i).map f ++ [f l[i]]:=by
 rw [Eh h,List.map_append];rfl
theorem Cn7{met:List ByteArray}{l:List PDim}{i:Nat}(h:i<l.length):Zl met (l.drop i)=if Nr l[i].name=false\/bN l[i].name met=true then 11 else if BR l[i]=false then 3 else Zl (met ++ [l[i].name]) (l.drop (i+1)):=by
 rw [As h];rfl
theorem B66{met:List ByteArray}{l:List PAttr}{i:Nat}(h:i<l.length):CY met (l.drop i)=if Nr l[i].name=false\/bN l[i].name met=true then 11 else if l[i].type<1\/4<l[i].type then 12 else CY (met ++ [l[i].name]) (l.drop (i+1)):=by
 rw [As h];rfl
theorem MapS.live{hp:Tr DObj}{im:Nat}{met:List ByteArray}(h:MapS hp im met):Ch hp (.mp im)=.mp im:=by
 obtain ⟨ck,es,h1,_⟩:=h
 exact tH h1
section
variable (k n0:Nat) (hp:Tr DObj) (nx:Nat) (K:DV->Tr DObj->Nat->Prop)
theorem Cn8(d:DV)(l:List PDim)(im:Nat)(hn:n0<=nx)(h1:RL rDim hp (Bl n0) d l)(hm:MapS hp im [])(vF:n0<=im/\im<nx)
  (hK:∀ Ap Ba,nx<=Ba->(∀ j,j<nx->j≠im->Ap.get j=hp.get j)->(Ob l=0->MapS Ap im (l.map PDim.name))->K (iv (Ob l)) Ap Ba):KW (kN (k+2)) (.fn 156) [d,.mp im] hp nx K:=by
 refine Ds (Gb (by decide)) cr (Ab rfl) λes e1 e2 he=>?_
 have a0:Ac es (.t .o)=d:=he 0 _ rfl
 have a1:Ac es (.t (.l .o))=.mp im:=he 1 _ rfl
 unfold HR
 by_cases c1:(l.length:Int)<1
 .simp only [Am,↓An,bP,a0,e1,e2,h1.len,c1]
  have hh:=hK hp nx (Af _) (λ_ _ _=>rfl)
  unfold Ob at hh
  rw [Ah (.inl (by omega))] at hh
  exact hh (λh=>by cases h)
 by_cases c2:(4:Int)<l.length
 .simp only [Am,↓An,bP,a0,e1,e2,h1.len,c1,c2]
  have hh:=hK hp nx (Af _) (λ_ _ _=>rfl)
  unfold Ob at hh
  rw [Ah (.inr (by omega))] at hh
  exact hh (λh=>by cases h)
 unfold Ob at hK
 rw [Ae (by omega)] at hK
 simp only [Am,↓An,a0,e1,h1.len,c1,c2]
 refine EW.up l.length (λi es1=>nx<=es1.nx/\(∀ j,j<nx->j≠im->es1.hp.get j=hp.get j)/\MapS es1.hp im ((l.take i).map PDim.name)/\Ac es1 (.t (.l .o))=.mp im/\Ac es1 (.t (.l (.l (.l (.l .o)))))=d/\Ac es1 (.t (.r (.l (.l (.l .o)))))=iv l.length/\Ac es1 (.t (.l (.r (.l (.l .o)))))=iv (i:Nat)/\Zl [] l=Zl ((l.take i).map PDim.name) (l.drop i)) ?_ ?_ (by omega)
 .rintro i es1 hi ⟨g1,g2,gm,b1,b15,b16,We,hc⟩
  unfold Ce8
  by_cases h:i<l.length
  .have r1:RL rDim es1.hp (Bl n0) d l:=h1.keep λj hj=>g2 j (Br hj hn) (Nat.ne_of_lt (Br hj vF.1))
   rw [Cn7 h] at hc
   simp only [Jn,↓Jm,b15,b16,We,h,wF r1 h,(tF r1 h).1]
   refine Oe λDv Dc Cr=>?_
   simp only [bR] at Dc Cr
   simp only [Jn,↓Jm]
   refine Oi (id:=es1.nx) (ds:=dc l[i]) (by simp only [bR]) Dc (by simp only [Di,bR];exact eL rfl) rfl rfl λDb Gv Fj=>?_
   simp only [bR] at Gv Fj
   obtain ⟨⟨f0,f1,f2⟩,l0,l1,l2⟩:=rQ Gv
   have WG:MapS Db im ((l.take i).map PDim.name):=gm.keep (by rw [Fj im (by omega),Cr im (by omega)])
   have ud:∀ j,j<nx->j≠im->Db.get j=hp.get j:=λj hj Hu=>by rw [Fj j (by omega),Cr j (by omega),g2 j hj Hu]
   simp only [Jn,↓Jm,f0,l0]
   refine Dt (Be4 (k:=k) _ _ _ _ ?_)
   simp only [Jn,↓Jm,bP,b1,f0,l0,WG.live,WG.lkp]
   refine tB (λc=>?_) (λc=>?_)
   .rw [Ah (by simpa using c)] at hc
    rw [hc] at hK
    simp only [Jn,↓Jm,bP]
    exact hK _ _ (by omega) ud (λh=>by cases h)
   .rw [Ae (by simpa using c)] at hc
    simp only [Jn,↓Jm,f1,f2,l1,l2]
    refine tB (λc2=>?_) (λc2=>?_)
    .have:BR l[i]=false:=by
      unfold BR
      rw [Ir]
      intro hb
      simp at c2 hb
      omega
     rw [Ah this] at hc
     rw [hc] at hK
     simp only [Jn,↓Jm,bP]
     exact hK _ _ (by omega) ud (λh=>by cases h)
    .have:¬ BR l[i]=false:=by
      unfold BR
      simp at c2 ⊢
      omega
     rw [Ae this] at hc
     simp only [Jn,↓Jm,b1,f0,l0]
     refine Bk8 (im:=im) (s:=l[i].name) WG (by simp only [Dh,bR,bP];exact WG.live) (by simp only [Dh,bR,bP];exact Be2 _ _) (by rfl) λHe MV Jh=>?_
     simp only [bR] at Jh
     simp only [Jn,↓Jm,b1,b15,b16,We,h,Hn (show i<_ by omega)]
     refine ⟨by omega,λj hj Hu=>by rw [Jh j Hu,ud j hj Hu],by rw [YP _ h];exact MV,by rw [YP _ h];exact hc⟩
  .simp only [Jn,↓Jm,bP,b16,We,h]
   have e:l.drop i=[]:=Av (by omega)
   rw [e] at hc
   rw [hc] at hK
   refine hK _ _ g1 g2 (λ_=>?_)
   rwa [Bm (by omega)] at gm
 .simp only [Am,a1,e1,e2]
  exact ⟨λ_ _ _=>trivial,hm,rfl⟩
end
end Go.DD

/- Contracts: schemas, by the program and by the reference. Conditions: those that each theorem states. -/
namespace Go.DD
open Go Go.Proofs
section
variable (k n0:Nat) (hp:Tr DObj) (nx:Nat) (K:DV->Tr DObj->Nat->Prop) (d a:DV) (l:List PDim) (m:List PAttr) (hn:n0<=nx) (h1:RL rDim hp (Bl n0) d l) (h2:RL rAttr hp (Bl n0) a m)
include hn h1 h2
theorem Bb6(hK:∀ Ap Ba,Al hp nx Ap Ba->K (iv (lH l m)) Ap Ba):KW (kN (k+3)) (.fn 121) [d,a] hp nx K:=by
 refine Ds (Gb (by decide)) ec (Ab rfl) λes e1 e2 he=>?_
 have a0:Ac es (.t .o)=d:=he 0 _ rfl
 have a1:Ac es (.t (.l .o))=a:=he 1 _ rfl
 unfold IG
 simp only [Jn,↓Jm]
 refine Cm6 λDv Dc Cr=>?_
 simp only [bR,e1,e2] at Dc Cr
 simp only [Jn,↓Jm,a0,e2]
 have r1:RL rDim Dv (Bl n0) d l:=h1.keep λj hj=>Cr j (by have:j<n0:=hj;omega)
 have r2:RL rAttr Dv (Bl n0) a m:=h2.keep λj hj=>Cr j (by have:j<n0:=hj;omega)
 refine Dt (Cn8 (k+1-1) n0 _ _ _ d l nx (by omega) r1 (MapS.nil Dc) ⟨hn,by omega⟩ λDb Hh bC Fj pW=>?_)
 have Cq:Al hp nx Db Hh:=⟨by omega,λj hj=>by rw [Fj j (by omega) (by omega),Cr j (by omega)]⟩
 have r3:RL rAttr Db (Bl n0) a m:=h2.ka hn Cq
 simp only [Jn,↓Jm]
 unfold lH at hK
 refine tB (λc=>?_) (λc=>?_)
 .have c0:Ob l≠0:=by simpa using c
  rw [Ah c0] at hK
  simp only [Jn,↓Jm,bP]
  exact hK _ _ Cq
 .have c0:Ob l=0:=by simpa using c
  rw [Ae (by simp [c0])] at hK
  have gm:=pW c0
  simp only [Jn,↓Jm,a1,r3.len]
  refine tB (λc=>?_) (λc=>?_)
  .rw [Ah (by simp at c;omega)] at hK
   simp only [Jn,↓Jm,bP]
   exact hK _ _ Cq
  .rw [Ae (by simp at c;omega)] at hK
   have hlen:m.length<=6:=by simp at c;omega
   simp only [Jn,↓Jm,a1,r3.len]
   refine EW.up m.length (λi es1=>Hh<=es1.nx/\Al hp nx es1.hp es1.nx/\MapS es1.hp nx (l.map PDim.name++(m.take i).map PAttr.name)/\Ac es1 (.t (.l (.r .o)))=.mp nx/\Ac es1 (.t (.r (.l (.l (.r .o)))))=a/\Ac es1 (.t (.l (.r (.l (.r .o)))))=iv m.length/\Ac es1 (.t (.r (.r (.l (.r .o)))))=iv (i:Nat)/\CY (l.map PDim.name) m=CY (l.map PDim.name++(m.take i).map PAttr.name) (m.drop i)) ?_ ?_ (by omega)
   .rintro i es1 hi ⟨gn,g2,gm,b5,b24,BL,X2,hc⟩
    unfold Ce3
    by_cases h:i<m.length
    .have r4:RL rAttr es1.hp (Bl n0) a m:=h2.ka hn g2
     rw [B66 h] at hc
     simp only [Jn,↓Jm,b24,BL,X2,h,J3 r4 h,(J5 r4 h).1]
     refine Oe λHe Lx Jh=>?_
     simp only [bR] at Lx Jh
     simp only [Jn,↓Jm]
     refine Oi (id:=es1.nx) (ds:=ac m[i]) (by simp only [bR]) Lx (by simp only [Di,bR];exact eL rfl) rfl rfl λHo Ov Ha=>?_
     simp only [bR] at Ov Ha
     obtain ⟨⟨f0,f1⟩,l0,l1⟩:=RB Ov
     have hle:=g2.le
     have WE:MapS Ho nx (l.map PDim.name++(m.take i).map PAttr.name):=gm.keep (by rw [Ha nx (by omega),Jh nx (by omega)])
     have uc:Al hp nx Ho (es1.nx+1):=⟨by omega,λj hj=>by rw [Ha j (by omega),Jh j (by omega),g2.same j hj]⟩
     simp only [Jn,↓Jm,f0,l0]
     refine Dt (Be4 (k:=k+1) _ _ _ _ ?_)
     simp only [Jn,↓Jm,bP,b5,f0,l0,WE.live,WE.lkp]
     refine tB (λc=>?_) (λc=>?_)
     .rw [Ah (by simpa using c)] at hc
      rw [hc] at hK
      simp only [Jn,↓Jm,bP]
      exact hK _ _ uc
     .rw [Ae (by simpa using c)] at hc
      simp only [Jn,↓Jm,f1,l1]
      refine tB (λc2=>?_) (λc2=>?_)
      .rw [Ah (by simpa using c2)] at hc
       rw [hc] at hK
       simp only [Jn,↓Jm,bP]
       exact hK _ _ uc
      .rw [Ae (by simpa using c2)] at hc
       simp only [Jn,↓Jm,b5,f0,l0]
       refine Bk8 (im:=nx) (s:=m[i].name) WE (by simp only [Dh,bR,bP];exact WE.live) (by simp only [Dh,bR,bP];exact Be2 _ _) (by rfl) λDu hm5 Hd=>?_
       simp only [bR] at Hd
       simp only [Jn,↓Jm,b5,b24,BL,X2,h,Hn (show i<_ by omega)]
       refine ⟨by omega,⟨by omega,λj hj=>by rw [Hd j (by omega),uc.same j hj]⟩,by rw [YP _ h,<- Ce];exact hm5,by rw [YP _ h,<- Ce];exact hc⟩
    .simp only [Jn,↓Jm,bP,BL,X2,h]
     have e:m.drop i=[]:=Av (by omega)
     rw [e] at hc
     rw [hc] at hK
     exact hK _ _ g2
   .simp only [Jn]
    exact ⟨Cq,by simpa using gm,by simp⟩
omit h2
end
end Go.DD

/- Contracts: the reference's schemas. Conditions: those that each theorem states. -/
namespace Go.DD
open Go Go.Proofs
section
variable (k n0:Nat) (hp:Tr DObj) (nx:Nat) (K:DV->Tr DObj->Nat->Prop) (d a:DV) (l:List PDim) (m:List PAttr) (hn:n0<=nx) (h1:RL rDim hp (Bl n0) d l) (h2:RL rAttr hp (Bl n0) a m)
include hn h1 h2
end
end Go.DD

/- Contracts: natural numbers of few digits, greatest common divisors. Conditions: those that each theorem states. -/
namespace Go.DD
open Go Go.Proofs
section
variable (k:Nat) (hp:Tr DObj) (nx:Nat) (K:DV->Tr DObj->Nat->Prop)
end
end Go.DD

/- Contracts: greatest common divisors; what values are valid, by the program. Conditions: those that each theorem states. -/
namespace Go.DD
open Go Go.Proofs
theorem B67(a b:Nat):Nat.gcd b (a % b)=Nat.gcd a b:=by rw [Nat.gcd_comm b,<- Nat.gcd_rec,Nat.gcd_comm]
theorem B68{a b:Nat}(h:b<=a)(hb:b≠0):2*(a % b)<=a:=by
 have h1:=Nat.mod_lt a (show b>0 by omega)
 have h2:=Nat.div_add_mod a b
 have h3:1<=a / b:=(Nat.le_div_iff_mul_le (by omega)).2 (by omega)
 have h4:b*1<=b*(a / b):=Nat.mul_le_mul_left b h3
 omega
def GM(m a b:Nat):Prop:=(b<=a/\a*b<2 ^ m)\/(a<b/\∃ m',m=m'+1/\a*b<2 ^ m')
theorem GM.ini{a b:Nat}(ha:a<2 ^ 50)(hb:b<2 ^ 50):GM 101 a b:=by
 have Vu:a*b<2 ^ 100:=by
  have:a*b<=2 ^ 50*b:=Ep b (by omega)
  have h2:2 ^ 50*b<2 ^ 50*2 ^ 50:=Nat.mul_lt_mul_of_pos_left hb (by decide)
  have h3:(2:Nat) ^ 50*2 ^ 50=2 ^ 100:=by decide
  omega
 by_cases h:b<=a
 .exact .inl ⟨h,by rw [show (2:Nat) ^ 101=2 ^ 100*2 from rfl];omega⟩
 .exact .inr ⟨by omega,100,rfl,Vu⟩
theorem GM.step{m a b:Nat}(h:GM m a b)(h0:b≠0):∃ m',m'<m/\GM m' b (a % b):=by
 have Fb:=Nat.mod_lt a (show b>0 by omega)
 rcases h with ⟨h1,h2⟩ | ⟨h1,m',rfl,h2⟩
 .have hh:=B68 h1 h0
  have vP:1<=a*b:=Nat.mul_pos (by omega) (by omega)
  cases m with
  | zero=>simp at h2;omega
  | succ m=>
   refine ⟨m,by omega,.inl ⟨by omega,?_⟩⟩
   have h3:2*(b*(a % b))<=a*b:=by
    rw [show 2*(b*(a % b))=(2*(a % b))*b by rw [Nat.mul_comm b,Nat.mul_assoc]]
    exact Ep b hh
   rw [Nat.pow_succ] at h2
   omega
 .refine ⟨m',by omega,.inl ⟨by omega,?_⟩⟩
  rw [Nat.mod_eq_of_lt h1,Nat.mul_comm]
  exact h2
section
variable (k:Nat) (hp:Tr DObj) (nx:Nat) (K:DV->Tr DObj->Nat->Prop)
theorem Cx1(a b:Nat)(ha:a<2 ^ 50)(hb:b<2 ^ 50)(hK:∀ Ba,nx<=Ba->K (iv (Nat.gcd a b:Nat)) hp Ba):KW (kN (k+1)) (.fn 182) [iv (a:Nat),iv (b:Nat)] hp nx K:=by
 refine Ds (Gb (by decide)) bn (Ab rfl) λes e1 e2 he=>?_
 have a0:Ac es (.t .o)=iv (a:Nat):=he 0 _ rfl
 have a1:Ac es (.t (.l .o))=iv (b:Nat):=he 1 _ rfl
 unfold HE
 simp only [Am,↓An]
 refine EW.l (I:=λm es1=>∃ a' b',GM m a' b'/\es1.hp=hp/\nx<=es1.nx/\Ac es1 (.t .o)=iv (a':Nat)/\Ac es1 (.t (.l .o))=iv (b':Nat)/\Nat.gcd a' b'=Nat.gcd a b) ?_ 101 1000000 _ ?_ (by omega)
 .rintro m es1 ⟨a',b',hm,g1,g2,q0,q1,hg⟩
  unfold Cf0
  by_cases h0:b'=0
  .subst h0
   simp only [Am,↓An,bP,q0,q1]
   rw [Nat.gcd_zero_right] at hg
   rw [g1,hg]
   exact hK _ g2
  .have h0':¬ (b':Int)=0:=by omega
   simp only [Am,↓An,q0,q1,h0',Cw1 h0]
   obtain ⟨m',h1,h2⟩:=hm.step h0
   exact ⟨m',h1,b',a' % b',h2,g1,by omega,rfl,rfl,by rw [B67,hg]⟩
 .exact ⟨a,b,GM.ini ha hb,by simp only [Am,e1],by simp only [Am,e2],by simp only [Am,a0],by simp only [Am,a1],rfl⟩
end
end Go.DD

/- Contracts: what values are valid, by the program. Conditions: those that each theorem states. -/
namespace Go.DD
open Go Go.Proofs
section
variable {call:Bf} {es:ES} {Q:ES->Prop} {dst:Option Pa} {q:Hold (ES->Prop)}
theorem DL{x:Operand} : SW (sU dst (Bc (.rgs x))) call es Q↔@Mv (sU dst (Bc (.rgs x))) call es ⟨Q⟩:=Dp
theorem DM{x:Operand} : SW (sU dst (Bc (.nxs x))) call es Q↔@Mv (sU dst (Bc (.nxs x))) call es ⟨Q⟩:=Dp
theorem Cn9{x:Operand}{s:ByteArray}(e:es.ds.ev x=sv s)(h:∀ Ap,Ap.get es.nx=some (.siter s 0)->(∀ j,j≠es.nx->Ap.get j=es.hp.get j)->q.val ((ES.mk es.sl Ap (es.nx+1)).putE dst (.pt es.nx 0))):Mv (sU dst (Bc (.rgs x))) call es:=by
 show SW _ _ _ _
 rw [sw_u,Hf]
 refine ⟨.pt es.nx 0,.lay (.siter s 0),?_,h (es.up (.lay (.siter s 0))).hp (by rw [fK,get_set,Ah rfl]) λj hj=>by rw [fK,get_set,Ae hj]⟩
 simp only [Bb,e]
theorem Co0{x:Operand}{s:ByteArray}{id pos:Nat}(e:es.ds.ev x=.pt id 0)(hg:es.hp.get id=some (.siter s pos))
  (h1:¬ pos<s.size->q.val (es.putE dst (.tup [.v (.bool false)])))
  (h2:∀ Ap,pos<s.size->Ap.get id=some (.siter s (pos+(Utf8.decode s pos).2))->(∀ j,j≠id->Ap.get j=es.hp.get j)->q.val ((ES.mk es.sl Ap es.nx).putE dst (.tup [.v (.bool true),.v (.int .i64 (pos:Nat)),.v (.int .i32 ((Utf8.decode s pos).1:Nat))]))):Mv (sU dst (Bc (.nxs x))) call es:=by
 show SW _ _ _ _
 rw [sw_u,Hf]
 have hx:Bb es.nx es.ds (.nxs x)=if pos<s.size then some (.tup [.v (.bool true),.v (.int .i64 (pos:Nat)),.v (.int .i32 ((Utf8.decode s pos).1:Nat))],.wr id (.siter s (pos+(Utf8.decode s pos).2))) else some (.tup [.v (.bool false)],.keep):=by
  simp only [Bb,e]
  show (match es.hp.get id with
   | some (.siter t pos)=>if pos<t.size then some (DV.tup [.v (.bool true),.v (.int .i64 (pos:Nat)),.v (.int .i32 ((Utf8.decode t pos).1:Nat))],Upd.wr id (.siter t (pos+(Utf8.decode t pos).2))) else some (.tup [.v (.bool false)],.keep)
   | _=>none)=_
  rw [hg]
 rw [hx]
 by_cases h:pos<s.size
 .rw [Ah h]
  exact ⟨_,_,rfl,h2 (es.up (.wr id (.siter s (pos+(Utf8.decode s pos).2)))).hp h (by rw [Mk,get_set,Ah rfl]) λj hj=>by rw [Mk,get_set,Ae hj]⟩
 .rw [Ae h]
  exact ⟨_,_,rfl,h1 h⟩
end
theorem PW{hp:Tr DObj}{v:Value} : Fg hp (.tup [.v v]) 0=some (.v v):=nr rfl
theorem Cx2{hp:Tr DObj}{u v w:Value} : Fg hp (.tup [.v u,.v v,.v w]) 0=some (.v u):=nr rfl
theorem Yp{hp:Tr DObj}{id T:Nat}{x:PVal}(h:hp.get id=some (.row T (vc x))):(Ow hp 0 (.pt id 0)=some (.pt id 0)/\Ow hp 1 (.pt id 0)=some (.pt id 1)/\Ow hp 2 (.pt id 0)=some (.pt id 2)/\Ow hp 3 (.pt id 0)=some (.pt id 3))/\Hk hp none (.pt id 0)=some (iv x.kind)/\Hk hp none (.pt id 1)=some (iv x.n)/\Hk hp none (.pt id 2)=some (iv x.d)/\Hk hp none (.pt id 3)=some (sv x.s)/\Hk hp (some 4) (.pt id 0)=some (.agg (vc x)):=by
 refine ⟨⟨Pp h,Pp h,Pp h,Pp h⟩,?_,?_,?_,?_,?_⟩ <;> rw [Nt h] <;> rfl
theorem Y0(s:ByteArray):decide (s=bs [])=QG s:=(Lg s (bs [])).symm
section
variable (k:Nat) (hp:Tr DObj) (nx:Nat) (K:DV->Tr DObj->Nat->Prop)
theorem Bk9(v:PVal)(hK:∀ Ap Ba,Al hp nx Ap Ba->K (bv (CZ v)) Ap Ba):KW (kN (k+1)) (.fn 181) [.agg (vc v)] hp nx K:=by
 refine Ds (Gb (by decide)) bp (Ab rfl) λes e1 e2 he=>?_
 have a0:Ac es (.t .o)=.agg (vc v):=he 0 _ rfl
 unfold HF
 simp only [↓Jm]
 refine Tm (cs:=vc v) (by rw [Di,a0];exact eL rfl) λDv Dc Cr=>?_
 simp only [bR,e1,e2] at Dc Cr
 obtain ⟨⟨_,_,f2,f3⟩,_,_,l2,l3,_⟩:=Yp Dc
 simp only [Jn,↓Jm,bP,e2,f2,f3,l2,l3,Y0]
 exact kb (hK _ _ ⟨by omega,λj hj=>Cr j (by omega)⟩) rfl
theorem Cf8(r:Nat)(hK:K (bv (!(decide ((32:Int)<=(r:Int))&&decide ((r:Int)<=126)))) hp nx):KW (kN (k+1)) (.fn 183) [.v (.int .i32 (r:Int))] hp nx K:=by
 refine Ds (Gb (by decide)) bm (Ab rfl) λes e1 e2 he=>?_
 have a0:Ac es (.t .o)=.v (.int .i32 (r:Int)):=he 0 _ rfl
 unfold HD
 simp only [Jn,↓Jm,bP,a0,e1,e2]
 refine kb hK ?_
 rw [Bool.eq_iff_iff];simp
theorem Bv3(s:ByteArray)(hl:s.size<900000)(hK:∀ r Ap Ba,Al hp nx Ap Ba->(decide (r<0)=Uw s)->K (iv r) Ap Ba):KW (kN (k+2)) (.fn 202) [sv s,.fn (.func 183) [.tup []],bv true] hp nx K:=by
 refine Ds (Gb (by decide)) bd (Ab rfl) λes e1 e2 he=>?_
 have a0:Ac es (.t .o)=sv s:=he 0 _ rfl
 have a1:Ac es (.t (.l .o))=.fn (.func 183) [.tup []]:=he 1 _ rfl
 have a2:Ac es (.t (.r .o))=bv true:=he 2 _ rfl
 unfold GY
 simp only [Jn,↓Jm,a0,↓DL]
 refine Cn9 (s:=s) (by simp only [Dh,bR,bP];exact Be2 _ _) λDv Dc Cr=>?_
 simp only [bR,e1,e2] at Dc Cr
 simp only [Jn,↓Jm,e2]
 refine EW.l (I:=λm es1=>∃ i,m=s.size-i/\i<=s.size/\nx+1<=es1.nx/\(∀ j,j<nx->es1.hp.get j=hp.get j)/\es1.hp.get nx=some (.siter s i)/\Ac es1 (.t (.l .o))=.fn (.func 183) [.tup []]/\Ac es1 (.t (.r .o))=bv true/\Ac es1 (.t (.r (.r (.l .o))))=.pt nx 0/\∀ j,(h:j<s.data.toList.length)->j<i->oO s.data.toList[j]=true) ?_ s.size 1000000 _ ?_ (by omega)
 .rintro m es1 ⟨i,rfl,hi,g1,g2,g3,b1,b2,b10,Q6⟩
  unfold Cf1
  simp only [↓Jm,↓DM]
  refine Co0 (id:=nx) (s:=s) (pos:=i) (by simp only [Dh,bP,b10];exact Qv g3) g3 (λh=>?_) (λDb h Gv Fj=>?_)
  .simp only [Jn,↓Jm,bP,PW]
   refine hK (-1) _ _ ⟨by omega,g2⟩ ?_
   have:Uw s=true:=by
    unfold Uw
    rw [Ay]
    intro c hc
    obtain ⟨j,hj,rfl⟩:=Bx.1 hc
    exact Q6 j hj (by have:s.data.toList.length=s.size:=rfl;omega)
   rw [this];rfl
  .simp only [bR] at Gv Fj
   have h':i<s.data.toList.length:=h
   have Vs:(s[i]'h).toNat=(s.data.toList[i]).toNat:=rfl
   simp only [Jn,↓Jm,b1,Cx2,↓J8]
   refine bI (f:=183) (fs:=[]) (cs:=[]) (by simp only [Di,bR];exact RV _ _) ?_
   simp only [bR,Bh,Bu,Ao,Aq]
   have S6:∀ j,j<nx->Db.get j=hp.get j:=λj hj=>by rw [Fj j (by omega),g2 j hj]
   by_cases MK:(s.data.toList[i]).toNat<128
   .have mG:=decode_ascii s i h (by rw [Vs];exact MK)
    rw [Vs] at mG
    rw [mG] at Gv ⊢
    simp only at Gv ⊢
    refine Cf8 (k:=k) _ _ _ (s.data.toList[i]).toNat ?_
    cases cA:oO s.data.toList[i] with
    | true=>
     have:(decide ((32:Int)<=((s.data.toList[i]).toNat:Int))&&decide (((s.data.toList[i]).toNat:Int)<=126))=true:=cA
     rw [this]
     simp only [Jn,↓Jm,bP,b1,b2,b10]
     refine ⟨s.size-(i+1),by omega,i+1,rfl,by omega,by omega,S6,Gv,λj hj Nl=>?_⟩
     by_cases e:j=i
     .subst e;exact cA
     .exact Q6 j hj (by omega)
    | false=>
     have:(decide ((32:Int)<=((s.data.toList[i]).toNat:Int))&&decide (((s.data.toList[i]).toNat:Int)<=126))=false:=cA
     rw [this]
     simp only [Jn,↓Jm,bP,b2]
     refine hK _ _ _ ⟨by omega,S6⟩ ?_
     have:Uw s=false:=by
      rw [Ir]
      intro ha
      have:=Ay.1 ha _ (Bd h')
      rw [cA] at this;cases this
     rw [this,Ad (by omega)]
   .have mG:=decode_high s i h (by rw [Vs];omega)
    have cA:oO s.data.toList[i]=false:=by
     unfold oO
     rw [Bool.and_eq_false_iff]
     exact .inr (Ad (by omega))
    refine Cf8 (k:=k) _ _ _ _ ?_
    have:(decide ((32:Int)<=(((Utf8.decode s i).1:Nat):Int))&&decide ((((Utf8.decode s i).1:Nat):Int)<=126))=false:=by
     rw [Bool.and_eq_false_iff]
     exact .inr (Ad (by omega))
    rw [this]
    simp only [Jn,↓Jm,bP,b2]
    refine hK _ _ _ ⟨by omega,S6⟩ ?_
    have:Uw s=false:=by
     rw [Ir]
     intro ha
     have:=Ay.1 ha _ (Bd h')
     rw [cA] at this;cases this
    rw [this,Ad (by omega)]
 .simp only [Jn,a1,a2]
  exact ⟨0,rfl,by omega,λj hj=>Cr j (by omega),Dc,λj _ h=>by omega⟩
theorem B69(s:ByteArray)(hl:s.size<900000)(hK:∀ r Ap Ba,Al hp nx Ap Ba->(decide (r<0)=Uw s)->K (iv r) Ap Ba):KW (kN (k+3)) (.fn 184) [sv s,.fn (.func 183) [.tup []]] hp nx K:=by
 refine Ds (Gb (by decide)) bk (Ab rfl) λes e1 e2 he=>?_
 have a0:Ac es (.t .o)=sv s:=he 0 _ rfl
 have a1:Ac es (.t (.l .o))=.fn (.func 183) [.tup []]:=he 1 _ rfl
 unfold HC
 simp only [Jn,↓Jm,a0,a1,e1,e2]
 refine Dt (Bv3 k _ _ _ s hl λr Ap Ba Ql hr=>?_)
 simp only [Jn,↓Jm,bP]
 exact hK r _ _ Ql hr
end
end Go.DD

/- Contracts: which values are valid, and fit a type. Conditions: those that each theorem states. -/
namespace Go.DD
open Go Go.Proofs
theorem B70{v:PVal}(h:v.kind=0):kV v=(CZ v&&decide (1<=v.n)&&decide (v.n<=255)):=by unfold kV;rw [Ah h,Bool.and_assoc]
theorem B71{v:PVal}(h:v.kind=1):kV v=(CZ v&&(decide (v.n=0)||decide (v.n=1))):=by unfold kV;rw [Ae (by omega),Ah h]
theorem B72{v:PVal}(h:v.kind=2):kV v=(QG v.s&&(decide (1<=v.d)&&(decide (v.d<=1099511627776)&&(decide (-1099511627776<=v.n)&&(decide (v.n<=1099511627776)&&decide (Nat.gcd v.n.natAbs v.d.natAbs=1)))))):=by unfold kV;rw [Ae (by omega),Ae (by omega),Ah h]
theorem B73{v:PVal}(h:v.kind=3):kV v=(decide (v.n=0)&&(decide (v.d=0)&&(decide (v.s.size<=16)&&Uw v.s))):=by unfold kV;rw [Ae (by omega),Ae (by omega),Ae (by omega),Ah h]
theorem B74{v:PVal}(h0:v.kind≠0)(h1:v.kind≠1)(h2:v.kind≠2)(h3:v.kind≠3):kV v=false:=by unfold kV;rw [Ae h0,Ae h1,Ae h2,Ae h3]
section
variable (k:Nat) (hp:Tr DObj) (nx:Nat) (K:DV->Tr DObj->Nat->Prop)
theorem B75(v:PVal)(hl:v.s.size<900000)(hK:∀ Ap Ba,Al hp nx Ap Ba->K (bv (kV v)) Ap Ba):KW (kN (k+4)) (.fn 158) [.agg (vc v)] hp nx K:=by
 refine Ds (Gb (by decide)) cn (Ab rfl) λes e1 e2 he=>?_
 have a0:Ac es (.t .o)=.agg (vc v):=he 0 _ rfl
 unfold HP
 simp only [↓An]
 refine Tm (cs:=vc v) (by rw [Di,a0];exact eL rfl) λDv Dc Cr=>?_
 simp only [bR,e1,e2] at Dc Cr
 obtain ⟨⟨f0,f1,f2,f3⟩,l0,l1,l2,l3,l4⟩:=Yp Dc
 have Ql:Al hp nx Dv (nx+1):=⟨by omega,λj hj=>Cr j (by omega)⟩
 by_cases k0:v.kind=0
 .rw [B70 k0] at hK
  simp only [Am,↓An,e2,f0,l0,l4,Ai k0]
  refine Dt (Bk9 (k:=k+2) _ _ _ v λDb Hh Cq=>?_)
  have q1:Ow Db 1 (.pt nx 0)=some (.pt nx 1):=Pp ((Cq.same nx (by omega)).trans Dc)
  have q2:Hk Db none (.pt nx 1)=some (iv v.n):=by rw [Nt ((Cq.same nx (by omega)).trans Dc)];rfl
  simp only [Jn,↓Jm,bP,e2,q1,q2]
  exact kb (hK _ _ (Ql.trans Cq)) rfl
 by_cases k1:v.kind=1
 .rw [B71 k1] at hK
  simp only [Am,↓An,e2,f0,l0,l4,Ad k0,Ai k1]
  refine Dt (Bk9 (k:=k+2) _ _ _ v λDb Hh Cq=>?_)
  have q1:Ow Db 1 (.pt nx 0)=some (.pt nx 1):=Pp ((Cq.same nx (by omega)).trans Dc)
  have q2:Hk Db none (.pt nx 1)=some (iv v.n):=by rw [Nt ((Cq.same nx (by omega)).trans Dc)];rfl
  have hh:=hK _ _ (Ql.trans Cq)
  cases AH:CZ v <;> cases h0:decide (v.n=0) <;> cases h1:decide (v.n=1) <;> simp only [Am,↓An,bP,e2,q1,q2,h0,h1] <;> exact kb hh (by simp [AH,h0,h1])
 by_cases k2:v.kind=2
 .rw [B72 k2] at hK
  have hh:=hK _ _ Ql
  cases c1:QG v.s with
  | false=>
   simp only [Am,↓An,bP,e2,f0,l0,f3,l3,Ad k0,Ad k1,Ai k2,Y0,c1]
   exact kb hh (by rw [c1];rfl)
  | true=>
   rw [c1,Kb] at hh hK
   by_cases c2:1<=v.d
   .by_cases c3:v.d<=1099511627776
    .by_cases c4 : -1099511627776<=v.n
     .by_cases c5:v.n<=1099511627776
      .have om:K3 .neg (.v (.int .i64 v.n))=some (.v (.int .i64 (-v.n))):=by rw [IZ,Dk (by omega)];congr 3;omega
       have pf:uL true (.v (.int .i64 v.n)) (.v (.int .i64 (-v.n)))=some (.v (.int .i64 ((v.n.natAbs:Nat):Int))):=by rw [Cv7];congr 3;omega
       have hd:v.d=((v.d.natAbs:Nat):Int):=by omega
       have kn:Hk Dv none (.pt nx 2)=some (iv ((v.d.natAbs:Nat):Int)):=by rw [<- hd];exact l2
       have c2':(1:Int)<=((v.d.natAbs:Nat):Int):=by omega
       have yg:((v.d.natAbs:Nat):Int)<=1099511627776:=by omega
       simp only [Am,↓An,bP,e2,f0,l0,f1,l1,f2,kn,f3,l3,Ad k0,Ad k1,Ai k2,Y0,c1,c2',yg,c4,c5,om,pf]
       have td:(2:Nat) ^ 50=1125899906842624:=by decide
       refine Dt (Cx1 (k:=k+2) _ _ _ v.n.natAbs v.d.natAbs (by omega) (by omega) λHh bC=>?_)
       have he:decide ((Nat.gcd v.n.natAbs v.d.natAbs:Int)=1)=decide (Nat.gcd v.n.natAbs v.d.natAbs=1):=decide_eq_decide.2 (by omega)
       have C4:=hK Dv Hh (Ql.nx bC)
       cases c6:decide (Nat.gcd v.n.natAbs v.d.natAbs=1) with
       | true=>
        simp only [Am,↓An,bP,he,c6]
        exact kb C4 (by simp [c2,c3,c4,c5,c6])
       | false=>
        simp only [Am,↓An,bP,he,c6]
        exact kb C4 (by simp [c6])
      .simp only [Am,↓An,bP,e2,f0,l0,f1,l1,f2,l2,f3,l3,Ad k0,Ad k1,Ai k2,Y0,c1,c2,c3,c4,c5]
       exact kb hh (by simp [c5])
     .simp only [Am,↓An,bP,e2,f0,l0,f1,l1,f2,l2,f3,l3,Ad k0,Ad k1,Ai k2,Y0,c1,c2,c3,c4]
      exact kb hh (by simp [c4])
    .simp only [Am,↓An,bP,e2,f0,l0,f2,l2,f3,l3,Ad k0,Ad k1,Ai k2,Y0,c1,c2,c3]
     exact kb hh (by simp [c3])
   .simp only [Am,↓An,bP,e2,f0,l0,f2,l2,f3,l3,Ad k0,Ad k1,Ai k2,Y0,c1,c2]
    exact kb hh (by simp [c2])
 by_cases k3:v.kind=3
 .rw [B73 k3] at hK
  have hh:=hK _ _ Ql
  cases c1:decide (v.n=0) with
  | false=>
   simp only [Am,↓An,bP,e2,f0,l0,f1,l1,Ad k0,Ad k1,Ad k2,Ai k3,c1]
   exact kb hh (by rw [c1];rfl)
  | true=>
   cases c2:decide (v.d=0) with
   | false=>
    simp only [Am,↓An,bP,e2,f0,l0,f1,l1,f2,l2,Ad k0,Ad k1,Ad k2,Ai k3,c1,c2]
    exact kb hh (by rw [c1,c2];rfl)
   | true=>
    by_cases c3:(v.s.size:Int)<=16
    .simp only [Am,↓An,bP,e2,f0,l0,f1,l1,f2,l2,f3,l3,Ad k0,Ad k1,Ad k2,Ai k3,c1,c2,c3]
     refine Dt (B69 (k:=k) _ _ _ v.s hl λr Db Hh Cq hr=>?_)
     have C4:=hK _ _ (Ql.trans Cq)
     cases c4:decide (r<0) with
     | true=>
      simp only [Am,↓An,bP,c4]
      exact kb C4 (by rw [c1,c2,<- hr,c4,Ai (show v.s.size<=16 by omega)];rfl)
     | false=>
      simp only [Am,↓An,bP,c4]
      exact kb C4 (by rw [<- hr,c4];simp)
    .simp only [Am,↓An,bP,e2,f0,l0,f1,l1,f2,l2,f3,l3,Ad k0,Ad k1,Ad k2,Ai k3,c1,c2,c3]
     exact kb hh (by rw [Ad (show ¬ v.s.size<=16 by omega)];simp)
 .simp only [Am,↓An,bP,e2,f0,l0,Ad k0,Ad k1,Ad k2,Ad k3]
  rw [B74 k0 k1 k2 k3] at hK
  exact hK _ _ Ql
theorem Bv4(v:PVal)(t:Int)(hl:v.s.size<900000)(hK:∀ Ap Ba,Al hp nx Ap Ba->K (bv (Zi v t)) Ap Ba):KW (kN (k+5)) (.fn 123) [.agg (vc v),iv t] hp nx K:=by
 refine Ds (Gb (by decide)) dv (Ab rfl) λes e1 e2 he=>?_
 have a0:Ac es (.t .o)=.agg (vc v):=he 0 _ rfl
 have a1:Ac es (.t (.l .o))=iv t:=he 1 _ rfl
 unfold IE
 simp only [↓An]
 refine Tm (cs:=vc v) (by rw [Di,a0];exact eL rfl) λDv Dc Cr=>?_
 simp only [bR,e1,e2] at Dc Cr
 obtain ⟨_,_,_,_,_,l4⟩:=Yp Dc
 have Em:Al hp nx Dv (nx+1):=⟨by omega,λj hj=>Cr j (by omega)⟩
 simp only [Jn,↓Jm,e2,l4]
 refine Dt (B75 k _ _ _ v hl λDb Hh Cq=>?_)
 have Gv:=(Cq.same nx (by omega)).trans Dc
 obtain ⟨⟨f0,f1,f2,f3⟩,l0,l1,l2,l3,l4⟩:=Yp Gv
 have hh:=hK _ _ (Em.trans Cq)
 unfold Zi at hh
 simp only [Jn,↓Jm,e2,a1]
 refine tB (λc=>?_) (λc=>?_)
 .rw [Ah (by cases hr:kV v <;> simp [hr] at c ⊢;omega)] at hh
  simp only [Jn,↓Jm,bP]
  exact hh
 rw [Ae (by cases hr:kV v <;> simp [hr] at c ⊢;omega)] at hh
 by_cases k1:v.kind=1
 .rw [Ah k1] at hh
  simp only [Jn,↓Jm,bP,e2,a1,f0,l0,Ai k1]
  exact hh
 rw [Ae k1] at hh
 by_cases k2:v.kind=2
 .rw [Ah k2] at hh
  cases h3:decide (t=3) <;> cases h2:decide (t=2) <;> cases h1:decide (v.d=1) <;> simp only [Am,↓An,bP,e2,a1,f0,l0,f2,l2,Ad k1,Ai k2,h3,h2,h1] <;> exact kb hh (by simp [h1,h2,h3])
 rw [Ae k2] at hh
 by_cases k3:v.kind=3
 .rw [Ah k3] at hh
  simp only [Jn,↓Jm,bP,e2,a1,f0,l0,Ad k1,Ad k2,Ai k3]
  exact hh
 .rw [Ae k3] at hh
  simp only [Jn,↓Jm,bP,e2,f0,l0,Ad k1,Ad k2,Ad k3]
  exact hh
end
end Go.DD

/- Contracts: which values are valid, and fit a type, by the reference. Conditions: those that each theorem states. -/
namespace Go.DD
open Go Go.Proofs
theorem nP{n0 m i:Nat}{an refs lo:List Nat}{c:Bool}{ws:List Look}{ps:List Past}{id:Nat}{T:TypeId}{cs:List DV}(hr:∀ j∈refs,j=id)(hid:id<n0)(hp:∀ p∈ps,p.a.get id=some (.row T cs)/\p.b.get id=some (.row T cs))(hc:∀ c∈cs,Nb 6 c c=true)(h2:Oj n0 m ws ps=true):Oj n0 m (Gj i an true c refs n0 lo ws) ps=true:=
 nT (λj hj=>by
  rw [hr j hj]
  refine ⟨hid,λp Ap=>.inr (.inr ?_)⟩
  obtain ⟨h3,h4⟩:=hp p Ap
  cases c with
  | true=>rw [Ah rfl];exact Z2 h3 (h4.trans h3.symm) hc
  | false=>rw [Ae (by simp)];simp [tD,h3,h4]) h2
section
variable (k:Nat) (hp:Tr DObj) (nx:Nat) (K:DV->Tr DObj->Nat->Prop)
end
end Go.DD

/- Contracts: coordinates of dimensions; cells. Conditions: those that each theorem states. -/
namespace Go.DD
open Go Go.Proofs
theorem yE{d:List PDim}{x:List Int}{i:Nat}(h:i<d.length)(h2:i<x.length):jN (d.drop i) (x.drop i)=if x[i]<d[i].lo\/bO d[i]<x[i] then false else jN (d.drop (i+1)) (x.drop (i+1)):=by
 rw [As h,As h2];rfl
theorem yF{d:List PDim}{x:List Int}{i:Nat}(h:d.length<=i):jN (d.drop i) (x.drop i)=true:=by
 rw [Av h];cases x.drop i <;> rfl
theorem Bv5{v:List PVal}{a:List PAttr}{i:Nat}(h:i<v.length)(h2:i<a.length):Oa (v.drop i) (a.drop i)=if Zi v[i] a[i].type=false then false else Oa (v.drop (i+1)) (a.drop (i+1)):=by
 rw [As h,As h2];rfl
theorem Bv6{v:List PVal}{a:List PAttr}{i:Nat}(h:v.length<=i):Oa (v.drop i) (a.drop i)=true:=by
 rw [Av h];cases a.drop i <;> rfl
def PsOK(ps:List Past)(hp:Tr DObj)(n0:Nat):Prop:=∀ q∈ps,(∀ j,Bl n0 j->q.a.get j=hp.get j)/\∀ j,Bl n0 j->q.b.get j=hp.get j
theorem PsOK.nil(hp:Tr DObj)(n0:Nat):PsOK [] hp n0:=λq h=>by cases h
theorem PsOK.cons{hp:Tr DObj}{n0 i:Nat}{an:List Nat}{a b:Tr DObj}{ps:List Past}(h:PsOK ps hp n0)(h1:∀ j,j<n0->a.get j=hp.get j)(h2:∀ j,j<n0->b.get j=hp.get j):PsOK (⟨i,an,a,b⟩::ps) hp n0:=λq hq=>by
 rcases Ak.1 hq with rfl | hq
 .exact ⟨h1,h2⟩
 .exact h q hq
section
variable (k n0:Nat) (hp:Tr DObj) (nx:Nat) (K:DV->Tr DObj->Nat->Prop)
theorem KA(d x:DV)(l:List PDim)(m:List Int)(hn:n0<=nx)(h1:RL rDim hp (Bl n0) d l)(h2:RL rInt hp (Bl n0) x m)(hm:m.length<900000)(hK:∀ Ap Ba,Al hp nx Ap Ba->K (bv (uF l m)) Ap Ba):KW (kN (k+2)) (.fn 157) [d,x] hp nx K:=by
 refine Ds (Gb (by decide)) cq (Ab rfl) λes e1 e2 he=>?_
 have a0:Ac es (.t .o)=d:=he 0 _ rfl
 have a1:Ac es (.t (.l .o))=x:=he 1 _ rfl
 unfold HQ
 by_cases c:m.length=l.length
 .have hb:uF l m=jN l m:=by unfold uF;rw [Ai c];rfl
  rw [hb] at hK
  simp only [Am,↓An,a0,a1,e1,h1.len,h2.len,show decide (¬ m.length=l.length)=false by simp [c]]
  refine EW.up m.length (λi es1=>Al hp nx es1.hp es1.nx/\Ac es1 (.t .o)=d/\Ac es1 (.t (.r (.l (.r .o))))=x/\Ac es1 (.t (.l (.r (.r .o))))=iv m.length/\Ac es1 (.t (.r (.r (.r .o))))=iv (i:Nat)/\jN l m=jN (l.drop i) (m.drop i)) ?_ ?_ (by omega)
  .rintro i es1 hi ⟨g,b0,Ig,Na,b14,hc⟩
   unfold Ce9
   by_cases h:i<m.length
   .have h':i<l.length:=by omega
    have r1:=h1.ka hn g
    have r2:=h2.ka hn g
    rw [yE h' h] at hc
    by_cases c1:m[i]<l[i].lo
    .rw [Ah (.inl c1)] at hc
     rw [hc] at hK
     simp only [Am,↓An,bP,b0,Ig,Na,b14,h,nQ r2 h,ints_at r2 h,wF r1 h',Be3 (k:=1) r1 h',(tF r1 h').2.2.2.1,c1]
     exact hK _ _ g
    .simp only [Am,↓An,b0,Ig,Na,b14,h,nQ r2 h,ints_at r2 h,wF r1 h',Be3 (k:=1) r1 h',(tF r1 h').2.2.2.1,(tF r1 h').1,c1]
     refine Dt (Cn6 (k:=k) _ _ _ l[i] λDb Hh Cq=>?_)
     by_cases c2:bO l[i]<m[i]
     .rw [Ah (.inr c2)] at hc
      rw [hc] at hK
      simp only [Am,↓An,bP,c2]
      exact hK _ _ (g.trans Cq)
     .rw [Ae (by omega)] at hc
      simp only [Am,↓An,b0,Ig,Na,b14,h,c2,Hn (show i<_ by omega)]
      exact ⟨g.trans Cq,hc⟩
   .simp only [Am,↓An,bP,Na,b14,h]
    rw [yF (by omega)] at hc
    rw [hc] at hK
    exact hK _ _ g
  .simp only [Am,a0,e1,e2]
 .have hb:uF l m=false:=by unfold uF;rw [Ad c];rfl
  rw [hb] at hK
  simp only [Am,↓An,bP,a0,a1,e1,e2,h1.len,h2.len,c]
  exact hK _ _ (Al.refl _ _)
end
end Go.DD

/- Contracts: cells. Conditions: those that each theorem states. -/
namespace Go.DD
open Go Go.Proofs
theorem Wf{hp:Tr DObj}{id T:Nat}{a b:DV}(h:hp.get id=some (.row T [a,b])):(Ow hp 0 (.pt id 0)=some (.pt id 0)/\Ow hp 1 (.pt id 0)=some (.pt id 1))/\Hk hp none (.pt id 0)=some a/\Hk hp none (.pt id 1)=some b/\Hk hp (some 2) (.pt id 0)=some (.agg [a,b]):=by
 refine ⟨⟨Pp h,Pp h⟩,?_,?_,?_⟩ <;> rw [Nt h] <;> rfl
def Wn(v:PVal):Prop:=v.s.size<900000
theorem A66{hp:Tr DObj}{p:Nat->Prop}{a b:DV}{c:PCell}(h1:RL rInt hp p a c.pos)(h2:RL rVal hp p b c.vals):Ch hp (.agg [a,b])=.agg [a,b]:=Wh λid hid=>by
 have:id∈a.refs\/id∈b.refs:=by simpa [DV.refs,DV.refsL] using hid
 exact this.elim (λh=>(h1.refs id h).2) λh=>(h2.refs id h).2
section
variable (k n0:Nat) (hp:Tr DObj) (nx:Nat) (K:DV->Tr DObj->Nat->Prop) (d a x y:DV) (l:List PDim) (m:List PAttr) (c:PCell) (hn:n0<=nx) (h1:RL rDim hp (Bl n0) d l) (h2:RL rAttr hp (Bl n0) a m) (h3:RL rInt hp (Bl n0) x c.pos) (h4:RL rVal hp (Bl n0) y c.vals) (hl:l.length<900000) (hm:m.length<900000) (hs:∀ v∈c.vals,Wn v)
include hn h1 h2 h3 h4 hl hm hs
theorem Bv7(hK:∀ Ap Ba,Al hp nx Ap Ba->K (iv (Gy l m c)) Ap Ba):KW (kN (k+6)) (.fn 122) [d,a,.agg [x,y]] hp nx K:=by
 refine Ds (Gb (by decide)) eb (Ab rfl) λes e1 e2 he=>?_
 have a0:Ac es (.t .o)=d:=he 0 _ rfl
 have a1:Ac es (.t (.l .o))=a:=he 1 _ rfl
 have a2:Ac es (.t (.r .o))=.agg [x,y]:=he 2 _ rfl
 unfold IF
 simp only [↓An]
 refine Tm (cs:=[x,y]) (by rw [Di,a2,e1];exact A66 h3 h4) λDv Dc Cr=>?_
 simp only [bR,e1,e2] at Dc Cr
 obtain ⟨⟨f0,f1⟩,l0,l1,_⟩:=Wf Dc
 have Em:Al hp nx Dv (nx+1):=⟨by omega,λj hj=>Cr j (by omega)⟩
 have r1:=h1.ka hn Em
 have r2:=h2.ka hn Em
 have r3:=h3.ka hn Em
 have r4:=h4.ka hn Em
 unfold Gy at hK
 by_cases c1:c.pos.length=l.length
 .by_cases c2:c.vals.length=m.length
  .rw [Ae (by omega)] at hK
   simp only [Am,↓An,a0,a1,e2,f0,f1,l0,l1,r1.len,r2.len,r3.len,r4.len,show decide (¬ c.pos.length=l.length)=false by simp [c1],show decide (¬ c.vals.length=m.length)=false by simp [c2]]
   refine Dt (KA (k:=k+3) n0 _ _ _ d x l c.pos (by omega) r1 r3 (by omega) λDb Hh Cq=>?_)
   have Fq:=Cq.le
   have Gv:=(Cq.same nx (by omega)).trans Dc
   obtain ⟨⟨q0,q1⟩,m0,m1,_⟩:=Wf Gv
   have u4:=r4.ka (by omega:n0<=nx+1) Cq
   cases c3:uF l c.pos with
   | false=>
    rw [Ah c3] at hK
    simp only [Am,↓An,bP]
    exact hK _ _ (Em.trans Cq)
   | true=>
    rw [Ae (by rw [c3];simp)] at hK
    simp only [Am,↓An,e2,q1,m1,u4.len]
    refine EW.up c.vals.length (λi es1=>Al hp nx es1.hp es1.nx/\Hh<=es1.nx/\Ac es1 (.t (.l .o))=a/\Ac es1 (.t (.l (.r (.r (.r .o)))))=y/\Ac es1 (.t (.r (.r (.r (.r .o)))))=iv c.vals.length/\Ac es1 (.t (.l (.l (.l (.l (.l .o))))))=iv (i:Nat)/\Oa c.vals m=Oa (c.vals.drop i) (m.drop i)) ?_ ?_ (by omega)
    .rintro i es1 hi ⟨g,gn,b1,b29,yj,yi,hc⟩
     unfold Ce4
     have hle:=g.le
     by_cases h:i<c.vals.length
     .have h':i<m.length:=by omega
      have w4:=h4.ka hn g
      rw [Bv5 h h'] at hc
      simp only [Am,↓An,b29,yj,yi,h,Y2 w4 h,BS w4 h]
      refine Oe λHe Lx Jh=>?_
      simp only [bR] at Lx Jh
      simp only [Am,↓An]
      refine Oi (id:=es1.nx) (ds:=vc c.vals[i]) (by simp only [bR]) Lx (by simp only [Di,bR];exact eL rfl) rfl rfl λHo Ov Ha=>?_
      simp only [bR] at Ov Ha
      obtain ⟨_,_,_,_,_,t4⟩:=Yp Ov
      have g4:Al hp nx Ho (es1.nx+1):=⟨by omega,λj hj=>by rw [Ha j (by omega),Jh j (by omega),g.same j hj]⟩
      have w2:=h2.ka hn g4
      simp only [Am,↓An,b1,t4,J3 w2 h',A64 (k:=1) w2 h',(J5 w2 h').2.2.2,w2.rox (show n0<=es1.nx+1 by omega),CG w2 (show n0<=es1.nx+1 by omega),Bb4 w2 (show n0<=es1.nx+1 by omega),Il (n0:=es1.nx+1) (m:=8) Ov (show es1.nx<es1.nx+1 by omega),I4 (show DV.refsL (vc c.vals[i])=[] from rfl)]
      refine Ge rfl (Tf ?_)
      simp only [bR,Ao,Aq]
      refine Bv4 (k:=k) _ _ _ c.vals[i] m[i].type (hs _ (Bd h)) λDu Fm Cw=>?_
      have Fp:=Cw.le
      have g5:=(g4.nx (by omega:es1.nx+1<=es1.nx+1+8)).trans Cw
      cases c4:Zi c.vals[i] m[i].type with
      | false=>
       rw [Ah c4] at hc
       rw [hc] at hK
       simp only [Am,↓An,bP,Fp]
       exact hK _ _ g5
      | true=>
       rw [Ae (by rw [c4];simp)] at hc
       simp only [Am,↓An,b1,b29,yj,yi,h,Fp,Hn (show i<_ by omega)]
       exact ⟨g5,by omega,hc⟩
     .simp only [Am,↓An,bP,yj,yi,h]
      rw [Bv6 (by omega)] at hc
      rw [hc] at hK
      exact hK _ _ g
    .simp only [Am,a1]
     exact Em.trans Cq
  .rw [Ah (.inr c2)] at hK
   simp only [Am,↓An,bP,a0,a1,e2,f0,f1,l0,l1,r1.len,r2.len,r3.len,r4.len,show decide (¬ c.pos.length=l.length)=false by simp [c1],c2]
   exact hK _ _ Em
 .rw [Ah (.inl c1)] at hK
  simp only [Am,↓An,bP,a0,e2,f0,l0,r1.len,r3.len,c1]
  exact hK _ _ Em
end
end Go.DD

/- Contracts: which arrays are valid. Conditions: those that each theorem states. -/
namespace Go.DD
open Go Go.Proofs
theorem Mh{hp:Tr DObj}{id T:Nat}{a b c:DV}(h:hp.get id=some (.row T [a,b,c])):(Ow hp 0 (.pt id 0)=some (.pt id 0)/\Ow hp 1 (.pt id 0)=some (.pt id 1)/\Ow hp 2 (.pt id 0)=some (.pt id 2))/\Hk hp none (.pt id 0)=some a/\Hk hp none (.pt id 1)=some b/\Hk hp none (.pt id 2)=some c/\Hk hp (some 3) (.pt id 0)=some (.agg [a,b,c]):=by
 refine ⟨⟨Pp h,Pp h,Pp h⟩,?_,?_,?_,?_⟩ <;> rw [Nt h] <;> rfl
structure AOK (x:PArr):Prop where
 d:x.dims.length<900000
 a:x.attrs.length<900000
 c:x.cells.length<900000
 e:∀ c∈x.cells,c.pos.length<900000/\c.vals.length<900000/\∀ v∈c.vals,Wn v
structure AR (hp:Tr DObj) (p:Nat->Prop) (d:DV) (x:PArr):Prop where
 ex:∃ a b c,d=.agg [a,b,c]/\RL rDim hp p a x.dims/\RL rAttr hp p b x.attrs/\RL rCell hp p c x.cells
theorem AR.live{hp:Tr DObj}{p:Nat->Prop}{a b c:DV}{x:PArr}(h1:RL rDim hp p a x.dims)(h2:RL rAttr hp p b x.attrs)(h3:RL rCell hp p c x.cells):Ch hp (.agg [a,b,c])=.agg [a,b,c]:=Wh λid hid=>by
 have:id∈a.refs\/id∈b.refs\/id∈c.refs:=by simpa [DV.refs,DV.refsL] using hid
 rcases this with h | h | h
 .exact (h1.refs id h).2
 .exact (h2.refs id h).2
 .exact (h3.refs id h).2
def Sj(l:List PCell)(i:Nat):Option PCell:=match i with
 | 0=>none
 | i+1=>l[i]?
theorem G3{d:List PDim}{a:List PAttr}{l:List PCell}(h:0<l.length):Pq d a (Sj l 0) (l.drop 0)=if Gy d a l[0]≠0 then Gy d a l[0] else Pq d a (Sj l 1) (l.drop 1):=by
 have e1:Sj l 1=some l[0]:=Aa h
 rw [As h,e1]
 rfl
theorem G2{d:List PDim}{a:List PAttr}{l:List PCell}{i:Nat}(h:i+1<l.length):Pq d a (Sj l (i+1)) (l.drop (i+1))=if Gy d a l[i+1]≠0 then Gy d a l[i+1] else if Cd l[i].pos l[i+1].pos=0 then 5 else if Cd l[i].pos l[i+1].pos=1 then 2 else Pq d a (Sj l (i+2)) (l.drop (i+2)):=by
 have e1:Sj l (i+1)=some l[i]:=Aa (by omega)
 have e2:Sj l (i+2)=some l[i+1]:=Aa h
 rw [As h,e1,e2]
 rfl
section
variable (k n0:Nat) (hp:Tr DObj) (nx:Nat) (K:DV->Tr DObj->Nat->Prop) (d:DV) (x:PArr) (hn:n0<=nx) (h0:AR hp (Bl n0) d x) (ho:AOK x)
include hn h0 ho
theorem Y6(hK:∀ Ap Ba,Al hp nx Ap Ba->K (iv (Ff x)) Ap Ba):KW (kN (k+7)) (.fn 57) [d] hp nx K:=by
 obtain ⟨d,a,c,rfl,h1,h2,h3⟩:=h0
 refine Ds (Gb (by decide)) t57 (Ab rfl) λes e1 e2 he=>?_
 have a0:Ac es (.t .o)=.agg [d,a,c]:=he 0 _ rfl
 unfold r57
 simp only [↓An]
 refine Tm (cs:=[d,a,c]) (by rw [Di,a0,e1];exact AR.live h1 h2 h3) λDv Dc Cr=>?_
 simp only [bR,e1,e2] at Dc Cr
 obtain ⟨⟨f0,f1,f2⟩,l0,l1,l2,_⟩:=Mh Dc
 have Em:Al hp nx Dv (nx+1):=⟨by omega,λj hj=>Cr j (by omega)⟩
 unfold Ff at hK
 simp only [Am,↓An,e2,f0,f1,l0,l1]
 refine Dt (Bb6 (k:=k+3) n0 _ _ _ d a x.dims x.attrs (by omega) (h1.ka hn Em) (h2.ka hn Em) λDb Hh Cq=>?_)
 have Fq:=Cq.le
 have Gv:=(Cq.same nx (by omega)).trans Dc
 obtain ⟨⟨f0,f1,f2⟩,l0,l1,l2,_⟩:=Mh Gv
 have kG:=Em.trans Cq
 have r3:=h3.ka hn kG
 by_cases c1:lH x.dims x.attrs=0
 .rw [Ae (by simp [c1])] at hK
  simp only [Jn,↓Jm,e2,f2,l2,r3.len,show decide (¬ lH x.dims x.attrs=0)=false by simp [c1]]
  refine tB (λc2=>?_) (λc2=>?_)
  .rw [Ah (by simp at c2;omega)] at hK
   simp only [Jn,↓Jm,bP]
   exact hK _ _ kG
  .rw [Ae (by simp at c2;omega)] at hK
   simp only [Jn,↓Jm,e2,f2,l2,r3.len]
   refine EW.up x.cells.length (λi es1=>Al hp nx es1.hp es1.nx/\nx<es1.nx/\es1.hp.get nx=some (.row 26 [d,a,c])/\Ac es1 (.t (.l .o))=.pt nx 0/\Ac es1 (.t (.r (.l (.r (.l .o)))))=c/\Ac es1 (.t (.l (.r (.r (.l .o)))))=iv x.cells.length/\Ac es1 (.t (.r (.r (.r (.l .o)))))=iv (i:Nat)/\Pq x.dims x.attrs none x.cells=Pq x.dims x.attrs (Sj x.cells i) (x.cells.drop i)) ?_ ?_ (by have:=ho.c;omega)
   .rintro i es1 hi ⟨g,gn,hg,b1,BM,H7,X3,hc⟩
    unfold zI
    have hoc:=ho.c
    by_cases h:i<x.cells.length
    .have w1:=h1.ka hn g
     have w2:=h2.ka hn g
     have w3:=h3.ka hn g
     obtain ⟨p,v,rp,rv,lc,_⟩:=Ed w3 h
     simp only [Am,↓An,BM,H7,X3,h,Yo w3 h,lc]
     refine Oe λHe Lx Jh=>?_
     simp only [bR] at Lx Jh
     have g3:Al hp nx He (es1.nx+1):=⟨by omega,λj hj=>by rw [Jh j (by omega),g.same j hj]⟩
     have FR:=rp.keep λj (hj:j<n0)=>Jh j (by omega)
     have FP:=rv.keep λj (hj:j<n0)=>Jh j (by omega)
     simp only [Am,↓An]
     refine Oi (id:=es1.nx) (ds:=[p,v]) (by simp only [bR]) Lx (by simp only [Di,bR];exact A66 FR FP) rfl rfl λHo Ov Ha=>?_
     simp only [bR] at Ov Ha
     have Xu:Ho.get nx=some (.row 26 [d,a,c]):=by rw [Ha nx (by omega),Jh nx (by omega),hg]
     obtain ⟨⟨q0,q1,q2⟩,m0,m1,m2,_⟩:=Mh Xu
     obtain ⟨⟨t0,t1⟩,u0,u1,u2⟩:=Wf Ov
     have g4:Al hp nx Ho (es1.nx+1):=g3.new (Af _) λj hj=>Ha j (by omega)
     have rp4:=FR.keep λj (hj:j<n0)=>Ha j (by omega)
     have rv4:=FP.keep λj (hj:j<n0)=>Ha j (by omega)
     have T5:=ho.e _ (Bd h)
     simp only [Am,↓An,b1,q0,q1,m0,m1,u2]
     refine Dt (Bv7 k n0 _ _ _ d a p v x.dims x.attrs x.cells[i] (by omega) (h1.ka hn g4) (h2.ka hn g4) rp4 rv4 ho.d ho.a T5.2.2 λDu Fm Cw=>?_)
     have Fp:=Cw.le
     have g5:=g4.trans Cw
     have vG:=(Cw.same nx (by omega)).trans Xu
     have Pf:=(Cw.same es1.nx (by omega)).trans Ov
     by_cases c3:Gy x.dims x.attrs x.cells[i]=0
     .cases i with
      | zero=>
       rw [G3 h,Ae (by simp [c3])] at hc
       simp only [Am,↓An,b1,BM,H7,X3,h,show decide (¬ Gy x.dims x.attrs x.cells[0]=0)=false by simp [c3],show Cl .add (.v (.int .i64 0)) (.v (.int .i64 1))=some (.v (.int .i64 1)) from rfl]
       exact ⟨g5,by omega,vG,by rfl,hc⟩
      | succ i=>
       rw [G2 h,Ae (by simp [c3])] at hc
       have sS:¬ ((i+1:Nat):Int)=0:=by omega
       have Lc:Cl .sub (.v (.int .i64 ((i+1:Nat):Int))) (.v (.int .i64 1))=some (.v (.int .i64 (i:Int))):=by rw [Lh,Dk (by omega)];congr 3;omega
       obtain ⟨⟨q0,q1,q2⟩,m0,m1,m2,_⟩:=Mh vG
       obtain ⟨⟨t0,t1⟩,u0,u1,u2⟩:=Wf Pf
       have w5:=h3.ka hn g5
       have Wa:i<x.cells.length:=by omega
       obtain ⟨p',v',rp',rv',_,_,lp',_⟩:=Ed w5 Wa
       have rp5:=rp4.keep λj (hj:j<n0)=>Cw.same j (by omega)
       simp only [Am,↓An,b1,show decide (¬ Gy x.dims x.attrs x.cells[i+1]=0)=false by simp [c3],sS,Lc,q2,m2,t0,u0,Yo w5 Wa,nS (k:=0) w5 Wa,lp',w5.rox (show n0<=Fm by omega),Z1 w5 (show n0<=Fm by omega),Ay9 w5 (show n0<=Fm by omega),Il (n0:=Fm) (m:=10) vG (show nx<Fm by omega),Il (n0:=Fm) (m:=10) Pf (show es1.nx<Fm by omega),rp'.rox (show n0<=Fm by omega),rp5.rox (show n0<=Fm by omega)]
       refine Ge rfl (Tf ?_)
       simp only [bR,Ao,Aq]
       refine wL (k:=k+2) n0 _ _ _ p' p _ _ (by omega) rp' rp5 (ho.e _ (Bd Wa)).1 ?_
       have g6:Al hp nx Du (Fm+10):=g5.nx (by omega)
       by_cases c4:Cd x.cells[i].pos x.cells[i+1].pos=0
       .rw [Ah c4] at hc
        rw [hc] at hK
        simp only [Am,↓An,bP,Ai c4]
        exact hK _ _ g6
       .rw [Ae c4] at hc
        by_cases c5:Cd x.cells[i].pos x.cells[i+1].pos=1
        .rw [Ah c5] at hc
         rw [hc] at hK
         simp only [Am,↓An,bP,Ad c4,Ai c5]
         exact hK _ _ g6
        .rw [Ae c5] at hc
         simp only [Am,↓An,b1,BM,H7,X3,h,Ad c4,Ad c5,Hn (show i+1<_ by have:=ho.c;omega)]
         exact ⟨g6,by omega,vG,hc⟩
     .have Wb:Pq x.dims x.attrs none x.cells=Gy x.dims x.attrs x.cells[i]:=by
       cases i with
       | zero=>rw [hc,G3 h,Ah c3]
       | succ i=>rw [hc,G2 h,Ah c3]
      rw [Wb] at hK
      simp only [Am,↓An,bP,c3]
      exact hK _ _ g5
    .simp only [Am,↓An,bP,H7,X3,h]
     have e:x.cells.drop i=[]:=Av (by omega)
     have Wb:Pq x.dims x.attrs none x.cells=0:=by
      rw [hc,e]
      cases Sj x.cells i <;> rfl
     rw [Wb] at hK
     exact hK _ _ g
   .simp only [Am]
    exact ⟨kG,by omega,Gv,rfl⟩
 .rw [Ah c1] at hK
  simp only [Am,↓An,bP,c1]
  exact hK _ _ kG
end
end Go.DD

/- Contracts: which arrays are valid, by the reference. Conditions: those that each theorem states. -/
namespace Go.DD
open Go Go.Proofs
section
variable (k n0:Nat) (hp:Tr DObj) (nx:Nat) (K:DV->Tr DObj->Nat->Prop)
variable (d:DV) (x:PArr) (hn:n0<=nx) (h0:AR hp (Bl n0) d x) (ho:AOK x)
include hn h0 ho
end
end Go.DD

/- Contracts: which arrays are examined. Conditions: those that each theorem states. -/
namespace Go.DD
open Go Go.Proofs
def kU(s:ByteArray):Bool:=decide ((s.size:Int)<=40)
def rK(d:List PDim)(a:List PAttr):Bool:=(decide (d.length<=10)&&decide (a.length<=10))&&(d.all (λx=>kU x.name)&&a.all λx=>kU x.name)
def W5(v:List PVal):Bool:=v.all λx=>kU x.s
def Sx(c:PCell):Bool:=(decide (c.pos.length<=10)&&decide (c.vals.length<=10))&&W5 c.vals
def rL(l:List PCell)(Jj:Nat):Bool:=decide (l.length<=Jj)&&l.all Sx
def Xj(x:PArr)(Jj:Nat):Bool:=rK x.dims x.attrs&&rL x.cells Jj
theorem eG{α:Type}{f:α->Bool}{l:List α}{i:Nat}(h:i<l.length):(l.take (i+1)).all f=((l.take i).all f&&f l[i]):=by
 rw [Eh h,List.all_append];simp
theorem eH{α:Type}{f:α->Bool}{l:List α}{i:Nat}(h:i<l.length)(hf:f l[i]=false):l.all f=false:=by
 rw [Ir]
 intro ha
 have:=Ay.1 ha _ (Bd h)
 rw [hf] at this;cases this
theorem Bv8{x:PArr}{Jj:Nat}(h:Xj x Jj=true)(hm:Jj<900000):AOK x:=by
 unfold Xj rK rL at h
 simp only [Bq,Iq,Ay] at h
 obtain ⟨⟨⟨h1,h2⟩,h3,h4⟩,h5,h6⟩:=h
 refine ⟨by omega,by omega,by omega,λc hc=>?_⟩
 have:=h6 c hc
 unfold Sx W5 at this
 simp only [Bq,Iq,Ay] at this
 obtain ⟨⟨a,b⟩,e⟩:=this
 refine ⟨by omega,by omega,λv hv=>?_⟩
 have:=e v hv
 unfold kU at this
 simp only [Iq] at this
 unfold Wn;omega
theorem Cx3{hp:Tr DObj}{p:Nat->Prop}{d:DV}{l:List PVal}(h:RL rVal hp p d l){i:Nat}(hi:i<l.length):Hk hp none (It (Cf 4 d i) 3)=some (sv l[i].s):=by
 obtain ⟨ds,hr,h1,h0,h2⟩:=h.at hi
 rw [Bu8] at hr
 exact h2 3 _ (by rw [hr];rfl)
section
variable (k n0:Nat) (hp:Tr DObj) (nx:Nat) (K:DV->Tr DObj->Nat->Prop)
theorem Az1(s:ByteArray)(hK:K (bv (kU s)) hp nx):KW (kN (k+1)) (.fn 120) [sv s] hp nx K:=by
 refine Ds (Gb (by decide)) ee (Ab rfl) λes e1 e2 he=>?_
 have a0:Ac es (.t .o)=sv s:=he 0 _ rfl
 unfold IH
 simp only [Jn,↓Jm,bP,a0,e1,e2]
 exact hK
theorem Co1(d a:DV)(l:List PDim)(m:List PAttr)(p:Nat->Prop)(h1:RL rDim hp p d l)(h2:RL rAttr hp p a m)(hK:K (bv (rK l m)) hp nx):KW (kN (k+2)) (.fn 51) [d,a] hp nx K:=by
 refine Ds (Gb (by decide)) t51 (Ab rfl) λes e1 e2 he=>?_
 have a0:Ac es (.t .o)=d:=he 0 _ rfl
 have a1:Ac es (.t (.l .o))=a:=he 1 _ rfl
 unfold r51
 simp only [Jn,↓Jm,a0,a1,e1,h1.len,h2.len]
 unfold rK at hK
 refine tB (λc=>?_) (λc=>?_)
 .rw [show (decide (l.length<=10)&&decide (m.length<=10))=false by simp at c ⊢;omega] at hK
  simp only [Jn,↓Jm,bP,e1,e2]
  exact hK
 rw [show (decide (l.length<=10)&&decide (m.length<=10))=true by simp at c ⊢;omega,Kb] at hK
 have pX:l.length<=10/\m.length<=10:=by simp at c;omega
 simp only [Jn,↓Jm]
 refine EW.up l.length (λi es1=>es1.hp=hp/\es1.nx=nx/\Ac es1 (.t .o)=d/\Ac es1 (.t (.l .o))=a/\Ac es1 (.t (.l (.r .o)))=iv (i:Nat)/\(l.take i).all (λx=>kU x.name)=true) ?_ ?_ (by omega)
 .rintro i es1 hi ⟨g1,g2,b0,b1,b5,hc⟩
  unfold zM
  by_cases h:i<l.length
  .simp only [Jn,↓Jm,b0,b5,g1,g2,h,h1.len,wF h1 h,Be3 (k:=0) h1 h,(tF h1 h).2.2.1]
   refine Dt (Az1 (k:=k) _ _ _ _ ?_)
   cases c4:kU l[i].name with
   | false=>
    rw [eH (f:=λx:PDim=>kU x.name) h c4,Bool.false_and] at hK
    simp only [Am,↓An,bP]
    exact hK
   | true=>
    simp only [Am,↓An,b0,b1,b5,h,Hn (show i<_ by omega)]
    rw [eG h,hc,c4];rfl
  .rw [Bm (by omega)] at hc
   rw [hc,Kb] at hK
   simp only [Jn,↓Jm,b0,b5,g1,h,h1.len]
   refine EW.up m.length (λi es1=>es1.hp=hp/\es1.nx=nx/\Ac es1 (.t (.l .o))=a/\Ac es1 (.t (.r (.r .o)))=iv (i:Nat)/\(m.take i).all (λx=>kU x.name)=true) ?_ ?_ (by omega)
   .rintro i es1 hi ⟨g1,g2,b1,b6,hc⟩
    unfold zL
    by_cases h:i<m.length
    .simp only [Jn,↓Jm,b1,b6,g1,g2,h,h2.len,J3 h2 h,A64 (k:=0) h2 h,(J5 h2 h).2.2.1]
     refine Dt (Az1 (k:=k) _ _ _ _ ?_)
     cases c4:kU m[i].name with
     | false=>
      rw [eH (f:=λx:PAttr=>kU x.name) h c4] at hK
      simp only [Am,↓An,bP]
      exact hK
     | true=>
      simp only [Am,↓An,b1,b6,h,Hn (show i<_ by omega)]
      rw [eG h,hc,c4];rfl
    .rw [Bm (by omega)] at hc
     rw [hc] at hK
     simp only [Jn,↓Jm,bP,b1,b6,g1,g2,h,h2.len]
     exact hK
   .simp only [Am,b1,g1,g2]
    rfl
 .simp only [Am,a0,a1,e1,e2]
  rfl
theorem Co2(c:DV)(l:List PCell)(Jj:Nat)(p:Nat->Prop)(h1:RL rCell hp p c l)(hm:Jj<900000)(hK:K (bv (rL l Jj)) hp nx):KW (kN (k+2)) (.fn 52) [c,iv (Jj:Nat)] hp nx K:=by
 refine Ds (Gb (by decide)) t52 (Ab rfl) λes e1 e2 he=>?_
 have a0:Ac es (.t .o)=c:=he 0 _ rfl
 have a1:Ac es (.t (.l .o))=iv (Jj:Nat):=he 1 _ rfl
 unfold r52
 unfold rL at hK
 by_cases c0:Jj<l.length
 .rw [Ad (by omega),Bool.false_and] at hK
  simp only [Am,↓An,bP,a0,a1,e1,e2,h1.len,c0]
  exact hK
 rw [Ai (by omega),Kb] at hK
 simp only [Am,↓An,a0,a1,e1,h1.len,c0]
 refine EW.up l.length (λi es1=>es1.hp=hp/\es1.nx=nx/\Ac es1 (.t .o)=c/\Ac es1 (.t (.l (.r .o)))=iv (i:Nat)/\(l.take i).all Sx=true) ?_ ?_ (by omega)
 .rintro i es1 hi ⟨g1,g2,b0,b5,hc⟩
  unfold zJ
  by_cases h:i<l.length
  .obtain ⟨x,y,r1,r2,_,_,ld0,kg⟩:=Ed h1 h
   have Vt:Sx l[i]=false->l.all Sx=false:=eH h
   have hs:=eG (f:=Sx) h
   rw [hc,Kb] at hs
   simp only [Jn,↓Jm,b0,b5,g1,h,h1.len,Yo h1 h,nS (k:=0) h1 h,nS (k:=1) h1 h,ld0,kg,r1.len,r2.len]
   refine tB (λc1=>?_) (λc1=>?_)
   .rw [Vt (by
     unfold Sx
     rw [show (decide (l[i].pos.length<=10)&&decide (l[i].vals.length<=10))=false by simp at c1 ⊢;omega];rfl)] at hK
    simp only [Jn,↓Jm,bP,g1,g2]
    exact hK
   have Xs:l[i].pos.length<=10/\l[i].vals.length<=10:=by simp at c1;omega
   have he:Sx l[i]=W5 l[i].vals:=by
    unfold Sx
    rw [Ai Xs.1,Ai Xs.2];rfl
   rw [he] at hs Vt
   simp only [Jn,↓Jm]
   refine EW.up l[i].vals.length (λj By=>By.hp=hp/\By.nx=nx/\Ac By (.t .o)=c/\Ac By (.t (.l (.r .o)))=iv (i:Nat)/\Ac By (.t (.r (.r .o)))=iv (j:Nat)/\(l[i].vals.take j).all (λx=>kU x.s)=true) ?_ ?_ (by omega)
   .rintro j By hj ⟨q1,q2,x0,x5,x6,Sw⟩
    unfold zK
    by_cases h':j<l[i].vals.length
    .simp only [Jn,↓Jm,x0,x5,x6,q1,q2,h',Yo h1 h,nS (k:=1) h1 h,kg,r2.len,Y2 r2 h',Cn1 (k:=3) r2 h',Cx3 r2 h']
     refine Dt (Az1 (k:=k) _ _ _ _ ?_)
     cases c4:kU l[i].vals[j].s with
     | false=>
      rw [Vt (eH (f:=λx:PVal=>kU x.s) h' c4)] at hK
      simp only [Am,↓An,bP]
      exact hK
     | true=>
      simp only [Am,↓An,x0,x5,x6,h',Hn (show j<_ by omega)]
      rw [eG h',Sw,c4];rfl
    .rw [Bm (by omega)] at Sw
     simp only [Jn,↓Jm,x0,x5,x6,q1,q2,h',Yo h1 h,nS (k:=1) h1 h,kg,r2.len,Hn (show i<_ by omega)]
     exact ⟨h,by rw [hs];exact Sw⟩
   .simp only [Am,b0,b5,g1,g2]
    rfl
  .rw [Bm (by omega)] at hc
   rw [hc] at hK
   simp only [Jn,↓Jm,bP,b0,b5,g1,g2,h,h1.len]
   exact hK
 .simp only [Am,a0,e1,e2]
  rfl
theorem Cf9(d:DV)(x:PArr)(Jj:Nat)(n0:Nat)(hn:n0<=nx)(h0:AR hp (Bl n0) d x)(hm:Jj<900000)(hK:∀ Ap Ba,Al hp nx Ap Ba->K (bv (Xj x Jj)) Ap Ba):KW (kN (k+3)) (.fn 13) [d,iv (Jj:Nat)] hp nx K:=by
 obtain ⟨d,a,c,rfl,h1,h2,h3⟩:=h0
 refine Ds (Gb (by decide)) t13 (Ab rfl) λes e1 e2 he=>?_
 have a0:Ac es (.t .o)=.agg [d,a,c]:=he 0 _ rfl
 have a1:Ac es (.t (.l .o))=iv (Jj:Nat):=he 1 _ rfl
 unfold r13
 simp only [↓An]
 refine Tm (cs:=[d,a,c]) (by rw [Di,a0,e1];exact AR.live h1 h2 h3) λDv Dc Cr=>?_
 simp only [bR,e1,e2] at Dc Cr
 obtain ⟨⟨f0,f1,f2⟩,l0,l1,l2,_⟩:=Mh Dc
 have Em:Al hp nx Dv (nx+1):=⟨by omega,λj hj=>Cr j (by omega)⟩
 have hh:=hK _ _ Em
 unfold Xj at hh
 simp only [Am,↓An,e2,f0,f1,l0,l1]
 refine Dt (Co1 (k:=k) _ _ _ d a x.dims x.attrs (Bl n0) (h1.ka hn Em) (h2.ka hn Em) ?_)
 cases c1:rK x.dims x.attrs with
 | false=>
  rw [c1] at hh
  simp only [Am,↓An,bP,e2]
  exact hh
 | true=>
  rw [c1,Kb] at hh
  simp only [Am,↓An,e2,a1,f2,l2]
  refine Dt (Co2 (k:=k) _ _ _ c x.cells Jj (Bl n0) (h3.ka hn Em) hm ?_)
  simp only [Am,↓An,bP]
  exact hh
end
end Go.DD

/- Contracts: copies of lists; arrays of the same dimensions and attributes. Conditions: those that each theorem states. -/
namespace Go.DD
open Go Go.Proofs
section
variable {α:Type} {R:Rep α} {hp Ap:Tr DObj} {p q:Nat->Prop} {d:DV} {l:List α}
theorem RL.notnil(h:RL R hp p d l)(hl:l≠[]):isNil 0 d=some false:=by
 cases h with
 | nil=>exact absurd rfl hl
 | sl=>
  show (if 0<l.length then some false else none)=_
  rw [Ah (by cases l with | nil=>exact absurd rfl hl | cons=>simp)]
 | ms id off fl l h hid Yf hr hs=>
  show (if 0<l.length then some false else none)=_
  rw [Ah (by cases l with | nil=>exact absurd rfl hl | cons=>simp)]
theorem RL.sl0(h:RL R hp p (.sl [] 0) l):l=[]:=by
 have:=h.len
 have e:Qp hp (.sl [] 0)=some (.v (.int .i64 ((0:Nat):Int))):=rfl
 rw [e] at this
 simp at this
 exact Ex (by omega)
theorem RL.nil0(h:RL R hp p Bv l):l=[]:=by
 have:=h.len
 have e:Qp hp Bv=some (.v (.int .i64 ((0:Nat):Int))):=rfl
 rw [e] at this
 simp at this
 exact Ex (by omega)
def OLs(R:Rep α)(hp:Tr DObj)(p:Nat->Prop)(d:DV)(l:List α):Prop:=OL R hp p d l\/(l=[]/\d=.sl [] 0)
theorem OLs.rl{n n':Nat}(h:OLs R hp p d l)(hr:Rng n n' d):RL R hp (λj=>p j\/Bw n n' j) d l:=by
 rcases h with h | ⟨rfl,rfl⟩
 .exact h.rl.mono λj hj=>hj.imp id λh=>hr j h
 .exact .sl []
theorem OLs.rlF{n n':Nat}(h:OLs R hp (λ_=>False) d l)(hr:Rng n n' d):RL R hp (Bw n n') d l:=(h.rl hr).mono λ_ hj=>hj.elim False.elim id
def Nn(d:DV)(l:List α):Prop:=l≠[]\/d=Bv\/d=.sl [] 0
end
theorem XE(n n':Nat):Rng n n' (.sl [] 0):=λ_ h=>by cases h
theorem mY:isNil 0 (aC (.slice none 0 0))=some true:=rfl
theorem SL{α:Type}{R:Rep α}{hp Ap:Tr DObj}{p q:Nat->Prop}(hf:∀ {ds:List DV} {x:α},R.rd hp p ds x->R.rd Ap q ds x):∀ {l:List α} {ds:List DV},Rows R hp p ds l->Rows R Ap q ds l
 | [],_,h=>h
 | _::_,_,⟨a,b,e,h1,h2⟩=>⟨a,b,e,hf h1,SL hf h2⟩
theorem YI(k n0:Nat)(hp:Tr DObj)(nx:Nat)(K:DV->Tr DObj->Nat->Prop)(d:DV)(l:List Int)(hn:n0<=nx)(h1:RL rInt hp (Bl n0) d l)(pV:Nn d l)(hl:l.length<2000000000)(hK:∀ Ap Ba d',Al hp nx Ap Ba->OLs rInt Ap (λ_=>False) d' l->Rng nx Ba d'->Nn d' l->K d' Ap Ba):KW (kN (k+1)) (.fn 70) [d] hp nx K:=by
 rcases pV with Hu | rfl | rfl
 .have hr:Kr 70 [d]=none:=by
   unfold Kr
   rw [Ae (by decide),Ah (by decide)]
   split
   .rename_i e
    exact absurd (by cases h1 <;> simp_all) Hu
   .rfl
  refine Ds hr t70 (Ab rfl) λes e1 e2 he=>?_
  have a0:Ac es (.t .o)=d:=he 0 _ rfl
  subst e1 e2
  unfold fu
  simp only [Am,↓An,a0]
  refine fM false (by simp only [Dh,bR,bP,h1.live];exact h1.notnil Hu) mY ?_
  simp only [Am,↓An]
  refine jF (fl:=[]) (by rfl) (by rfl) λDv Dc Cr=>?_
  simp only [bR] at Dc Cr
  simp only [Am,↓An,a0]
  have r1:RL rInt Dv (Bl n0) d l:=h1.keep λj (hj:j<n0)=>Cr j (by omega)
  refine fL (R:=rInt) (p:=(λ_=>False)) (p2:=(λ_=>False)) (d:=.ms es.nx 0 0 rInt.e) (d2:=d) (l:=[]) (m:=l) (by simp only [bR,bP];rfl) (.ms es.nx [] [] Dc rfl) (by simp only [Dh,bR,bP];exact r1.live) ((by obtain ⟨ds,q1,q2⟩:=r1.srcD (es:=⟨_,Dv,_⟩);exact ⟨ds,q1,SL (p:=Bl n0) (q:=λ_=>False) (λh=>h) q2⟩)) rfl rfl (by simp;omega) (by decide) λDb Fj h2=>?_
  simp only [bR,Bh] at Fj h2
  have h3:=h2 (λ_=>False) (λj hj=>(hj.elim False.elim False.elim:False).elim)
  simp only [Am,↓An,bP,h3.rl.live]
  refine hK _ _ _ ⟨by omega,λj hj=>?_⟩ (.inl h3) (Rng.ms (by omega) (by omega)) (.inl Hu)
  rw [Fj j (by omega) (by simp [DV.refs];omega),Cr j (by omega)]
 .have gS:l=[]:=h1.nil0
  subst gS
  have hr:Kr 70 [Bv]=none:=by
   unfold Kr
   rw [Ae (by decide),Ah (by decide)]
   rfl
  refine Ds hr t70 (Ab rfl) λes e1 e2 he=>?_
  have a0:Ac es (.t .o)=Bv:=he 0 _ rfl
  subst e1 e2
  unfold fu
  simp only [Am,↓An,a0]
  refine fM true (by simp only [Dh,bR,bP,Bv,Sd];rfl) mY ?_
  simp only [Am,↓An,bP]
  exact hK _ _ Bv (Al.refl _ _) (.inl .nil) (Rng.nil _ _) (.inr (.inl rfl))
 .have gS:l=[]:=h1.sl0
  subst gS
  exact RS (d:=.sl [] 0) (by unfold Kr;rw [Ae (by decide),Ah (by decide)];rfl) (hK _ _ _ (Al.refl _ _) (.inr ⟨rfl,rfl⟩) (XE _ _) (.inr (.inr rfl)))
theorem Bb7(k n0:Nat)(hp:Tr DObj)(nx:Nat)(K:DV->Tr DObj->Nat->Prop)(d:DV)(l:List PVal)(hn:n0<=nx)(h1:RL rVal hp (Bl n0) d l)(pV:Nn d l)(hl:l.length<2000000000)(hK:∀ Ap Ba d',Al hp nx Ap Ba->OLs rVal Ap (λ_=>False) d' l->Rng nx Ba d'->Nn d' l->K d' Ap Ba):KW (kN (k+1)) (.fn 142) [d] hp nx K:=by
 rcases pV with Hu | rfl | rfl
 .have hr:Kr 142 [d]=none:=by
   unfold Kr
   rw [Ae (by decide),Ah (by decide)]
   split
   .rename_i e
    exact absurd (by cases h1 <;> simp_all) Hu
   .rfl
  refine Ds hr EZ (Ab rfl) λes e1 e2 he=>?_
  have a0:Ac es (.t .o)=d:=he 0 _ rfl
  subst e1 e2
  unfold M8
  simp only [Am,↓An,a0]
  refine fM false (by simp only [Dh,bR,bP,h1.live];exact h1.notnil Hu) mY ?_
  simp only [Am,↓An]
  refine jF (fl:=[]) (by rfl) (by rfl) λDv Dc Cr=>?_
  simp only [bR] at Dc Cr
  simp only [Am,↓An,a0]
  have r1:RL rVal Dv (Bl n0) d l:=h1.keep λj (hj:j<n0)=>Cr j (by omega)
  refine fL (R:=rVal) (p:=(λ_=>False)) (p2:=(λ_=>False)) (d:=.ms es.nx 0 0 rVal.e) (d2:=d) (l:=[]) (m:=l) (by simp only [bR,bP];rfl) (.ms es.nx [] [] Dc rfl) (by simp only [Dh,bR,bP];exact r1.live) ((by obtain ⟨ds,q1,q2⟩:=r1.srcD (es:=⟨_,Dv,_⟩);exact ⟨ds,q1,SL (p:=Bl n0) (q:=λ_=>False) (λh=>h) q2⟩)) rfl rfl (by simp;omega) (by decide) λDb Fj h2=>?_
  simp only [bR,Bh] at Fj h2
  have h3:=h2 (λ_=>False) (λj hj=>(hj.elim False.elim False.elim:False).elim)
  simp only [Am,↓An,bP,h3.rl.live]
  refine hK _ _ _ ⟨by omega,λj hj=>?_⟩ (.inl h3) (Rng.ms (by omega) (by omega)) (.inl Hu)
  rw [Fj j (by omega) (by simp [DV.refs];omega),Cr j (by omega)]
 .have gS:l=[]:=h1.nil0
  subst gS
  have hr:Kr 142 [Bv]=none:=by
   unfold Kr
   rw [Ae (by decide),Ah (by decide)]
   rfl
  refine Ds hr EZ (Ab rfl) λes e1 e2 he=>?_
  have a0:Ac es (.t .o)=Bv:=he 0 _ rfl
  subst e1 e2
  unfold M8
  simp only [Am,↓An,a0]
  refine fM true (by simp only [Dh,bR,bP,Bv,Sd];rfl) mY ?_
  simp only [Am,↓An,bP]
  exact hK _ _ Bv (Al.refl _ _) (.inl .nil) (Rng.nil _ _) (.inr (.inl rfl))
 .have gS:l=[]:=h1.sl0
  subst gS
  exact RS (d:=.sl [] 0) (by unfold Kr;rw [Ae (by decide),Ah (by decide)];rfl) (hK _ _ _ (Al.refl _ _) (.inr ⟨rfl,rfl⟩) (XE _ _) (.inr (.inr rfl)))
theorem Bv9(k n0:Nat)(hp:Tr DObj)(nx:Nat)(K:DV->Tr DObj->Nat->Prop)(d:DV)(l:List PDim)(hn:n0<=nx)(h1:RL rDim hp (Bl n0) d l)(pV:Nn d l)(hl:l.length<2000000000)(hK:∀ Ap Ba d',Al hp nx Ap Ba->OLs rDim Ap (λ_=>False) d' l->Rng nx Ba d'->Nn d' l->K d' Ap Ba):KW (kN (k+1)) (.fn 162) [d] hp nx K:=by
 rcases pV with Hu | rfl | rfl
 .have hr:Kr 162 [d]=none:=by
   unfold Kr
   rw [Ae (by decide),Ah (by decide)]
   split
   .rename_i e
    exact absurd (by cases h1 <;> simp_all) Hu
   .rfl
  refine Ds hr EX (Ab rfl) λes e1 e2 he=>?_
  have a0:Ac es (.t .o)=d:=he 0 _ rfl
  subst e1 e2
  unfold M6
  simp only [Am,↓An,a0]
  refine fM false (by simp only [Dh,bR,bP,h1.live];exact h1.notnil Hu) mY ?_
  simp only [Am,↓An]
  refine jF (fl:=[]) (by rfl) (by rfl) λDv Dc Cr=>?_
  simp only [bR] at Dc Cr
  simp only [Am,↓An,a0]
  have r1:RL rDim Dv (Bl n0) d l:=h1.keep λj (hj:j<n0)=>Cr j (by omega)
  refine fL (R:=rDim) (p:=(λ_=>False)) (p2:=(λ_=>False)) (d:=.ms es.nx 0 0 rDim.e) (d2:=d) (l:=[]) (m:=l) (by simp only [bR,bP];rfl) (.ms es.nx [] [] Dc rfl) (by simp only [Dh,bR,bP];exact r1.live) ((by obtain ⟨ds,q1,q2⟩:=r1.srcD (es:=⟨_,Dv,_⟩);exact ⟨ds,q1,SL (p:=Bl n0) (q:=λ_=>False) (λh=>h) q2⟩)) rfl rfl (by simp;omega) (by decide) λDb Fj h2=>?_
  simp only [bR,Bh] at Fj h2
  have h3:=h2 (λ_=>False) (λj hj=>(hj.elim False.elim False.elim:False).elim)
  simp only [Am,↓An,bP,h3.rl.live]
  refine hK _ _ _ ⟨by omega,λj hj=>?_⟩ (.inl h3) (Rng.ms (by omega) (by omega)) (.inl Hu)
  rw [Fj j (by omega) (by simp [DV.refs];omega),Cr j (by omega)]
 .have gS:l=[]:=h1.nil0
  subst gS
  have hr:Kr 162 [Bv]=none:=by
   unfold Kr
   rw [Ae (by decide),Ah (by decide)]
   rfl
  refine Ds hr EX (Ab rfl) λes e1 e2 he=>?_
  have a0:Ac es (.t .o)=Bv:=he 0 _ rfl
  subst e1 e2
  unfold M6
  simp only [Am,↓An,a0]
  refine fM true (by simp only [Dh,bR,bP,Bv,Sd];rfl) mY ?_
  simp only [Am,↓An,bP]
  exact hK _ _ Bv (Al.refl _ _) (.inl .nil) (Rng.nil _ _) (.inr (.inl rfl))
 .have gS:l=[]:=h1.sl0
  subst gS
  exact RS (d:=.sl [] 0) (by unfold Kr;rw [Ae (by decide),Ah (by decide)];rfl) (hK _ _ _ (Al.refl _ _) (.inr ⟨rfl,rfl⟩) (XE _ _) (.inr (.inr rfl)))
theorem Bw0(k n0:Nat)(hp:Tr DObj)(nx:Nat)(K:DV->Tr DObj->Nat->Prop)(d:DV)(l:List PAttr)(hn:n0<=nx)(h1:RL rAttr hp (Bl n0) d l)(pV:Nn d l)(hl:l.length<2000000000)(hK:∀ Ap Ba d',Al hp nx Ap Ba->OLs rAttr Ap (λ_=>False) d' l->Rng nx Ba d'->Nn d' l->K d' Ap Ba):KW (kN (k+1)) (.fn 163) [d] hp nx K:=by
 rcases pV with Hu | rfl | rfl
 .have hr:Kr 163 [d]=none:=by
   unfold Kr
   rw [Ae (by decide),Ah (by decide)]
   split
   .rename_i e
    exact absurd (by cases h1 <;> simp_all) Hu
   .rfl
  refine Ds hr EV (Ab rfl) λes e1 e2 he=>?_
  have a0:Ac es (.t .o)=d:=he 0 _ rfl
  subst e1 e2
  unfold M5
  simp only [Am,↓An,a0]
  refine fM false (by simp only [Dh,bR,bP,h1.live];exact h1.notnil Hu) mY ?_
  simp only [Am,↓An]
  refine jF (fl:=[]) (by rfl) (by rfl) λDv Dc Cr=>?_
  simp only [bR] at Dc Cr
  simp only [Am,↓An,a0]
  have r1:RL rAttr Dv (Bl n0) d l:=h1.keep λj (hj:j<n0)=>Cr j (by omega)
  refine fL (R:=rAttr) (p:=(λ_=>False)) (p2:=(λ_=>False)) (d:=.ms es.nx 0 0 rAttr.e) (d2:=d) (l:=[]) (m:=l) (by simp only [bR,bP];rfl) (.ms es.nx [] [] Dc rfl) (by simp only [Dh,bR,bP];exact r1.live) ((by obtain ⟨ds,q1,q2⟩:=r1.srcD (es:=⟨_,Dv,_⟩);exact ⟨ds,q1,SL (p:=Bl n0) (q:=λ_=>False) (λh=>h) q2⟩)) rfl rfl (by simp;omega) (by decide) λDb Fj h2=>?_
  simp only [bR,Bh] at Fj h2
  have h3:=h2 (λ_=>False) (λj hj=>(hj.elim False.elim False.elim:False).elim)
  simp only [Am,↓An,bP,h3.rl.live]
  refine hK _ _ _ ⟨by omega,λj hj=>?_⟩ (.inl h3) (Rng.ms (by omega) (by omega)) (.inl Hu)
  rw [Fj j (by omega) (by simp [DV.refs];omega),Cr j (by omega)]
 .have gS:l=[]:=h1.nil0
  subst gS
  have hr:Kr 163 [Bv]=none:=by
   unfold Kr
   rw [Ae (by decide),Ah (by decide)]
   rfl
  refine Ds hr EV (Ab rfl) λes e1 e2 he=>?_
  have a0:Ac es (.t .o)=Bv:=he 0 _ rfl
  subst e1 e2
  unfold M5
  simp only [Am,↓An,a0]
  refine fM true (by simp only [Dh,bR,bP,Bv,Sd];rfl) mY ?_
  simp only [Am,↓An,bP]
  exact hK _ _ Bv (Al.refl _ _) (.inl .nil) (Rng.nil _ _) (.inr (.inl rfl))
 .have gS:l=[]:=h1.sl0
  subst gS
  exact RS (d:=.sl [] 0) (by unfold Kr;rw [Ae (by decide),Ah (by decide)];rfl) (hK _ _ _ (Al.refl _ _) (.inr ⟨rfl,rfl⟩) (XE _ _) (.inr (.inr rfl)))
def rCells:Rep (List PCell):=Qx rCell 24
end Go.DD

/- Contracts: arrays that are alike; where coordinates lie in an array. Conditions: those that each theorem states. -/
namespace Go.DD
open Go Go.Proofs
theorem Cx4{a:Nat}(h:a<9000000000000000000):Cl .quo (.v (.int .i64 (a:Int))) (.v (.int .i64 2))=some (.v (.int .i64 ((a / 2:Nat):Int))):=by
 have e:(a:Int).tdiv 2=((a / 2:Nat):Int):=rfl
 have Fb:a / 2<=a:=Xp _ _
 generalize a / 2=q at e Fb ⊢
 have e2:Mq .quo .i64 (a:Int) 2=some (.int .i64 (q:Int)):=by
  unfold Mq
  simp only
  rw [Ae (by decide),e,Dk (by omega)]
 simp only [Cl,Lw,Nh]
 simp [e2]
def Qg(l:List PCell):Prop:=∀ i j,(h:i<j)->(h2:j<l.length)->Cd (l[i]'(by omega)).pos l[j].pos = -1
def Kv(l:List PCell)(x:List Int):List PVal:=match l.find? (λc=>decide (c.pos=x)) with
 | some c=>c.vals
 | none=>[]
theorem A26{l m:List Int}(h:Cd l m = -1):l≠m:=λe=>by rw [cmpL_0.2 e] at h;cases h
theorem A27{l:List PCell}(hs:Qg l){i:Nat}(hi:i<l.length):Kv l l[i].pos=l[i].vals:=by
 have:l.find? (λc=>decide (c.pos=l[i].pos))=some l[i]:=by
  rw [List.find?_eq_some_iff_getElem]
  refine ⟨by simp,i,hi,rfl,λj hj=>?_⟩
  have:=A26 (hs j i hj hi)
  simpa using this
 unfold Kv
 rw [this]
theorem Bo2{l:List PCell}{x:List Int}(h:∀ j,(h:j<l.length)->l[j].pos≠x):Kv l x=[]:=by
 have:l.find? (λc=>decide (c.pos=x))=none:=by
  rw [Rl]
  intro c hc
  obtain ⟨j,hj,rfl⟩:=Bx.1 hc
  simpa using h j hj
 unfold Kv
 rw [this]
section
variable (k n0:Nat) (hp:Tr DObj) (nx:Nat) (K:DV->Tr DObj->Nat->Prop)
theorem Bl1(d1 d2:DV)(x y:PArr)(hn:n0<=nx)(h1:AR hp (Bl n0) d1 x)(h2:AR hp (Bl n0) d2 y)(hx:AOK x)(hK:∀ Ap Ba,Al hp nx Ap Ba->K (bv (decide (x.dims=y.dims)&&decide (x.attrs=y.attrs))) Ap Ba):KW (kN (k+2)) (.fn 67) [d1,d2] hp nx K:=by
 obtain ⟨d,a,c,rfl,r1,r2,r3⟩:=h1
 obtain ⟨d',a',c',rfl,s1,s2,s3⟩:=h2
 refine Ds (Gb (by decide)) t67 (Ab rfl) λes e1 e2 he=>?_
 have a0:Ac es (.t .o)=.agg [d,a,c]:=he 0 _ rfl
 have a1:Ac es (.t (.l .o))=.agg [d',a',c']:=he 1 _ rfl
 unfold r67
 subst e1 e2
 simp only [↓An]
 refine Tm (cs:=[d,a,c]) (by rw [Di,a0];exact AR.live r1 r2 r3) λDv Dc Cr=>?_
 simp only [bR] at Dc Cr
 have Em:Al es.hp es.nx Dv (es.nx+1):=⟨by omega,λj hj=>Cr j (by omega)⟩
 simp only [Am,↓An]
 refine Tm (cs:=[d',a',c']) (by simp only [Di,bR,a1];exact AR.live (s1.ka hn Em) (s2.ka hn Em) (s3.ka hn Em)) λDb Gv Fj=>?_
 simp only [bR] at Gv Fj
 have Cq:Al es.hp es.nx Db (es.nx+2):=⟨by omega,λj hj=>by rw [Fj j (by omega),Cr j (by omega)]⟩
 obtain ⟨⟨f0,f1,f2⟩,l0,l1,l2,_⟩:=Mh ((Fj es.nx (by omega)).trans Dc)
 obtain ⟨⟨q0,q1,q2⟩,m0,m1,m2,_⟩:=Mh Gv
 simp only [Am,↓An,f0,l0,q0,m0]
 refine Dt (Cf6 (k:=k) n0 _ _ _ d d' _ _ (by omega) (r1.ka hn Cq) (s1.ka hn Cq) hx.d λDn aZ=>?_)
 cases c1:decide (x.dims=y.dims) with
 | false=>
  simp only [Am,↓An,bP]
  have:=hK Db Dn (Cq.nx (by omega))
  rw [c1] at this
  exact this
 | true=>
  simp only [Am,↓An,f1,l1,q1,m1]
  refine Dt (Cf7 (k:=k) n0 _ _ _ a a' _ _ (by omega) (r2.ka hn Cq) (s2.ka hn Cq) hx.a λLb R1=>?_)
  simp only [Am,↓An,bP]
  have:=hK Db Lb (Cq.nx (by omega))
  rw [c1] at this
  exact this
end
end Go.DD

/- Contracts: cells are merged and sorted. Conditions: those that each theorem states. -/
namespace Go.DD
open Go Go.Proofs
theorem RL.sliE{α:Type}{R:Rep α}{hp:Tr DObj}{p:Nat->Prop}{d:DV}{l:List α}(hd:RL R hp p d l){a z e:Nat}{lo hi:Option DV}(he:e=R.e)(Hv:iX 0 lo=some (a:Int))(Tl:∀ n:Int,n=l.length->iX n hi=some (z:Int))(haz:a<=z)(hz:z<=l.length):Go.DD.sliE e d lo hi=some (tW R.e a z d):=by
 subst he
 cases hd with
 | nil=>
  have ha:a=0/\z=0:=by simp at hz;omega
  obtain ⟨rfl,rfl⟩:=ha
  have hh:=Tl 0 rfl
  unfold Go.DD.sliE
  simp only [Bv,Hv,hh]
  rfl
 | sl=>
  have hh:=Tl l.length rfl
  unfold Go.DD.sliE
  simp only [Hv,hh]
  rw [Ah ⟨by omega,by omega,by omega⟩]
  simp only [Fy];rfl
 | ms id off fl l hg hid hl hr hs=>
  have hh:=Tl l.length rfl
  unfold Go.DD.sliE
  simp only [Hv,hh]
  rw [Ah ⟨trivial,by omega,by omega,by omega⟩]
  simp only [Fy]
  have e2:((a:Int)<(z:Int)\/(a:Int)=0)↔(a<z\/a=0):=by omega
  unfold tW
  simp only [e2]
theorem SK{hp:Tr DObj}{p:Nat->Prop}{d:DV}{l:List PCell}(h:RL rCell hp p d l)(hi:0<l.length):Ms hp 2 d (.v (.int .i64 0))=some (Cf 2 d 0):=h.ia hi
section
variable (k n0:Nat) (hp:Tr DObj) (nx:Nat) (K:DV->Tr DObj->Nat->Prop)
end
end Go.DD

/- Contracts: cells are sorted. Conditions: those that each theorem states. -/
namespace Go.DD
open Go Go.Proofs
theorem RL.ro'{α:Type}{R:Rep α}{hp:Tr DObj}{p:Nat->Prop}{d:DV}{l:List α}{n m:Nat}{an:List Nat}(h:RL R hp p d l)(ho:∀ j,p j->j<n\/n+m<=j):Ib d (λid=>Cp n m an hp id):=λid hid=>(tJ hp id).2 ⟨(h.refs id hid).2,(ho id (h.refs id hid).1).imp (λh=>h) .inl⟩
end Go.DD

/- Contracts: the coordinates of some arrays. Conditions: those that each theorem states. -/
namespace Go.DD
open Go Go.Proofs
def rChange:Rep PCell:=jM oJ xX 62 PCell.pos PCell.vals
theorem rChange_rd{hp:Tr DObj}{p:Nat->Prop}{ds:List DV}{x:PCell} : rChange.rd hp p ds x↔∃ a b,ds=[a,b]/\RL rInt hp p a x.pos/\RL rVal hp p b x.vals:=rCell_rd
section
variable (k n0:Nat) (hp:Tr DObj) (nx:Nat) (K:DV->Tr DObj->Nat->Prop)
end
end Go.DD

/- Contracts: the reference's difference of two arrays. Conditions: those that each theorem states. -/
namespace Go.DD
open Go Go.Proofs
theorem CT{z w:Value}{a b:DV}(h1:a.okC=true/\a.cells=[a])(h2:b.okC=true/\b.cells=[b]):Hi [DV.v z,DV.v w] [(0,1,a),(1,1,b)]=some [a,b]:=by
 simp [Hi,h1.1,h1.2,h2.1,h2.2]
theorem zk{z:List Value}{a b:DV}(hz:z.length=2):Hi (List.replicate 1 (z.map DV.v)).flatten [(0,2,.agg [a,b])]=some [a,b]:=by
 match z,hz with
 | [u,v],_=>rfl
theorem AR.rox{hp:Tr DObj}{n0 n m:Nat}{an:List Nat}{a b c:DV}{x:PArr}(h1:RL rDim hp (Bl n0) a x.dims)(h2:RL rAttr hp (Bl n0) b x.attrs)(h3:RL rCell hp (Bl n0) c x.cells)(hn:n0<=n):Ib (.agg [a,b,c]) (λid=>Cp n m an hp id):=λid hid=>by
 have:id∈a.refs\/id∈b.refs\/id∈c.refs:=by simpa [DV.refs,DV.refsL] using hid
 rcases this with h | h | h
 .exact h1.rox hn id h
 .exact h2.rox hn id h
 .exact h3.rox hn id h
theorem AR.same{hp:Tr DObj}{p:Nat->Prop}{a b c:DV}{x:PArr}(h1:RL rDim hp p a x.dims)(h2:RL rAttr hp p b x.attrs)(h3:RL rCell hp p c x.cells):∀ d∈[a,b,c],Nb 6 d d=true:=λd hd=>by
 simp only [Ak,Ax,or_false] at hd
 rcases hd with rfl | rfl | rfl
 .exact h1.same (by decide)
 .exact h2.same (by decide)
 .exact h3.same (by decide)
theorem Kl{α β:Type}{R:Rep α}{S:Rep β}{hp:Tr DObj}{p q:Nat->Prop}{a b:DV}{l:List α}{m:List β}(h1:RL R hp p a l)(h2:RL S hp q b m):Ch hp (.agg [a,b])=.agg [a,b]:=Wh λid hid=>by
 have:id∈a.refs\/id∈b.refs:=by simpa [DV.refs,DV.refsL] using hid
 rcases this with h | h
 .exact (h1.refs id h).2
 .exact (h2.refs id h).2
section
variable (k n0:Nat) (hp:Tr DObj) (nx:Nat) (K:DV->Tr DObj->Nat->Prop)
end
end Go.DD

/- Contracts: the reference's Delta; equal changes. Conditions: those that each theorem states. -/
namespace Go.DD
open Go Go.Proofs
theorem wC{hp:Tr DObj}{p:Nat->Prop}{d:DV}{l:List PCell}(h:RL rChange hp p d l){i:Nat}(hi:i<l.length):∃ a b,RL rInt hp p a l[i].pos/\RL rVal hp p b l[i].vals/\Hk hp (some 2) (Cf 2 d i)=some (.agg [a,b])/\Hk hp none (It (Cf 2 d i) 0)=some a/\Hk hp none (It (Cf 2 d i) 1)=some b:=by
 obtain ⟨ds,hr,h1,h0,h2⟩:=h.at hi
 obtain ⟨a,b,rfl,h3,h4⟩:=rChange_rd.1 hr
 exact ⟨a,b,h3,h4,h1,h2 0 _ rfl,h2 1 _ rfl⟩
theorem Uy{hp:Tr DObj}{p:Nat->Prop}{d:DV}{l:List PCell}(h:RL rChange hp p d l){i:Nat}(hi:i<l.length):Ms hp 2 d (.v (.int .i64 (i:Int)))=some (Cf 2 d i):=h.ia hi
theorem CS{hp:Tr DObj}{p:Nat->Prop}{d:DV}{l:List PCell}{k:Nat}(h:RL rChange hp p d l){i:Nat}(hi:i<l.length):Ow hp k (Cf 2 d i)=some (It (Cf 2 d i) k):=h.fa hi
theorem ZA{hp:Tr DObj}{n0:Nat}{d:DV}{l:List PCell}{n m i:Nat}{an:List Nat}(h:RL rChange hp (Bl n0) d l)(hn:n0<=n):Ib (Cf 2 d i) (λid=>Cp n m an hp id):=h.roax hn
theorem YZ{hp:Tr DObj}{n0:Nat}{d:DV}{l:List PCell}{n m i k:Nat}{an:List Nat}(h:RL rChange hp (Bl n0) d l)(hn:n0<=n):Ib (It (Cf 2 d i) k) (λid=>Cp n m an hp id):=h.rofx hn
theorem Bo3{d:List PDim}{a:List PAttr}{l:List PCell} : ∀ {b:PCell},Pq d a (some b) l=0->(∀ c∈l,Cd b.pos c.pos = -1/\Gy d a c=0)/\l.Pairwise (λx y=>Cd x.pos y.pos = -1):=by
 induction l with
 | nil=>intro b _;exact ⟨λc hc=>(by cases hc),.nil⟩
 | cons c l ih=>
  intro b h
  unfold Pq at h
  by_cases c1:Gy d a c=0
  .rw [Ae (by simp [c1])] at h
   by_cases c2:Cd b.pos c.pos=0
   .rw [Ah c2] at h;cases h
   .rw [Ae c2] at h
    by_cases c3:Cd b.pos c.pos=1
    .rw [Ah c3] at h;cases h
    .rw [Ae c3] at h
     have c4:Cd b.pos c.pos = -1:=by have:=mZ b.pos c.pos;omega
     obtain ⟨h1,h2⟩:=ih h
     refine ⟨λe he=>?_,.cons (λe he=>(h1 e he).1) h2⟩
     rcases Ak.1 he with rfl | he
     .exact ⟨c4,c1⟩
     .exact ⟨nZ c4 (h1 e he).1,(h1 e he).2⟩
  .rw [Ah c1] at h;exact absurd h c1
theorem Rg{x:PArr}(h:Ff x=0):x.cells.Pairwise (λx y=>Cd x.pos y.pos = -1)/\(∀ c∈x.cells,Gy x.dims x.attrs c=0)/\lH x.dims x.attrs=0:=by
 unfold Ff at h
 by_cases c1:lH x.dims x.attrs=0
 .rw [Ae (by simp [c1])] at h
  split at h
  .cases h
  .generalize x.cells=l at h ⊢
   cases l with
   | nil=>exact ⟨.nil,λc hc=>(by cases hc),c1⟩
   | cons c l=>
    unfold Pq at h
    by_cases c2:Gy x.dims x.attrs c=0
    .rw [Ae (by simp [c2])] at h
     obtain ⟨h1,h2⟩:=Bo3 h
     refine ⟨.cons (λe he=>(h1 e he).1) h2,λe he=>?_,c1⟩
     rcases Ak.1 he with rfl | he
     .exact c2
     .exact (h1 e he).2
    .rw [Ah c2] at h;exact absurd h c2
 .rw [Ah c1] at h;exact absurd h c1
theorem At4{x:PArr}(h:Ff x=0):Qg x.cells:=λi j Nm hj=>Dx.1 (Rg h).1 i j (by omega) hj Nm
theorem Z0{x:PArr}(h:Ff x=0):∀ c∈x.cells,c.pos≠[]:=λc hc he=>by
 have h1:=(Rg h).2.1 c hc
 have h2:=(Rg h).2.2
 have h3:c.pos.length=x.dims.length:=by
  unfold Gy at h1
  split at h1
  .cases h1
  .rename_i h3;omega
 have h4:x.dims.length=0:=by rw [<- h3,he];rfl
 have h5:Ob x.dims=13:=by unfold Ob;rw [Ah (Or.inl (show x.dims.length<1 by omega))]
 unfold lH at h2
 rw [h5] at h2
 cases h2
def Vx(x y:PArr):Bool:=decide (x.dims=y.dims)&&decide (x.attrs=y.attrs)
section
variable (k n0:Nat) (hp:Tr DObj) (nx:Nat) (K:DV->Tr DObj->Nat->Prop)
end
end Go.DD
