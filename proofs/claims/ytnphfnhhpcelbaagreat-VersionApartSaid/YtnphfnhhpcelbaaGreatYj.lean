/- A part. -/
import Derived.Test.YtnphfnhhpcelbaaGreatYi
set_option linter.unusedSectionVars false
set_option linter.unusedVariables false
namespace Go.DD
open Go Go.Proofs
def Iz:Option (List Int)->List (List PCell)->Option (List Int)
 | a,[]=>a
 | a,[]::hs=>Iz a hs
 | none,(c::_)::hs=>Iz (some c.pos) hs
 | some p,(c::_)::hs=>if Cd c.pos p = -1 then Iz (some c.pos) hs else Iz (some p) hs
def aX(p:List Int):List PCell->List PVal
 | []=>[]
 | c::_=>if c.pos=p then c.vals else []
def Rz(p:List Int):List PCell->List PCell
 | []=>[]
 | c::t=>if c.pos=p then t else c::t
theorem Qw(p:List Int)(c:PCell)(t:List PCell):Rz p (c::t)=if c.pos=p then t else c::t:=rfl
theorem jL(p:List Int)(c:PCell)(t:List PCell):aX p (c::t)=if c.pos=p then c.vals else []:=rfl
def Kd:Nat->List (List PCell)->List (List Int×List (List PVal))
 | 0,_=>[]
 | n+1,hs=>match Iz none hs with
  | none=>[]
  | some p=>(p,hs.map (aX p))::Kd n (hs.map (Rz p))
def Pl(hs:List (List PCell)):Nat:=(hs.map List.length).sum
def Gc(hs:List (List PCell)):List (List Int×List (List PVal)):=Kd (Pl hs) hs
theorem A69{hs:List (List PCell)} : ∀ {a:Option (List Int)} {p:List Int},Iz a hs=some p->a=some p\/∃ c t,(c::t)∈hs/\c.pos=p:=by
 induction hs with
 | nil=>intro a p h;exact .inl h
 | cons h hs ih=>
  intro a p e
  have up:(∃ c t,(c::t)∈hs/\c.pos=p)->∃ c t,(c::t)∈h::hs/\c.pos=p:=λ⟨c,t,h1,h2⟩=>⟨c,t,Bn _ h1,h2⟩
  cases h with
  | nil=>cases a <;> exact (ih e).imp id up
  | cons c t=>
   have here:some c.pos=some p->∃ c2 t2,(c2::t2)∈(c::t)::hs/\c2.pos=p:=λh=>⟨c,t,by simp,by simpa using h⟩
   cases a with
   | none=>exact .inr ((ih e).elim here up)
   | some q=>
    unfold Iz at e
    split at e
    .exact .inr ((ih e).elim here up)
    .exact (ih e).imp id up
theorem Bw2(p:List Int)(h:List PCell):(Rz p h).length<=h.length:=by
 cases h with
 | nil=>simp [Rz]
 | cons c t=>rw [Qw];split <;> simp
theorem Cx5(p:List Int)(hs:List (List PCell)):Pl (hs.map (Rz p))<=Pl hs:=by
 induction hs with
 | nil=>simp [Pl]
 | cons h hs ih=>
  have:=Bw2 p h
  unfold Pl at ih ⊢
  simp only [Ao,List.sum_cons]
  omega
theorem Cx6{p:List Int}{hs:List (List PCell)}{c:PCell}{t:List PCell}(h:(c::t)∈hs)(hc:c.pos=p):Pl (hs.map (Rz p))<Pl hs:=by
 induction hs with
 | nil=>cases h
 | cons a hs ih=>
  have h1:=Bw2 p a
  have h2:=Cx5 p hs
  unfold Pl at ih h2 ⊢
  simp only [Ao,List.sum_cons]
  rcases Ak.1 h with rfl | h
  .have:(Rz p (c::t)).length=t.length:=by rw [Qw,Ah hc]
   simp only [Fi] at *
   omega
  .have:=ih h
   omega
theorem YY{p:List Int}{h:List PCell}{c:PCell}(hc:c∈Rz p h):c∈h:=by
 cases h with
 | nil=>exact hc
 | cons a t=>
  rw [Qw] at hc
  split at hc
  .exact Bn _ hc
  .exact hc
theorem Be5{n:Nat}{hs:List (List PCell)}{p:List Int}(hn:Pl hs<=n)(h:Iz none hs=some p):∃ m,n=m+1/\Pl (hs.map (Rz p))<=m/\Kd n hs=(p,hs.map (aX p))::Kd m (hs.map (Rz p)):=by
 obtain ⟨c,t,h1,h2⟩:=(A69 h).elim (λh=>by cases h) id
 have Fb:=Cx6 h1 h2
 obtain ⟨m,rfl⟩:∃ m,n=m+1:=⟨n-1,by omega⟩
 refine ⟨m,rfl,by omega,?_⟩
 show (match Iz none hs with
  | none=>[]
  | some p=>(p,hs.map (aX p))::Kd m (hs.map (Rz p)))=_
 rw [h]
theorem YX{n:Nat}{hs:List (List PCell)}(h:Iz none hs=none):Kd n hs=[]:=by
 cases n with
 | zero=>rfl
 | succ n=>
  show (match Iz none hs with
   | none=>[]
   | some p=>(p,hs.map (aX p))::Kd n (hs.map (Rz p)))=_
  rw [h]
theorem Rows.set1{α:Type}{R:Rep α}{T:Nat}{hd:R.dep+1<=6}{hp:Tr DObj}{p:Nat->Prop}{v:DV}{x:List α}(hv:RL R hp p v x):∀ {l:List (List α)} {fl:List DV} (i:Nat),Rows (Qx R T hd) hp p fl l->Rows (Qx R T hd) hp p (fl.set i v) (l.set i x)
 | [],_,_,h=>by cases h;exact rfl
 | _::l,_,0,⟨a,b,e,⟨d,h1,h2⟩,h3⟩=>by subst e h1;exact ⟨[v],b,rfl,⟨v,rfl,hv⟩,h3⟩
 | _::l,_,i+1,⟨a,b,e,⟨d,h1,h2⟩,h3⟩=>by subst e h1;exact ⟨[d],_,rfl,⟨d,rfl,h2⟩,h3.set1 hv i⟩
def wB{α:Type}(R:Rep α)(T:Nat)(hd:R.dep+1<=6:=by decide):Rep (List α) where
 e:=1
 T:=T
 dep:=R.dep+1
 rd hp p ds l:=∃ d,ds=[d]/\RL R hp p d l/\Nn d l
 cells l:=[.sl (l.flatMap R.cells) l.length]
 e0:=Nat.one_pos
 d6:=hd
 len:=λ⟨_,h,_⟩=>by rw [h];rfl
 keep:=λ⟨d,h,h2,h3⟩ hk=>⟨d,h,h2.keep hk,h3⟩
 mono:=λ⟨d,h,h2,h3⟩ hk=>⟨d,h,h2.mono hk,h3⟩
 refs:=λ⟨d,h,h2,_⟩ id hi=>by
  subst h
  exact h2.refs id (by simpa [DV.refsL] using hi)
 pure:=λ_ _ l=>⟨_,rfl,.sl l,by cases l with | nil=>exact .inr (.inr rfl) | cons a l=>exact .inl (by simp)⟩
 ok:=λ⟨d,h,h2,_⟩ c hc=>by
  subst h
  obtain rfl:=Bk.1 hc
  exact h2.ok
 same:=λ⟨d,h,h2,_⟩ c hc n hn=>by
  subst h
  obtain rfl:=Bk.1 hc
  exact h2.same hn
 samec:=λl c hc n hn=>by
  obtain rfl:=Bk.1 hc
  exact (RL.sl (R:=R) (hp:=.e) (p:=λ_=>True) l).same hn
theorem Rows.set1N{α:Type}{R:Rep α}{T:Nat}{hd:R.dep+1<=6}{hp:Tr DObj}{p:Nat->Prop}{v:DV}{x:List α}(hv:RL R hp p v x/\Nn v x):∀ {l:List (List α)} {fl:List DV} (i:Nat),Rows (wB R T hd) hp p fl l->Rows (wB R T hd) hp p (fl.set i v) (l.set i x)
 | [],_,_,h=>by cases h;exact rfl
 | _::l,_,0,⟨a,b,e,⟨d,h1,h2,D9⟩,h3⟩=>by subst e h1;exact ⟨[v],b,rfl,⟨v,rfl,hv.1,hv.2⟩,h3⟩
 | _::l,_,i+1,⟨a,b,e,⟨d,h1,h2,D9⟩,h3⟩=>by subst e h1;exact ⟨[d],_,rfl,⟨d,rfl,h2,D9⟩,h3.set1N hv i⟩
theorem Rows.replN{α:Type}{R:Rep α}{T:Nat}{hd:R.dep+1<=6}{hp:Tr DObj}{p:Nat->Prop} : ∀ n:Nat,Rows (wB R T hd) hp p (List.replicate n Bv) (List.replicate n [])
 | 0=>rfl
 | n+1=>⟨[Bv],List.replicate n Bv,rfl,⟨Bv,rfl,.nil,.inr (.inl rfl)⟩,Rows.replN n⟩
theorem OL.get{α:Type}{R:Rep α}{hp:Tr DObj}{p:Nat->Prop}{id n e:Nat}{l:List α}(h:OL R hp p (.ms id 0 n e) l):n=l.length/\e=R.e/\∃ fl,hp.get id=some (.row R.T fl)/\Rows R hp p fl l:=by
 cases h with
 | ms id fl l h hr=>exact ⟨rfl,rfl,fl,h,hr⟩
section
variable {call:Bf} {es:ES} {dst:Option Pa} {q:Hold (ES->Prop)}
theorem Co3{α:Type}{R:Rep α}{T:Nat}{hd:R.dep+1<=6}{p:Nat->Prop}{a x:EO}{id i n:Nat}{v:DV}{l:List (List α)}{m:List α}(ea:Ac es a=.pt id i)(ho:OL (Qx R T hd) es.hp p (.ms id 0 n 1) l)(ev:Mz es x=v)(hv:RL R es.hp p v m)(hi:i<l.length)(eR:¬ p id)
  (h:∀ Ap,OL (Qx R T hd) Ap p (.ms id 0 n 1) (l.set i m)->(∀ j,j≠id->Ap.get j=es.hp.get j)->q.val ((ES.mk es.sl Ap es.nx).putE dst .any)) :
  Mv (sU dst (Ej 1 a x)) call es:=by
 obtain ⟨hn,_,fl,hg,hr⟩:=ho.get
 have hl:=hr.len
 refine Pt ea hg ev hv.ok (by rw [hl];show i<l.length*1;omega) λAp S8 R6=>h Ap ?_ R6
 have:=OL.ms (R:=Qx R T hd) (p:=p) id _ (l.set i m) S8 ((hr.set1 hv i).keep λj hj=>R6 j λe=>eR (e ▸ hj))
 rw [Xq,<- hn] at this
 exact this
theorem Co4{α:Type}{R:Rep α}{T:Nat}{hd:R.dep+1<=6}{p:Nat->Prop}{a x:EO}{id i n:Nat}{v:DV}{l:List (List α)}{m:List α}(ea:Ac es a=.pt id i)(ho:OL (wB R T hd) es.hp p (.ms id 0 n 1) l)(ev:Mz es x=v)(hv:RL R es.hp p v m)(pV:Nn v m)(hi:i<l.length)(eR:¬ p id)
  (h:∀ Ap,OL (wB R T hd) Ap p (.ms id 0 n 1) (l.set i m)->(∀ j,j≠id->Ap.get j=es.hp.get j)->q.val ((ES.mk es.sl Ap es.nx).putE dst .any)) :
  Mv (sU dst (Ej 1 a x)) call es:=by
 obtain ⟨hn,_,fl,hg,hr⟩:=ho.get
 have hl:=hr.len
 refine Pt ea hg ev hv.ok (by rw [hl];show i<l.length*1;omega) λAp S8 R6=>h Ap ?_ R6
 have:=OL.ms (R:=wB R T hd) (p:=p) id _ (l.set i m) S8 ((hr.set1N ⟨hv,pV⟩ i).keep λj hj=>R6 j λe=>eR (e ▸ hj))
 rw [Xq,<- hn] at this
 exact this
theorem B76{α:Type}{R:Rep α}{T e b:Nat}{hd:R.dep+1<=6}{x y:Operand}{n:Nat}(hx:es.ds.ev x=iv n)(hy:es.ds.ev y=iv n)(hn:n<=65536)(he:e=1)(hb:b<=64)
  (h:∀ Ap,(∀ p,OL (wB R T hd) Ap p (.ms es.nx 0 n 1) (List.replicate n []))->(∀ j,j≠es.nx->Ap.get j=es.hp.get j)->q.val ((ES.mk es.sl Ap (es.nx+1)).putE dst (.ms es.nx 0 n 1))):Mv (sU dst (Bc (.mks T e b [.slice none 0 0] x y))) call es:=by
 subst he
 show SW _ _ _ _
 rw [sw_u,Hf]
 have e:(List.replicate n ([Value.slice none 0 0].map DV.v)).flatten=List.replicate n Bv:=by
  clear h hx hy hn
  induction n with
  | zero=>rfl
  | succ n ih=>rw [Ja,List.flatten_cons,ih];rfl
 refine ⟨.ms es.nx 0 n 1,.lay (.row T (List.replicate n Bv)),?_,?_⟩
 .have hnb:n*b<=65536*64:=Nat.mul_le_mul hn hb
  simp only [Bb,hx,hy,iv,Mx]
  rw [Ah ⟨by omega,by omega,by omega,by omega,rfl,by omega⟩,Fy,e]
 .refine h (es.up (.lay (.row T (List.replicate n Bv)))).hp (λp=>?_) λj hj=>by rw [fK,get_set,Ae hj]
  have:=OL.ms (R:=wB R T hd) (p:=p) (hp:=(es.up (.lay (.row T (List.replicate n Bv)))).hp) es.nx (List.replicate n Bv) (List.replicate n []) (by rw [fK,get_set,Ah rfl];rfl) (Rows.replN n)
  rw [List.length_replicate] at this
  exact this
end
end Go.DD

/- Contracts: the walk over several cell lists. Conditions: those that each theorem states. -/
namespace Go.DD
open Go Go.Proofs
theorem Bw3(k:Nat)(hp:Tr DObj)(nx:Nat)(K:DV->Tr DObj->Nat->Prop)(d:DV)(l:List (List PCell))(P:Nat->Prop)(hP:∀ j,P j->j<nx)(h1:RL rCells hp P d l)(Hu:l≠[])(hl:l.length<2000000000)(hK:∀ Ap,(∀ j,j<nx->Ap.get j=hp.get j)->OL rCells Ap P (.ms (nx+1) 0 l.length 1) l->K (.ms (nx+1) 0 l.length 1) Ap (nx+2)):KW (kN (k+1)) (.fn 139) [d] hp nx K:=by
 have hr:Kr 139 [d]=none:=by
  unfold Kr
  rw [Ae (by decide),Ah (by decide)]
  split
  .rename_i e
   exact absurd (by cases h1 <;> simp_all) Hu
  .rfl
 refine Ds hr db (Ab rfl) λes e1 e2 he=>?_
 have a0:Ac es (.t .o)=d:=he 0 _ rfl
 subst e1 e2
 unfold HU
 simp only [Am,↓An,a0]
 refine fM false (by simp only [Dh,bR,bP,h1.live];exact h1.notnil Hu) mY ?_
 simp only [Am,↓An]
 refine jF (fl:=[]) (by rfl) (by rfl) λDv Dc Cr=>?_
 simp only [bR] at Dc Cr
 simp only [Am,↓An,a0]
 have r1:RL rCells Dv P d l:=h1.keep λj hj=>Cr j (by have:=hP j hj;omega)
 refine fL (R:=rCells) (p:=P) (p2:=P) (d:=.ms es.nx 0 0 rCells.e) (d2:=d) (l:=[]) (m:=l) (by simp only [bR,bP];rfl) (.ms es.nx [] [] Dc rfl) (by simp only [Dh,bR,bP];exact r1.live) (r1.srcD (es:=⟨_,Dv,_⟩)) rfl rfl (by simp;omega) (by decide) λDb Fj h2=>?_
 simp only [bR,Bh] at Fj h2
 have h3:=h2 P (λj hj=>by have hj3:P j:=hj.elim id id;have mE:=hP j hj3;exact ⟨hj3,by omega,by simp [DV.refs];omega⟩)
 simp only [Am,↓An,bP,h3.rl.live]
 refine hK _ (λj hj=>?_) h3
 rw [Fj j (by omega) (by simp [DV.refs];omega),Cr j (by omega)]
theorem CF{hp:Tr DObj}{p:Nat->Prop}{d:DV}{l:List (List PCell)}(h:RL rCells hp p d l){i:Nat}(hi:i<l.length):Ms hp 1 d (.v (.int .i64 (i:Int)))=some (Cf 1 d i):=h.ia hi
theorem OL.atS{α:Type}{R:Rep α}{T:Nat}{hd:R.dep+1<=6}{hp:Tr DObj}{p:Nat->Prop}{id n:Nat}{l:List (List α)}(h:OL (Qx R T hd) hp p (.ms id 0 n 1) l){i:Nat}(hi:i<l.length):∃ a,RL R hp p a l[i]/\Hk hp none (Cf 1 (.ms id 0 n 1) i)=some a:=by
 obtain ⟨_,_,fl,hg,hr⟩:=h.get
 obtain ⟨rest,e1,a,e2,h2⟩:=hr.at hi
 refine ⟨a,h2,?_⟩
 show Hk hp none (.pt id (0+i*1))=_
 have F7:fl.drop (i*1)=((fl.drop (i*1)).take 1)++rest:=e1
 have WK:(fl.drop (i*1)).take 1=[a]:=e2
 rw [Nt hg,Er,F7,WK]
 rfl
def mU:Rep (List PVal):=wB rVal 37
theorem RL.iaN{hp:Tr DObj}{p:Nat->Prop}{d:DV}{l:List (List PVal)}(h:RL mU hp p d l){i:Nat}(hi:i<l.length):Ms hp 1 d (.v (.int .i64 (i:Int)))=some (Cf 1 d i):=h.ia hi
theorem RL.atN{hp:Tr DObj}{p:Nat->Prop}{d:DV}{l:List (List PVal)}(h:RL mU hp p d l){i:Nat}(hi:i<l.length):∃ a,RL rVal hp p a l[i]/\Nn a l[i]/\Hk hp none (Cf 1 d i)=some a:=by
 obtain ⟨ds,hr,h1,h0,h2⟩:=h.at hi
 obtain ⟨a,rfl,h3,h4⟩:=hr
 exact ⟨a,h3,h4,h0 _ rfl⟩
def AtR(hp:Tr DObj)(P:Nat->Prop)(A:DV):Option (List Int)->Prop
 | none=>A=Bv
 | some p=>RL rInt hp P A p/\p≠[]/\p.length<900000
def Ke{α β:Type}(f g:α->β)(i:Nat)(l:List α):List β:=l.mapIdx λj x=>if j<i then f x else g x
theorem Bw4{α β:Type}(f g:α->β)(i:Nat)(l:List α):(Ke f g i l).length=l.length:=by simp [Ke]
theorem yR{α β:Type}(f g:α->β)(l:List α):Ke f g 0 l=l.map g:=by
 refine Vf (by simp [Ke]) λj h1 h2=>?_
 simp [Ke]
theorem JC{α β:Type}(f g:α->β)(l:List α):Ke f g l.length l=l.map f:=by
 refine Vf (by simp [Ke]) λj h1 h2=>?_
 have:j<l.length:=by simpa [Ke] using h1
 simp [Ke,this]
theorem Cx7{α β:Type}(f g:α->β)(l:List α){i:Nat}(h:i<l.length)(h2:i<(Ke f g i l).length):(Ke f g i l)[i]=g l[i]:=by simp [Ke]
theorem oV{α β:Type}(f g:α->β)(l:List α){i:Nat}(h:i<l.length):(Ke f g i l).set i (f l[i])=Ke f g (i+1) l:=by
 refine Vf (by simp [Ke]) λj h1 h2=>?_
 have hj:j<l.length:=by simpa [Ke] using h2
 rw [List.getElem_set]
 by_cases e:i=j
 .subst e;simp [Ke]
 .rw [Ae e]
  simp only [Ke,List.getElem_mapIdx]
  by_cases c:j<i
  .rw [Ah c,Ah (by omega)]
  .rw [Ae c,Ae (by omega)]
theorem yQ{α β:Type}(f g:α->β)(l:List α){i:Nat}(h:i<l.length)(he:f l[i]=g l[i]):Ke f g i l=Ke f g (i+1) l:=by
 rw [<- oV f g l h]
 refine (Vf (by simp) λj h1 h2=>?_)
 rw [List.getElem_set]
 by_cases e:i=j
 .subst e;simp [Ke,he]
 .rw [Ae e]
theorem Cg0{call:Bf}{es:ES}{dst:Option Pa}{Q:ES->Prop}{T e n:Nat}{z:List Value}{x y:Operand} : SW (sU dst (Bc (.mks T e n z x y))) call es Q↔@Mv (sU dst (Bc (.mks T e n z x y))) call es ⟨Q⟩:=Dp
section
variable (k L bx T:Nat) (d:DV) (Rp:List (List PCell)) (P:Nat->Prop) (J S:List (List Int×List (List PVal))->(Nat->Prop)->Tr DObj->Nat->Prop) (M0:Nat->Prop) (hp:Tr DObj) (nx:Nat) (K:DV->Tr DObj->Nat->Prop)
theorem Bl2(fE:hp.get bx=some (.row T [d]))(hd:RL rCells hp P d Rp)(hP:∀ j,P j->j<nx/\¬ M0 j)(Hu:Rp≠[])(hl:Rp.length<=1000)
  (hc:∀ h∈Rp,∀ c∈h,c.pos≠[]/\c.pos.length<900000/\c.vals≠[]) (mr:Pl Rp<900000)
  (hJ0:J [] M0 hp nx) (hJM:∀ W M hp nx,J W M hp nx->∀ j,M j->j<nx) (hJL:∀ W M hp nx,J W M hp nx->M L/\∃ o,hp.get L=some o)
  (ta:∀ W M hp nx Ap Ba,J W M hp nx->nx<=Ba->(∀ j,M j\/P j->Ap.get j=hp.get j)->J W M Ap Ba)
  (jR:∀ W M hp nx a s p nA (K:DV->Tr DObj->Nat->Prop),J W M hp nx->(W ++ [(p,nA)]) <+: Gc Rp->RL rInt hp P a p->OL mU hp P s nA->(∀ j∈s.refs,j<nx/\¬ M j)->(∀ j,P j->j<nx/\¬ M j)->
   (∀ Ap Ba M',nx<=Ba->(∀ j,j<nx->¬ M j->Ap.get j=hp.get j)->(∀ j,M' j->M j\/nx<=j)->J (W ++ [(p,nA)]) M' Ap Ba->K (bv true) Ap Ba)->
   (∀ Ap Ba M',nx<=Ba->(∀ j,j<nx->¬ M j->Ap.get j=hp.get j)->(∀ j,M' j->M j\/nx<=j)->S (W ++ [(p,nA)]) M' Ap Ba->K (bv false) Ap Ba)->KW (kN (k+4)) (.yl L) [a,s] hp nx K)
  (hK:∀ Ap Ba M',nx<=Ba->(∀ j,j<nx->¬ M0 j->Ap.get j=hp.get j)->(∀ j,M' j->M0 j\/nx<=j)->J (Gc Rp) M' Ap Ba->K (.tup []) Ap Ba)
  (hKS:∀ W Ap Ba M',nx<=Ba->(∀ j,j<nx->¬ M0 j->Ap.get j=hp.get j)->(∀ j,M' j->M0 j\/nx<=j)->S W M' Ap Ba->K (.tup []) Ap Ba) :
  KW (kN (k+5)) (.fn 138) [.yl L,.pt bx 0] hp nx K:=by
 refine Oq (Gb (by decide)) de (Ab rfl) λes e1 e2 he=>?_
 have a0:Ac es (.t .o)=.yl L:=he 0 _ rfl
 have a1:Ac es (.t (.l .o))=.pt bx 0:=he 1 _ rfl
 unfold HV
 subst e1 e2
 simp only [Am,↓An,a1,Of fE]
 refine Dt (Bw3 (k+3) _ _ _ d Rp P (λj hj=>(hP j hj).1) hd Hu (by omega) λDv Cr pS=>?_)
 have VV:=hJM _ _ _ _ hJ0
 have BC:J [] M0 Dv (es.nx+2):=ta _ _ _ _ _ _ hJ0 (by omega) λj hj=>Cr j (hj.elim (VV j) λh=>(hP j h).1)
 simp only [Am,↓An]
 refine EW.l (I:=λn es1=>∃ hs W M,Pl hs<=n/\n<900000/\hs.length=Rp.length/\(∀ h∈hs,∀ c∈h,c.pos≠[]/\c.pos.length<900000/\c.vals≠[])/\es.nx+2<=es1.nx/\(∀ j,j<es.nx->¬ M0 j->es1.hp.get j=es.hp.get j)/\(∀ j,M j->M0 j\/es.nx+2<=j)/\J W M es1.hp es1.nx/\OL rCells es1.hp P (.ms (es.nx+1) 0 Rp.length 1) hs/\Ac es1 (.t .o)=.yl L/\Ac es1 (.t (.l (.l .o)))=.ms (es.nx+1) 0 Rp.length 1/\W++Kd n hs=Gc Rp) ?_ (Pl Rp) 1000000 _ ?_ (by omega)
 .rintro n es1 ⟨hs,W,M,htn,hn9,hlen,fD,hle,Fv,V6,hJ,ho,b0,b3,hW⟩
  unfold Ce7
  have Po:∀ j,P j->j<es.nx/\¬ M j:=λj hj=>⟨(hP j hj).1,λh=>(V6 j h).elim (hP j hj).2 λh=>by have:=(hP j hj).1;omega⟩
  have lX:=ho.rl
  simp only [Am,↓An,b3,lX.len]
  refine EW.up hs.length (λi By=>∃ A st,By.hp=es1.hp/\es1.nx<=By.nx/\Ac By (.t .o)=.yl L/\Ac By (.t (.l (.l .o)))=.ms (es.nx+1) 0 Rp.length 1/\Ac By (.t (.r (.l (.r .o))))=.ms (es.nx+1) 0 Rp.length 1/\Ac By (.t (.l (.r (.r .o))))=iv hs.length/\Ac By (.t (.r (.r (.r .o))))=iv (i:Nat)/\Ac By (.t (.r (.l .o)))=A/\AtR es1.hp P A st/\Iz st (hs.drop i)=Iz none hs) ?_ ?_ (by omega)
  .rintro i By hi ⟨A,st,g1,g2,x0,x3,lL,lK,bH,x4,hA,Yd⟩
   unfold Ce5
   rw [<- g1] at lX hA ho
   by_cases h:i<hs.length
   .obtain ⟨hh,rh,lh⟩:=ho.atS h
    rw [As h] at Yd
    have Uq:=fD _ (Bd h)
    generalize hs[i]=H at rh Yd Uq
    cases H with
    | nil=>
     have Xc:Iz st (hs.drop (i+1))=Iz none hs:=by rw [<- Yd];cases st <;> rfl
     simp only [Am,↓An,x0,x3,lL,lK,bH,x4,h,CF lX h,lh,rh.len,Md,show decide ((0:Int)<0)=false from rfl,Hn (show i<_ by omega)]
     exact ⟨A,st,g1,g2,rfl,by rw [<- g1];exact hA,Xc⟩
    | cons c t=>
     have Uq:=Uq c (by simp)
     have h0:0<(c::t).length:=by simp
     obtain ⟨pA,vA,Gd,Gi,_,_,JR,_⟩:=Ed rh h0
     simp only [Jo] at Gd
     cases st with
     | none=>
      have hA:A=Bv:=hA
      subst hA
      have Xc:Iz (some c.pos) (hs.drop (i+1))=Iz none hs:=Yd
      simp only [Am,↓An,lL,lK,bH,x4,h,CF lX h,lh,rh.len,show (0:Int)<((c::t).length:Int) from Xr.2 h0]
      refine fM true (by simp only [Dh,bR,bP,Bv,Sd];rfl) mY ?_
      simp only [Am,↓An,x0,x3,lL,lK,bH,h,SK rh h0,nS (k:=0) rh h0,JR,Hn (show i<_ by omega)]
      exact ⟨pA,some c.pos,g1,g2,rfl,⟨by rw [<- g1];exact Gd,Uq.1,Uq.2.1⟩,Xc⟩
     | some p=>
      obtain ⟨hA,Dv,Db⟩:=hA
      simp only [Am,↓An,lL,lK,bH,x4,h,CF lX h,lh,rh.len,show (0:Int)<((c::t).length:Int) from Xr.2 h0]
      refine fM false (by simp only [Dh,bR,bP,hA.live];exact hA.notnil Dv) mY ?_
      simp only [Am,↓An,x4,SK rh h0,nS (k:=0) rh h0,JR]
      refine Dt (wL k es.nx _ _ _ pA A c.pos p (by omega) (Gd.mono λj hj=>(Po j hj).1) (hA.mono λj hj=>(Po j hj).1) Uq.2.1 ?_)
      by_cases c1:Cd c.pos p = -1
      .have Xc:Iz (some c.pos) (hs.drop (i+1))=Iz none hs:=by rw [<- Yd];show _=if Cd c.pos p = -1 then _ else _;rw [Ah c1]
       simp only [Am,↓An,x0,x3,lL,lK,bH,h,show Cd c.pos p<0 by omega,SK rh h0,nS (k:=0) rh h0,JR,Hn (show i<_ by omega)]
       exact ⟨pA,some c.pos,g1,g2,rfl,⟨by rw [<- g1];exact Gd,Uq.1,Uq.2.1⟩,Xc⟩
      .have Xc:Iz (some p) (hs.drop (i+1))=Iz none hs:=by rw [<- Yd];show _=if Cd c.pos p = -1 then _ else _;rw [Ae c1]
       simp only [Am,↓An,x0,x3,lL,lK,bH,x4,h,show ¬ Cd c.pos p<0 by have:=mZ c.pos p;omega,Hn (show i<_ by omega)]
       exact ⟨A,some p,g1,g2,rfl,⟨by rw [<- g1];exact hA,Dv,Db⟩,Xc⟩
   .rw [Av (by omega)] at Yd
    have Ro:Iz none hs=st:=by rw [<- Yd];cases st <;> rfl
    simp only [Am,↓An,lK,bH,x4,h]
    cases st with
    | none=>
     have hA:A=Bv:=hA
     subst hA
     refine fM true (by simp only [Dh,bR,bP,Bv,Sd];rfl) mY ?_
     simp only [Am,↓An]
     have hWe:W=Gc Rp:=by rw [<- hW,YX Ro,Bu]
     subst hWe
     refine hK _ _ M (by omega) (by rw [g1];exact Fv) (λj hj=>(V6 j hj).imp id λh=>by omega) (ta _ _ _ _ _ _ hJ g2 λj hj=>by rw [g1])
    | some p=>
     obtain ⟨hA,Dv,Db⟩:=hA
     refine fM false (by simp only [Dh,bR,bP,hA.live];exact hA.notnil Dv) mY ?_
     simp only [Am,↓An,x3,lX.len]
     simp only [↓Cg0]
     refine B76 (R:=rVal) (T:=37) (hd:=by decide) (n:=hs.length) (by simp only [Dh,bR,bP,Sd]) (by simp only [Dh,bR,bP,Sd]) (by omega) rfl (by omega) λHo B2 Ha=>?_
     simp only [bR] at B2 Ha
     simp only [Am,x3]
     have MN:OL rCells Ho P (.ms (es.nx+1) 0 Rp.length 1) hs:=by
      exact ho.keep λj hj=>Ha j (by
       rcases hj with hj | hj
       .have:=(Po j hj).1;omega
       .simp [DV.refs] at hj;omega)
     have hA4:RL rInt Ho P A p:=hA.keep λj hj=>Ha j (by have:=(Po j hj).1;omega)
     simp only [Am,MN.rl.len]
     refine EW.up hs.length (λi Fs=>OL rCells Fs.hp P (.ms (es.nx+1) 0 Rp.length 1) (Ke (Rz p) id i hs)/\OL mU Fs.hp P (.ms By.nx 0 hs.length 1) (Ke (aX p) (λ_=>[]) i hs)/\(∀ j,j≠es.nx+1->j≠By.nx->Fs.hp.get j=Ho.get j)/\By.nx+1<=Fs.nx/\Ac Fs (.t .o)=.yl L/\Ac Fs (.t (.l (.l .o)))=.ms (es.nx+1) 0 Rp.length 1/\Ac Fs (.t (.r (.l .o)))=A/\Ac Fs (.t (.l (.l (.l .o))))=.ms By.nx 0 hs.length 1/\Ac Fs (.t (.r (.l (.r (.r (.l .o))))))=.ms (es.nx+1) 0 Rp.length 1/\Ac Fs (.t (.l (.r (.r (.r (.l .o))))))=iv hs.length/\Ac Fs (.t (.r (.r (.r (.r (.l .o))))))=iv (i:Nat)) ?_ ?_ (by omega)
     .rintro i Fs hi ⟨oH,oS,iB,Ik,y0,y3,y4,y7,TK,DT,DQ⟩
      unfold Ce6
      have WC:RL rInt Fs.hp P A p:=hA4.keep λj hj=>iB j (by have:=(Po j hj).1;omega) (by have:=(Po j hj).1;omega)
      by_cases h:i<hs.length
      .have hH:i<(Ke (Rz p) id i hs).length:=by rw [Bw4];exact h
       obtain ⟨hh,rh,lh⟩:=oH.atS hH
       have rh:RL rCell Fs.hp P hh hs[i]:=by rw [Cx7 _ _ _ h] at rh;exact rh
       have Uq:=fD _ (Bd h)
       have e1:=yQ (Rz p) id hs h
       have e2:=yQ (aX p) (λ_=>[]) hs h
       have s1:=oV (Rz p) id hs h
       have s2:=oV (aX p) (λ_=>[]) hs h
       generalize hs[i]=H at rh Uq e1 e2 s1 s2
       cases H with
       | nil=>
        simp only [Am,↓An,y0,y3,y4,y7,TK,DT,DQ,h,CF oH.rl hH,lh,rh.len,Md,show decide ((0:Int)<0)=false from rfl,Hn (show i<_ by omega)]
        exact ⟨by rw [<- e1 rfl];exact oH,by rw [<- e2 rfl];exact oS,iB,Ik⟩
       | cons c t=>
        have Uq:=Uq c (by simp)
        have h0:0<(c::t).length:=by simp
        obtain ⟨pA,vA,Gd,Gi,_,_,JR,lvA⟩:=Ed rh h0
        simp only [Jo] at Gd Gi
        simp only [Am,↓An,y4,TK,DT,DQ,h,CF oH.rl hH,lh,rh.len,show (0:Int)<((c::t).length:Int) from Xr.2 h0,SK rh h0,nS (k:=0) rh h0,JR]
        refine Dt (wL k es.nx _ _ _ pA A c.pos p (by omega) (Gd.mono λj hj=>(Po j hj).1) (WC.mono λj hj=>(Po j hj).1) Uq.2.1 ?_)
        by_cases c1:c.pos=p
        .have FY:=rh.mono (q:=Bl es.nx) λj hj=>(Po j hj).1
         obtain ⟨_,_,flH,hgH,_⟩:=oH.get
         obtain ⟨_,_,flS,hgS,_⟩:=oS.get
         have hS:i<(Ke (aX p) (λ_=>[]) i hs).length:=by rw [Bw4];exact h
         have v1:Go.DD.sliE 2 hh (some (.v (.int .i64 1))) none=some (tW 2 1 (c::t).length hh):=rh.sliE (e:=2) (a:=1) (z:=(c::t).length) (lo:=some (.v (.int .i64 1))) (hi:=none) rfl rfl (λn hn=>by rw [hn];rfl) h0 (Af _)
         have rs:RL rCell Fs.hp P (tW 2 1 (c::t).length hh) t:=by
          have this:RL rCell Fs.hp P (tW 2 1 (c::t).length hh) (((c::t).drop 1).take ((c::t).length-1)):=rh.part (a:=1) (z:=(c::t).length) h0 (Af _)
          have e:((c::t).drop 1).take ((c::t).length-1)=t:=by simp
          rw [e] at this
          exact this
         have rs':=rs.mono (q:=Bl es.nx) λj hj=>(Po j hj).1
         have Ev:=Gi.mono (q:=Bl es.nx) λj hj=>(Po j hj).1
         have roS:∀ an,Ib (Cf 1 (.ms By.nx 0 hs.length 1) i) (λid=>Cp Fs.nx 14 an Fs.hp id):=λan j hj=>by
          have:j=By.nx:=by simpa [DV.refs] using wK _ _ _ j hj
          rw [this];exact Il hgS (by omega)
         simp only [Am,↓An,bP,y3,y7,cmpL_0.2 c1,SK rh h0,nS (k:=1) rh h0,lvA,FY.rox (show es.nx<=Fs.nx by omega),Z1 FY (show es.nx<=Fs.nx by omega),Ay9 FY (show es.nx<=Fs.nx by omega),Il (n0:=Fs.nx) (m:=14) hgH (show es.nx+1<Fs.nx by omega),Il (n0:=Fs.nx) (m:=14) hgS (show By.nx<Fs.nx by omega),Cw0,Cb,Option.map_none,rh.live,v1,oS.rl.iaN hS,Bj (roS _),Ev.rox (show es.nx<=Fs.nx by omega)]
         refine Ge rfl (Co4 (R:=rVal) (T:=37) (hd:=by decide) (p:=P) (id:=By.nx) (i:=i) (n:=hs.length) (m:=c.vals) (by simp only [bR];show DV.pt By.nx (0+i*1)=_;simp) oS (by simp only [Di,bR,Gi.live]) Gi (.inl Uq.2.2) hS (λh=>by have:=(Po _ h).1;omega) λDu oS5 Hd=>?_)
         simp only [bR] at Hd
         have uZ:∀ j,j<es.nx->Du.get j=Fs.hp.get j:=λj hj=>Hd j (by omega)
         have jo:OL rCells Du P (.ms (es.nx+1) 0 Rp.length 1) _:=oH.keep λj hj=>Hd j (by
          rcases hj with hj | hj
          .have:=(Po j hj).1;omega
          .simp [DV.refs] at hj;omega)
         obtain ⟨_,_,aYz,vH,_⟩:=jo.get
         have ff:=rs.keep (Ap:=Du) λj hj=>uZ j (Po j hj).1
         have fc:=ff.mono (q:=Bl es.nx) λj hj=>(Po j hj).1
         have roH:∀ an,Ib (Cf 1 (.ms (es.nx+1) 0 Rp.length 1) i) (λid=>Cp Fs.nx 14 an Du id):=λan j hj=>by
          have:j=es.nx+1:=by simpa [DV.refs] using wK _ _ _ j hj
          rw [this];exact Il vH (by omega)
         simp only [Am,↓An,Il (n0:=Fs.nx) (m:=14) vH (show es.nx+1<Fs.nx by omega),CF jo.rl hH,Bj (roH _),fc.rox (show es.nx<=Fs.nx by omega)]
         refine Ge rfl (Co3 (R:=rCell) (T:=24) (hd:=by decide) (p:=P) (id:=es.nx+1) (i:=i) (n:=Rp.length) (m:=t) (by simp only [bR];show DV.pt (es.nx+1) (0+i*1)=_;simp) jo (by simp only [Di,bR,ff.live]) ff hH (λh=>by have:=(Po _ h).1;omega) λGa oH6 Nk=>?_)
         simp only [bR] at Nk
         have pz:∀ j,j<es.nx->Ga.get j=Fs.hp.get j:=λj hj=>(Nk j (by omega)).trans (uZ j hj)
         have oS6:OL mU Ga P (.ms By.nx 0 hs.length 1) _:=OL.keep (R:=mU) oS5 λj hj=>Nk j (by
          rcases hj with hj | hj
          .have:=(Po j hj).1;omega
          .simp [DV.refs] at hj;omega)
         simp only [Am,↓An,y0,y3,y4,y7,TK,DT,DQ,h,Hn (show i<_ by omega)]
         obtain ⟨_,_,aYy,qk,_⟩:=oH6.get
         have Ht:PsOK [⟨13,[12,9,11,0,1,2,3,4,5,6,7,8,10],Du,Ga⟩,⟨11,[10,7,0,1,4,5,6],Fs.hp,Du⟩] Fs.hp es.nx:=((PsOK.nil _ _).cons (λ_ _=>rfl) uZ).cons uZ pz
         have s1':(Ke (Rz p) id i hs).set i t=Ke (Rz p) id (i+1) hs:=by rw [<- s1,Qw,Ah c1]
         have s2':(Ke (aX p) (λ_=>[]) i hs).set i c.vals=Ke (aX p) (λ_=>[]) (i+1) hs:=by rw [<- s2,jL,Ah c1]
         refine ⟨DA FY (λj (hj:j<es.nx)=>by omega) Ht (λ_ h=>h) (DA FY (λj (hj:j<es.nx)=>by omega) Ht (λ_ h=>h) (nT (λj hj=>?_) (BU _ _ _))),by rw [<- s1'];exact oH6,by rw [<- s2'];exact oS6,λj AQ mE=>by rw [Nk j AQ,Hd j mE,iB j AQ mE],by omega⟩
         have hj:j=es.nx+1:=by simpa [DV.refs] using hj
         subst hj
         refine ⟨by omega,λp hp=>.inr (.inr ?_)⟩
         rw [Ae (by simp)]
         simp only [Ak,Ax,or_false] at hp
         rcases hp with rfl | rfl
         .show (((Du.get (es.nx+1)).isSome)==((Ga.get (es.nx+1)).isSome))=true
          rw [vH,qk];rfl
         .show (((Fs.hp.get (es.nx+1)).isSome)==((Du.get (es.nx+1)).isSome))=true
          rw [hgH,vH];rfl
        .simp only [Am,↓An,y0,y3,y4,y7,TK,DT,DQ,h,show decide (Cd c.pos p=0)=false by simp [cmpL_0,c1],Hn (show i<_ by omega)]
         exact ⟨by rw [<- e1 (by rw [Qw,Ae c1];rfl)];exact oH,by rw [<- e2 (by rw [jL,Ae c1])];exact oS,iB,Ik⟩
      .have WC:=WC
       have vE:i=hs.length:=by omega
       subst vE
       rw [JC] at oH oS
       have VT:∀ j,P j->j<es.nx:=λj hj=>(Po j hj).1
       have hMl:=hJM _ _ _ _ hJ
       have Rb:∀ j,M j->j≠es.nx+1/\j≠By.nx:=λj hj=>⟨λe=>(V6 j hj).elim (λh=>by have:=VV j h;omega) λh=>by omega,λe=>by have:=hMl j hj;omega⟩
       have kB:∀ j,j<es1.nx->j≠es.nx+1->Fs.hp.get j=es1.hp.get j:=λj hj mE=>by rw [iB j mE (by omega),Ha j (by omega),g1]
       have WA:J W M Fs.hp Fs.nx:=ta _ _ _ _ _ _ hJ (by omega) λj hj=>hj.elim (λhj=>kB j (hMl j hj) (Rb j hj).1) λhj=>kB j (by have:=(Po j hj).1;omega) (by have:=(Po j hj).1;omega)
       obtain ⟨sx,oL,OX⟩:=hJL _ _ _ _ WA
       obtain ⟨n',AJ,mu,hwk⟩:=Be5 htn Ro
       rw [hwk] at hW
       simp only [Am,↓An,y0,y4,y7,DT,DQ,h]
       refine xG (L:=L) (by simp only [bR]) OX ?_
       simp only [Ao,Aq,bR]
       refine jR W M _ _ A (.ms By.nx 0 hs.length 1) p (hs.map (aX p)) _ WA ⟨_,by rw [Ce];exact hW⟩ WC oS (λj hj=>?_) (λj hj=>⟨by have:=VT j hj;omega,(Po j hj).2⟩) (λAp Ba M' uW Xh V5 hJ'=>?_) λAp Ba M' uW Xh V5 OR=>?_
       .have:j=By.nx:=by simpa [DV.refs] using hj
        exact ⟨by omega,λh=>(Rb j h).2 this⟩
       .simp only [Am,↓An,y0,y3]
        refine ⟨n',by omega,hs.map (Rz p),W ++ [(p,hs.map (aX p))],M',mu,by omega,by rw [Dd];exact hlen,?_,by omega,?_,?_,hJ',?_,by rw [Ce];exact hW⟩
        .intro h hh c hc
         obtain ⟨h',C5,rfl⟩:=Ei.1 hh
         exact fD h' C5 c (YY hc)
        .intro j hj hm
         have pb:¬ M j:=λh=>(V6 j h).elim hm λh=>by omega
         rw [Xh j (by omega) pb,kB j (by omega) (by omega),Fv j hj hm]
        .intro j hj
         rcases V5 j hj with h | h
         .exact V6 j h
         .exact .inr (by omega)
        .exact oH.keep λj hj=>by
          rcases hj with hj | hj
          .exact Xh j (by have:=VT j hj;omega) (Po j hj).2
          .have:j=es.nx+1:=by simpa [DV.refs] using hj
           exact Xh j (by omega) λh=>(Rb j h).1 this
       .simp only [Am,↓An]
        refine hKS _ _ _ M' (by omega) (λj hj hm=>?_) (λj hj=>?_) OR
        .have pb:¬ M j:=λh=>(V6 j h).elim hm λh=>by omega
         rw [Xh j (by omega) pb,kB j (by omega) (by omega),Fv j hj hm]
        .rcases V5 j hj with h | h
         .exact (V6 j h).imp id λh=>by omega
         .exact .inr (by omega)
     .simp only [Am,x0,x3,x4]
      refine ⟨?_,?_,λ_ _ _=>trivial⟩
      .rw [yR,List.map_id];exact MN
      .rw [yR,List.map_const'];exact B2 P
  .refine ⟨Bv,none,?_⟩
   simp only [Am,b0,b3]
   exact ⟨rfl,rfl⟩
 .refine ⟨Rp,[],M0,?_⟩
  simp only [Am,a0]
  exact ⟨mr,hc,λj hj _=>Cr j hj,λj hj=>.inl hj,BC,pS,rfl⟩
end
end Go.DD

/- Contracts: the changes Bd7 two cell lists. Conditions: those that each theorem states. -/
namespace Go.DD
open Go Go.Proofs
theorem Bl3{n:Nat} : ∀ {hs:List (List PCell)},∀ w∈Kd n hs,w.2.length=hs.length/\(∃ h∈hs,∃ c∈h,c.pos=w.1)/\∀ v∈w.2,v=[]\/∃ h∈hs,∃ c∈h,v=c.vals:=by
 induction n with
 | zero=>intro hs w h;cases h
 | succ n ih=>
  intro hs w h
  cases e:Iz none hs with
  | none=>rw [YX e] at h;cases h
  | some p=>
   have h':w∈(p,hs.map (aX p))::Kd n (hs.map (Rz p)):=by
    have:Kd (n+1) hs=(p,hs.map (aX p))::Kd n (hs.map (Rz p)):=by
     show (match Iz none hs with
      | none=>[]
      | some p=>(p,hs.map (aX p))::Kd n (hs.map (Rz p)))=_
     rw [e]
    rwa [this] at h
   rcases Ak.1 h' with rfl | h'
   .obtain ⟨c,t,h1,h2⟩:=(A69 e).elim (λh=>by cases h) id
    refine ⟨by simp,⟨_,h1,c,by simp,h2⟩,λv hv=>?_⟩
    obtain ⟨h,hh,rfl⟩:=Ei.1 hv
    cases h with
    | nil=>exact .inl rfl
    | cons c t=>
     rw [jL]
     split
     .exact .inr ⟨_,hh,c,by simp,rfl⟩
     .exact .inl rfl
   .obtain ⟨h1,⟨h,hh,c,hc,h2⟩,h3⟩:=ih w h'
    obtain ⟨h0,qf,rfl⟩:=Ei.1 hh
    refine ⟨by rw [h1,Dd],⟨h0,qf,c,YY hc,h2⟩,λv hv=>?_⟩
    rcases h3 v hv with h | ⟨h,hh,c,hc,rfl⟩
    .exact .inl h
    .obtain ⟨h0,qf,rfl⟩:=Ei.1 hh
     exact .inr ⟨h0,qf,c,YY hc,rfl⟩
theorem CD{n:Nat} : ∀ {hs:List (List PCell)},(Kd n hs).length<=n:=by
 induction n with
 | zero=>intro hs;exact Af _
 | succ n ih=>
  intro hs
  show (match Iz none hs with
   | none=>[]
   | some p=>(p,hs.map (aX p))::Kd n (hs.map (Rz p))).length<=_
  split
  .simp
  .simp only [Fi];have:=ih (hs:=hs.map (Rz ‹_›));omega
def Ta(w:List Int×List (List PVal)):List PCell:=match w.2 with
 | [u,v]=>if u=v then [] else [⟨w.1,v⟩]
 | _=>[]
def Tb(W:List (List Int×List (List PVal))):List PCell:=W.flatMap Ta
theorem Bw5(W:List (List Int×List (List PVal))):(Tb W).length<=W.length:=by
 induction W with
 | nil=>exact Af _
 | cons w W ih=>
  have h:(Ta w).length<=1:=by
   unfold Ta
   split
   .split <;> simp
   .simp
  unfold Tb at ih ⊢
  rw [Kg,Bp,Fi]
  omega
theorem X9(z:List Value)(ps:List (Nat×Nat×Operand))(nid:Nat)(es:ES):Dz (Bc (.bld z ps)) nid es=(Hi (z.map .v) (ps.map λp=>(p.1,p.2.1,es.ds.ev p.2.2))).map DV.agg:=by
 refine fS (X:=λes=>(Hi (z.map .v) (ps.map λp=>(p.1,p.2.1,es.ds.ev p.2.2))).map DV.agg) (λes nid=>?_) nid
 rw [Hf]
 simp only [Bb]
 cases Hi (z.map .v) (ps.map λp=>(p.1,p.2.1,es.ds.ev p.2.2)) <;> rfl
theorem Ci{a b:DV}{f:Nat->Bool}(h1:Ib a f)(h2:Ib b f):Ib (.agg [a,b]) f:=λid hid=>by
 have:id∈a.refs\/id∈b.refs:=by simpa [DV.refs,DV.refsL] using hid
 rcases this with h | h
 .exact h1 id h
 .exact h2 id h
def BJ(sl:Tr DV)(L bo:Nat)(W:List (List Int×List (List PVal)))(M:Nat->Prop)(hp:Tr DObj)(nx:Nat):Prop:=
 ∃ z T,hp.get L=some (.loop ⟨33,.t sl,[12,13],CX,CV,.ready,none⟩)/\hp.get bo=some (.row T [z])/\OL rChange hp (λj=>M j/\j≠L/\j≠bo/\j∉z.refs) z (Tb W)/\(∀ j∈z.refs,M j/\j≠L/\j≠bo)/\M L/\M bo/\L≠bo/\(∀ j,M j->j<nx)/\Ac ⟨sl,.e,0⟩ (.t (.l (.r .o)))=.pt bo 0
theorem BJ.keep{sl:Tr DV}{L bo:Nat}{W:List (List Int×List (List PVal))}{M:Nat->Prop}{hp Ap:Tr DObj}{nx Ba:Nat}(h:BJ sl L bo W M hp nx)(hn:nx<=Ba)(hk:∀ j,M j->Ap.get j=hp.get j):BJ sl L bo W M Ap Ba:=by
 obtain ⟨z,T,h1,h2,h3,h4,h5,h6,h7,h8,h9⟩:=h
 exact ⟨z,T,(hk L h5).trans h1,(hk bo h6).trans h2,h3.keep λj hj=>hk j (hj.elim (λh=>h.1) λh=>(h4 j h).1),h4,h5,h6,h7,λj hj=>Br (h8 j hj) hn,h9⟩
theorem RL.iaN0{hp:Tr DObj}{p:Nat->Prop}{d:DV}{l:List (List PVal)}(h:RL mU hp p d l)(hi:0<l.length):Ms hp 1 d (.v (.int .i64 0))=some (Cf 1 d 0):=h.ia hi
theorem RL.iaN1{hp:Tr DObj}{p:Nat->Prop}{d:DV}{l:List (List PVal)}(h:RL mU hp p d l)(hi:1<l.length):Ms hp 1 d (.v (.int .i64 1))=some (Cf 1 d 1):=h.ia hi
theorem RL.roaN{hp:Tr DObj}{n0:Nat}{d:DV}{l:List (List PVal)}{n m i:Nat}{an:List Nat}(h:RL mU hp (Bl n0) d l)(hn:n0<=n):Ib (Cf 1 d i) (λid=>Cp n m an hp id)↔True:=Bj (h.roax hn)
theorem Bw6(k:Nat)(hp:Tr DObj)(nx:Nat)(K:DV->Tr DObj->Nat->Prop)(sl:Tr DV)(L bo:Nat)(W:List (List Int×List (List PVal)))(M:Nat->Prop)(a s:DV)(p:List Int)(u v:List PVal)(hJ:BJ sl L bo W M hp nx)(ha:RL rInt hp (λj=>j<nx/\¬ M j) a p)(hs:RL mU hp (λj=>j<nx/\¬ M j) s [u,v])(eR:p≠[])(Dv:p.length<900000)(hu:u.length<900000)(hv:v.length<900000)(hW:W.length<900000)
  (hK:∀ Ap Ba M',nx<=Ba->(∀ j,j<nx->¬ M j->Ap.get j=hp.get j)->(∀ j,M' j->M j\/nx<=j)->BJ sl L bo (W ++ [(p,[u,v])]) M' Ap Ba->K (bv true) Ap Ba) :
  KW (kN (k+2)) (.yl L) [a,s] hp nx K:=by
 obtain ⟨z,T,j1,j2,j3,j4,j5,j6,j7,j8,s5⟩:=hJ
 refine pE j1 rfl rfl rfl rfl rfl ?_
 rw [show En 1000000 33 true CX=zm from Cw2]
 unfold zm
 have KV:∀ hp nx,Ac ⟨Lo [12,13] [a,s] sl,hp,nx⟩ (.t (.r (.l (.r .o))))=a:=λhp nx=>by
  show Ac (((ES.mk sl hp nx).putE (some (.r (.l (.r .o)))) a).putE (some (.l (.r (.r .o)))) s) (.t (.r (.l (.r .o))))=a
  simp only [bR]
 have KU:∀ hp nx,Ac ⟨Lo [12,13] [a,s] sl,hp,nx⟩ (.t (.l (.r (.r .o))))=s:=λhp nx=>by
  show Ac (((ES.mk sl hp nx).putE (some (.r (.l (.r .o)))) a).putE (some (.l (.r (.r .o)))) s) (.t (.l (.r (.r .o))))=s
  simp only [bR]
 have uP:∀ hp nx,Ac ⟨Lo [12,13] [a,s] sl,hp,nx⟩ (.t (.l (.r .o)))=.pt bo 0:=λhp nx=>by
  show Ac (((ES.mk sl hp nx).putE (some (.r (.l (.r .o)))) a).putE (some (.l (.r (.r .o)))) s) (.t (.l (.r .o)))=.pt bo 0
  simp only [bR]
  exact s5
 generalize Lo [12,13] [a,s] sl=zz at KV KU uP
 simp only [Am,↓An,KV,KU]
 refine ⟨_,j1,rfl,?_⟩
 rw [show En 1000000 33 true CV=zl from Cw3]
 unfold zl
 obtain ⟨lp,Ze⟩:∃ lp:DLoop,lp=⟨33,.t sl,[12,13],CX,CV,.busy,none⟩:=⟨_,rfl⟩
 have Qt:∀ j,j≠L->(hp.set L (some (.loop lp))).get j=hp.get j:=λj hj=>by rw [Tr.get_set,Ae (Hj hj)]
 have mJ:(hp.set L (some (.loop lp))).get L=some (.loop lp):=by rw [Tr.get_set,Ah rfl]
 have fin:∀ (Db:Tr DObj) (Hh:Nat) (M':Nat->Prop) (z':DV),nx<=Hh->Db.get L=some (.loop lp)->Db.get bo=some (.row T [z'])->OL rChange Db (λj=>M' j/\j≠L/\j≠bo/\j∉z'.refs) z' (Tb (W ++ [(p,[u,v])]))->(∀ j∈z'.refs,M' j/\j≠L/\j≠bo)->M' L->M' bo->(∀ j,M' j->j<Hh)->(∀ j,j<nx->¬ M j->Db.get j=hp.get j)->(∀ j,M' j->M j\/nx<=j)->
   K (.v (.bool true)) (Db.set L (some (.loop { lp with st:=.ready,pend:=none }))) Hh:=by
  intro Db Hh M' z' q1 q2 q3 q4 q5 q6 q7 q8 q9 q10
  have g1:∀ j,j≠L->(Db.set L (some (.loop { lp with st:=.ready,pend:=none }))).get j=Db.get j:=λj hj=>by rw [Tr.get_set,Ae (Hj hj)]
  exact hK _ _ M' q1 (λj hj hm=>by rw [g1 j (λe=>hm (e ▸ j5))];exact q9 j hj hm) q10 ⟨z',T,by rw [Tr.get_set,Ah rfl,Ze],by rw [g1 bo (Hj j7)];exact q3,q4.keep λj hj=>g1 j (hj.elim (λh=>h.2.1) λh=>(q5 j h).2.1),q5,q6,q7,j7,q8,s5⟩
 rw [<- Ze]
 generalize hp.set L (some (.loop lp))=hq at Qt mJ ⊢
 clear Ze
 have kR:∀ j,(j<nx/\¬ M j)->hq.get j=hp.get j:=λj hj=>Qt j λe=>hj.2 (e ▸ j5)
 have iG:=ha.keep (Ap:=hq) kR
 have Co:=hs.keep (Ap:=hq) kR
 have Sq:=Co.mono (q:=Bl nx) λj hj=>hj.1
 obtain ⟨dU,rU,nU,lU⟩:=Co.atN (show 0 < [u,v].length by simp)
 obtain ⟨dV,rV,nV,lV⟩:=Co.atN (show 1 < [u,v].length by simp)
 have M2:RL rVal hq (Bl nx) dU u:=rU.mono λj hj=>hj.1
 have xY:RL rVal hq (Bl nx) dV v:=rV.mono λj hj=>hj.1
 have T7:hq.get bo=some (.row T [z]):=(Qt bo (Hj j7)).trans j2
 simp only [Am,↓An,Co.iaN0 (by simp),Co.iaN1 (by simp),lU,lV,Sq.rox (Af _),Sq.roaN (Af _),M2.rox (Af _),xY.rox (Af _)]
 refine Ge rfl (Tf ?_)
 simp only [bR,Ao,Aq]
 refine RQ (k+1-1) nx _ _ _ dU dV u v (by omega) M2 xY hu λIh Jr=>?_
 have Jk:(W ++ [(p,[u,v])]).flatMap Ta=Tb W++Ta (p,[u,v]):=by rw [List.flatMap_append];simp [Tb]
 by_cases c1:u=v
 .have pK:Tb (W ++ [(p,[u,v])])=Tb W:=by
   show (W ++ [(p,[u,v])]).flatMap Ta=_
   rw [Jk];unfold Ta;simp only;rw [Ah c1,Bu]
  simp only [Am,↓An,Ai c1,Jr]
  refine ⟨lp,mJ,fin hq Ih M z (by omega) mJ T7 ?_ j4 j5 j6 (λj hj=>by have:=j8 j hj;omega) (λj _ hm=>Qt j λe=>hm (e ▸ j5)) λj hj=>.inl hj⟩
  rw [pK]
  exact j3.keep λj hj=>Qt j (hj.elim (λh=>h.2.1) λh=>(j4 j h).2.1)
 .have pK:Tb (W ++ [(p,[u,v])])=Tb W ++ [⟨p,v⟩]:=by
   show (W ++ [(p,[u,v])]).flatMap Ta=_
   rw [Jk];unfold Ta;simp only;rw [Ae c1]
  have OP:=iG.mono (q:=Bl nx) λj hj=>hj.1
  have VX:=j8 L j5
  have kF:=j8 bo j6
  simp only [Am,↓An,Ad c1,Jr,uP,Of T7,Il (n0:=Ih) (m:=11) T7 (show bo<Ih by have:=j8 bo j6;omega),OP.rox (show nx<=Ih by omega)]
  refine Ge rfl (Tf ?_)
  simp only [bR,Ao,Aq]
  refine YI k nx _ _ _ a p (by omega) OP (.inl eR) (by omega) λIj nC a' Ls gK LY _=>?_
  have Xd:=Ls.le
  have bX:=Sq.ka (nx:=Ih+11) (by omega) Ls
  have GD:=xY.ka (nx:=Ih+11) (by omega) Ls
  have ft:=gK.rlF LY
  have vL:Ij.get bo=some (.row T [z]):=(Ls.same bo (by omega)).trans T7
  obtain ⟨dV7,GD,nV7,lV7⟩:=bX.atN (show 1 < [u,v].length by simp)
  have GD:RL rVal Ij (Bl nx) dV7 v:=GD
  simp only [Am,↓An,Xd,bX.iaN1 (by simp),lV7,bX.rox (show nx<=Ih by omega),bX.roaN (show nx<=Ih by omega),GD.rox (show nx<=Ih by omega)]
  refine Ge rfl (Tf ?_)
  simp only [bR,Ao,Aq]
  refine Bb7 k nx _ _ _ dV7 v (by omega) GD nV7 (by omega) λLq Vj v' Lr VA nv _=>?_
  have Vp:=Lr.le
  have oK:=VA.rlF nv
  have oM:=ft.keep (Ap:=Lq) λj hj=>Lr.same j hj.2
  have FW:∀ an,Ib a' (λid=>Cp Ih 11 an Lq id):=λan=>oM.ro' (n:=Ih) (m:=11) λj hj=>.inr hj.1
  have FV:∀ an,Ib v' (λid=>Cp Ih 11 an Lq id):=λan=>oK.ro' (n:=Ih) (m:=11) λj hj=>.inr (by have:=hj.1;omega)
  have aA:∀ an,Ib (.agg [a',v']) (λid=>Cp Ih 11 an Lq id):=λan=>Ci (FW an) (FV an)
  have sT:=CT (z:=.slice none 0 0) (w:=.slice none 0 0) oM.ok oK.ok
  simp only [Am,↓An,bP,Vp,X9,oM.live,oK.live,sT,Cb,Bj (FW _),Bj (FV _),Bj (aA _)]
  refine SG (fl:=[a',v']) rfl (by simp only [Ao,Aq,Dh,bR,bP,Kl oM oK];rfl) λJg Pn Mm=>?_
  simp only [bR] at Pn Mm
  have pw:∀ j,j<Ih->Jg.get j=Lq.get j:=λj hj=>Mm j (by omega)
  have ND:∀ j,j<Ih->Jg.get j=hq.get j:=λj hj=>by rw [pw j hj,Lr.same j (by omega),Ls.same j (by omega)]
  have GG:=oM.keep (Ap:=Jg) λj hj=>Mm j (by have:=hj.1;omega)
  have rB9:=oK.keep (Ap:=Jg) λj hj=>Mm j (by have:=hj.1;omega)
  have j3q:OL rChange hq _ z (Tb W):=j3.keep λj hj=>Qt j (hj.elim (λh=>h.2.1) λh=>(j4 j h).2.1)
  have hzM:∀ j,(M j/\j≠L/\j≠bo/\j∉z.refs)\/j∈z.refs->j<nx:=λj hj=>hj.elim (λh=>j8 j h.1) λh=>j8 j (j4 j h).1
  have ku:OL rChange Jg _ z (Tb W):=j3q.keep λj hj=>ND j (by have:=hzM j hj;omega)
  have TT:∀ an,Ib z (λid=>Cp Ih 11 an Jg id):=λan=>ku.rl.ro' (n:=Ih) (m:=11) λj hj=>.inl (by have:=hzM j hj;omega)
  have aGn:=Bw5 W
  simp only [Am,↓An,Bj (TT _)]
  refine ⟨lJ Pn rfl,?_⟩
  refine Ge rfl (fL (R:=rChange) (p:=λj=>M j/\j≠L/\j≠bo/\j∉z.refs) (p2:=Bw (Ih+11) Vj) (d:=z) (d2:=.ms (Ih+8) 0 1 2) (l:=Tb W) (m:=[⟨p,v⟩]) (by simp only [bR,bP]) ku (by simp only [Dh,bR,bP];exact eK Pn) (BT (R:=rChange) (x:=⟨p,v⟩) Pn (rChange_rd.2 ⟨a',v',rfl,GG.mono λj hj=>⟨hj.1,by have:=hj.2;omega⟩,rB9.mono λj hj=>⟨by have:=hj.1;omega,hj.2⟩⟩)) rfl rfl (by rw [Cc];omega) (by decide) λJx Kf tA=>?_)
  simp only [bR] at Kf tA
  have A1:∀ j∈z.refs,j<nx:=λj hj=>j8 j (j4 j hj).1
  have N1:=tA (λj=>(M j\/(nx<=j/\j<Vj))/\j≠L/\j≠bo/\j∉z.refs) (λj hj=>by
   rcases hj with hj | hj
   .exact ⟨⟨.inl hj.1,hj.2⟩,by have:=j8 j hj.1;omega,hj.2.2.2⟩
   .have h1:=hj.1
    have h2:=hj.2
    exact ⟨⟨.inr ⟨by omega,h2⟩,by omega,by omega,λh=>by have:=A1 j h;omega⟩,by omega,λh=>by have:=A1 j h;omega⟩)
  have rr:Jg.get bo=some (.row T [z]):=(ND bo (by omega)).trans T7
  have D4:Jx.get bo=some (.row T [z]):=(Kf bo (by omega) λh=>(j4 bo h).2.2 rfl).trans rr
  obtain ⟨_,_,um,nH,_⟩:=N1.get
  have fj:∀ an,Cp Ih 11 an Jx Vj=true:=λan=>(tJ Jx Vj).2 ⟨by rw [nH];rfl,.inr (.inl (by omega))⟩
  simp only [Am,↓An,uP,Il (n0:=Ih) (m:=11) D4 (show bo<Ih by omega),fj _,Nat.le_succ]
  refine Ge rfl (Pt (id:=bo) (off:=0) (by simp only [bR,uP]) D4 (by simp only [Di,bR];exact eK nH) (bL _ _ _ _) (by simp) λOu cM Nv=>?_)
  simp only [bR] at cM Nv
  simp only [Am,↓An]
  have w7:∀ j,j<nx->¬ M j->Ij.get j=hq.get j:=λj hj _=>Ls.same j (by omega)
  have w8:∀ j,j<nx->¬ M j->Lq.get j=hq.get j:=λj hj hm=>by rw [Lr.same j (by omega),w7 j hj hm]
  have w9:∀ j,j<nx->¬ M j->Jg.get j=hq.get j:=λj hj hm=>ND j (by omega)
  have ZP:∀ j,j<nx->¬ M j->Jx.get j=hq.get j:=λj hj hm=>by rw [Kf j (by omega) (λh=>hm (j4 j h).1),w9 j hj hm]
  have w11:∀ j,j<nx->¬ M j->Ou.get j=hq.get j:=λj hj hm=>by rw [Nv j (λe=>hm (e ▸ j6)),ZP j hj hm]
  have Ht:∀ q∈[(⟨10,[9,0,1,2,3,4,5,6,7,8],Jx,Ou⟩:Past),⟨9,[0,8,6,7,2,1,5,4,3],Jg,Jx⟩,⟨6,[5,2,4,3,1],Ij,Lq⟩,⟨2,[1],hq,Ij⟩],(∀ j,(j<nx/\¬ M j)->q.a.get j=hq.get j)/\∀ j,(j<nx/\¬ M j)->q.b.get j=hq.get j:=by
   intro q Zd
   simp only [Ak,Ax,or_false] at Zd
   rcases Zd with rfl | rfl | rfl | rfl
   .exact ⟨λj hj=>ZP j hj.1 hj.2,λj hj=>w11 j hj.1 hj.2⟩
   .exact ⟨λj hj=>w9 j hj.1 hj.2,λj hj=>ZP j hj.1 hj.2⟩
   .exact ⟨λj hj=>w7 j hj.1 hj.2,λj hj=>w8 j hj.1 hj.2⟩
   .exact ⟨λj hj=>rfl,λj hj=>w7 j hj.1 hj.2⟩
  have Hq:∀ c∈[z],Nb 6 c c=true:=λc hc=>by rw [Bk.1 hc];exact ku.rl.same (by decide)
  have ru:Lq.get bo=some (.row T [z]):=(Lr.same bo (by omega)).trans vL
  refine ⟨DA Co (λj hj=>by have:=hj.1;omega) Ht (wK _ _ _) (DA Co (λj hj=>by have:=hj.1;omega) Ht (λ_ h=>h) (DA Co (λj hj=>by have:=hj.1;omega) Ht (λ_ h=>h) (nT (λj hj=>?_) (BU _ _ _)))),lp,?_,?_⟩
  .have hj:j=bo:=by simpa [DV.refs] using hj
   subst hj
   refine ⟨by omega,λq Zd=>?_⟩
   simp only [Ak,Ax,or_false] at Zd
   rcases Zd with rfl | rfl | rfl | rfl
   .exact .inl rfl
   .exact .inl rfl
   .exact .inr (.inr (by rw [Ah rfl];exact Z2 vL (ru.trans vL.symm) Hq))
   .exact .inr (.inr (by rw [Ah rfl];exact Z2 T7 (vL.trans T7.symm) Hq))
  .rw [Nv L j7,Kf L (by omega) (λh=>(j4 L h).2.1 rfl),ND L (by omega)]
   exact mJ
  .refine fin Ou (Vj+1) (λj=>M j\/(nx<=j/\j<Vj+1)) (.ms Vj 0 (Tb W ++ [(⟨p,v⟩:PCell)]).length 2) (by omega) ?_ ?_ ?_ ?_ (.inl j5) (.inl j6) ?_ ?_ ?_
   .rw [Nv L j7,Kf L (by omega) (λh=>(j4 L h).2.1 rfl),ND L (by omega)]
    exact mJ
   .exact cM
   .rw [pK]
    have jq:=N1.keep (Ap:=Ou) λj hj=>Nv j (by
     rcases hj with hj | hj
     .exact hj.2.2.1
     .have:j=Vj:=by simpa [DV.refs] using hj
      omega)
    refine OL.mono jq λj hj=>?_
    refine ⟨hj.1.imp id (λh=>And.intro h.1 (Nat.lt_succ_of_lt h.2)),hj.2.1,hj.2.2.1,λh=>?_⟩
    have h:j=Vj:=by simpa [DV.refs] using h
    rcases hj.1 with h2 | h2
    .have:=j8 j h2;omega
    .have:=h2.2;omega
   .intro j hj
    have:j=Vj:=by simpa [DV.refs] using hj
    exact ⟨.inr ⟨by omega,by omega⟩,by omega,by omega⟩
   .intro j hj
    rcases hj with h | h
    .have:=j8 j h;omega
    .exact h.2
   .intro j hj hm
    rw [w11 j hj hm]
    exact Qt j λe=>hm (e ▸ j5)
   .exact λj hj=>hj.imp id λh=>h.1
end Go.DD

/- Contracts: the program's Delta. Conditions: those that each theorem states. -/
namespace Go.DD
open Go Go.Proofs
theorem Rows.two{R:Rep (List PCell)}{hp:Tr DObj}{p:Nat->Prop}{a b:DV}{x y:List PCell}(h1:R.rd hp p [a] x)(h2:R.rd hp p [b] y):Rows R hp p [a,b] [x,y]:=⟨[a],[b],rfl,h1,[b],[],rfl,h2,rfl⟩
theorem Cx8{z:Value}{a b:DV}(h1:a.okC=true/\a.cells=[a])(h2:b.okC=true/\b.cells=[b]):Hi (List.replicate 2 ([z].map DV.v)).flatten [(0,1,a),(1,1,b)]=some [a,b]:=by
 simp [Hi,h1.1,h1.2,h2.1,h2.2]
theorem nY{x:PArr}(h:Ff x=0):∀ c∈x.cells,c.vals≠[]:=λc hc he=>by
 have h1:=(Rg h).2.1 c hc
 have h2:=(Rg h).2.2
 have h3:c.vals.length=x.attrs.length:=by
  unfold Gy at h1
  split at h1
  .cases h1
  .rename_i h3;omega
 have h4:x.attrs.length=0:=by rw [<- h3,he];rfl
 unfold lH at h2
 split at h2
 .rename_i h5;exact h5 h2
 .rw [Ah (Or.inl (show x.attrs.length<1 by omega))] at h2;cases h2
section
variable (k n0:Nat) (hp:Tr DObj) (nx:Nat) (K:DV->Tr DObj->Nat->Prop)
theorem Bw7(d:DV)(hd:d.okC=true/\d.cells=[d])(hl:Ch hp d=d)(hK:∀ Ap,Ap.get nx=some (.row 201 [d])->(∀ j,j≠nx->Ap.get j=hp.get j)->K (.fn (.func 138) [.tup [],.pt nx 0]) Ap (nx+1)):KW (kN (k+1)) (.fn 68) [d] hp nx K:=by
 refine Ds (Gb (by decide)) t68 (Ab rfl) λes e1 e2 he=>?_
 have a0:Ac es (.t .o)=d:=he 0 _ rfl
 unfold r68
 subst e1 e2
 simp only [↓An]
 refine DB (v:=d) (by simp only [Di,a0,hl]) hd λDv Dc Cr=>?_
 simp only [bR] at Dc Cr
 simp only [Am,↓An,bP]
 have e1:Ch Dv (.pt es.nx 0)=.pt es.nx 0:=Wh λid hid=>by
  have:id=es.nx:=by simpa [DV.refs] using hid
  rw [this,Dc];rfl
 rw [e1]
 have e2:Ch Dv (.fn (.func 138) [.tup [],.pt es.nx 0])=.fn (.func 138) [.tup [],.pt es.nx 0]:=Wh λid hid=>by
  have:id=es.nx:=by simpa [DV.refs,DV.refsL] using hid
  rw [this,Dc];rfl
 rw [e2]
 exact hK _ Dc Cr
theorem Cx9{es1:ES}{Q:Exit->ES->Prop}(bo:Nat)(l m:List PCell)(hn:n0<=bo)(hb:es1.nx=bo+3)(Jk:RL rCells es1.hp (λj=>j<n0\/j=bo+1) (.ms (bo+1) 0 2 1) [l,m])(hl:l.length+m.length<=128)
  (hc:∀ c,c∈l\/c∈m->c.pos≠[]/\c.pos.length<900000/\c.vals≠[]/\c.vals.length<900000)
  (qi:es1.hp.get bo=some (.row 109 [Bv])) (Lx:es1.hp.get (bo+1+1)=some (.row 201 [.ms (bo+1) 0 2 1])) (b5:Ac es1 (.t (.l (.r .o)))=.pt bo 0) (b11:Ac es1 (.t (.l (.l (.r .o))))=.fn (.func 138) [.tup [],.pt (bo+1+1) 0])
  (hQ:∀ Ap Ba z T,es1.nx<=Ba->(∀ j,j<bo->Ap.get j=es1.hp.get j)->Ap.get bo=some (.row T [z])->RL rChange Ap (Bw bo Ba) z (Tb (Gc [l,m]))->Q .normal ⟨es1.sl,Ap,Ba⟩) :
  EW (cR 33 false (.t (.l (.l (.r .o)))) [12,13] CX CV) (kN (k+5)) es1 Q:=by
 have LG:Pl [l,m]=l.length+m.length:=by simp [Pl]
 have P4:=λw (hw:w∈Gc [l,m])=>Bl3 (n:=Pl [l,m]) (hs:=[l,m]) w hw
 have uQ:(Gc [l,m]).length<=128:=Es CD (by omega)
 have Nx:∀ h∈[l,m],∀ c∈h,c∈l\/c∈m:=λh hh c Uq=>by
  simp only [Ak,Ax,or_false] at hh
  rcases hh with rfl | rfl
  .exact .inl Uq
  .exact .inr Uq
 have Is:∀ (x:Option DObj) j,j≠bo+3->(es1.hp.set (bo+3) x).get j=es1.hp.get j:=λx j hj=>by rw [Tr.get_set,Ae (Hj hj)]
 refine zp (f:=138) (cs:=[.pt (bo+1+1) 0]) ?_ ?_
 .rw [Di,b11]
  exact Wh λid hid=>by
   have:id=bo+1+1:=by simpa [DV.refs,DV.refsL] using hid
   rw [this,Lx];rfl
 .rw [hb]
  refine Bl2 k (bo+3) (bo+1+1) 201 (.ms (bo+1) 0 2 1) [l,m] (λj=>j<n0\/j=bo+1) (BJ es1.sl (bo+3) bo) (λ_ _ _ _=>False) (λj=>j=bo+3\/j=bo) _ _ _ ((Is _ _ (by omega)).trans Lx) (Jk.keep λj hj=>Is _ j (by rcases hj with h | h <;> omega)) (λj hj=>by rcases hj with h | h <;> exact ⟨by omega,by omega⟩) (by simp) (by simp) (λh hh c Jd=>by obtain ⟨h1,h2,h3,h4⟩:=hc c (Nx h hh c Jd);exact ⟨h1,h2,h3⟩) (by omega) ?_ ?_ ?_ ?_ ?_ ?_ ?_
  .exact ⟨Bv,109,by rw [Tr.get_set,Ah rfl],by rw [Is _ _ (by omega)];exact qi,.nil,λj hj=>by (cases hj),.inl rfl,.inr rfl,by omega,λj hj=>by rcases hj with h | h <;> omega,b5⟩
  .exact λW M hp nx ⟨z,T,h1,h2,h3,h4,h5,h6,h7,h8,h9⟩=>h8
  .exact λW M hp nx ⟨z,T,h1,h2,h3,h4,h5,h6,h7,h8,h9⟩=>⟨h5,_,h1⟩
  .exact λW M hp nx Ap Ba h hn hk=>h.keep hn λj hj=>hk j (.inl hj)
  .intro W M hp nx a s p nA K hJ Ot ha hs lP Po BB _
   have Ss:(p,nA)∈Gc [l,m]:=Ot.subset (by simp)
   obtain ⟨g1,⟨h,hh,c,Jd,g2⟩,g3⟩:=P4 _ Ss
   obtain ⟨u,v,rfl⟩:∃ u v,nA=[u,v]:=by
    match nA,g1 with
    | [u,v],_=>exact ⟨u,v,rfl⟩
   have g2:c.pos=p:=g2
   have cA:=hc c (Nx h hh c Jd)
   have Rn:∀ x∈[u,v],x.length<900000:=λx hx=>by
    rcases g3 x hx with rfl | ⟨h,hh,c,Jd,rfl⟩
    .simp
    .exact (hc c (Nx h hh c Jd)).2.2.2
   refine Bw6 (k+2) hp nx K _ _ _ W M a s p u v hJ (ha.mono Po) (hs.rl.mono λj hj=>hj.elim (Po j) (lP j)) (by rw [<- g2];exact cA.1) (by rw [<- g2];exact cA.2.1) (Rn u (by simp)) (Rn v (by simp)) ?_ BB
   have:=Ot.length_le
   rw [Bp] at this
   omega
  .intro Ap Ba M' uW Xh vQ ⟨z,T,g1,g2,g3,g4,g5,g6,g7,g8,g9⟩
   have Lm:∀ j,j≠bo+3->(Ap.set (bo+3) none).get j=Ap.get j:=λj hj=>by rw [Tr.get_set,Ae (Hj hj)]
   refine ⟨_,g1,by simp,.inl ⟨rfl,?_⟩⟩
   have gb:(Ap.set (bo+3) none).get bo=some (.row T [z]):=(Lm _ (by omega)).trans g2
   have o':=g3.keep (Ap:=Ap.set (bo+3) none) λj hj=>Lm j (hj.elim (λh=>h.2.1) λh=>(g4 j h).2.1)
   have Hv:∀ j,M' j->bo<=j:=λj hj=>by rcases vQ j hj with (h | h) | h <;> omega
   have r':RL rChange (Ap.set (bo+3) none) (Bw bo Ba) z (Tb (Gc [l,m])):=o'.rl.mono λj hj=>⟨Hv j (hj.elim (λh=>h.1) λh=>(g4 j h).1),g8 j (hj.elim (λh=>h.1) λh=>(g4 j h).1)⟩
   refine hQ _ _ z T (by omega) (λj hj=>?_) gb r'
   rw [Lm j (by omega),Xh j (by omega) (by omega),Is _ j (by omega)]
  .exact λ_ _ _ _ _ _ _ h=>h.elim
theorem A30(d1 d2:DV)(l m:List PCell)(hn:n0<=nx)(h1:RL rCell hp (Bl n0) d1 l)(h2:RL rCell hp (Bl n0) d2 m)(hl:l.length+m.length<=128)
  (hc:∀ c,c∈l\/c∈m->c.pos≠[]/\c.pos.length<900000/\c.vals≠[]/\c.vals.length<900000)
  (hK:∀ Ap Ba d',Al hp nx Ap Ba->RL rChange Ap (Bw nx Ba) d' (Tb (Gc [l,m]))->K d' Ap Ba):KW (kN (k+6)) (.fn 81) [d1,d2] hp nx K:=by
 refine Ds (Gb (by decide)) t81 (Ab rfl) λes e1 e2 he=>?_
 have a0:Ac es (.t .o)=d1:=he 0 _ rfl
 have a1:Ac es (.t (.l .o))=d2:=he 1 _ rfl
 unfold r81
 subst e1 e2
 simp only [Am,↓An]
 refine Oe λDv Dc Cr=>?_
 simp only [bR] at Dc Cr
 have q1:=h1.keep λj (hj:j<n0)=>Cr j (by omega)
 have q2:=h2.keep λj (hj:j<n0)=>Cr j (by omega)
 simp only [Am,↓An,a0,a1]
 refine jF (fl:=[d1,d2]) rfl (by simp only [Ao,Aq,Dh,bR,bP,q1.live,q2.live];exact Cx8 q1.ok q2.ok) λDb Gv Fj=>?_
 simp only [bR] at Gv Fj
 have q1':=q1.keep λj (hj:j<n0)=>Fj j (by omega)
 have q2':=q2.keep λj (hj:j<n0)=>Fj j (by omega)
 have Jk:RL rCells Db (λj=>j<n0\/j=es.nx+1) (.ms (es.nx+1) 0 2 1) [l,m]:=(OL.ms (R:=rCells) (p:=Bl n0) (es.nx+1) _ [l,m] Gv (Rows.two ⟨_,rfl,q1'⟩ ⟨_,rfl,q2'⟩)).rl.mono λj hj=>hj.imp id λh=>by simpa [DV.refs] using h
 simp only [Am,↓An]
 refine Dt (Bw7 (k+4) _ _ _ _ ⟨rfl,rfl⟩ Jk.live λHe Lx Jh=>?_)
 have sb:He.get es.nx=some (.row 109 [Bv]):=by rw [Jh _ (by omega),Fj _ (by omega)];exact Dc
 have LS:=Jk.keep (Ap:=He) λj hj=>Jh j (by rcases hj with h | h <;> omega)
 simp only [Am,↓An]
 refine Cx9 k n0 es.nx l m hn rfl LS hl hc sb Lx (by simp only [bR]) (by simp only [bR]) λHo Lb z T mB Yh S3 lR=>?_
 simp only [Am,↓An,bP,Of S3,lR.live]
 refine hK _ _ z ⟨by simp only [] at mB;omega,λj hj=>?_⟩ lR
 rw [Yh j hj]
 simp only []
 rw [Jh j (by omega),Fj j (by omega),Cr j (by omega)]
end
end Go.DD

/- The program's difference and the reference's are the same, in plain Lean. -/
namespace Go.DD
open Go Go.Proofs
def Srt(l:List PCell):Prop:=l.Pairwise (λx y=>Cd x.pos y.pos = -1)
theorem Bb8{hs:List (List PCell)} : ∀ {a:Option (List Int)},Iz a hs=none->a=none/\∀ h∈hs,h=[]:=by
 induction hs with
 | nil=>intro a h;exact ⟨h,λh hh=>by cases hh⟩
 | cons h hs ih=>
  intro a e
  cases h with
  | nil=>
   have e':Iz a hs=none:=by cases a <;> exact e
   obtain ⟨h1,h2⟩:=ih e'
   exact ⟨h1,λh hh=>(Ak.1 hh).elim (λh=>h) (h2 h)⟩
  | cons c t=>
   cases a with
   | none=>exact absurd (ih e).1 (by simp)
   | some q=>
    unfold Iz at e
    split at e
    .exact absurd (ih e).1 (by simp)
    .exact absurd (ih e).1 (by simp)
theorem fQ(p:List Int):Cd p p=0:=cmpL_0.2 rfl
theorem B77{hs:List (List PCell)} : ∀ {a:Option (List Int)} {p:List Int},Iz a hs=some p->(∀ q,a=some q->q=p\/Cd p q = -1)/\∀ c t,(c::t)∈hs->c.pos=p\/Cd p c.pos = -1:=by
 induction hs with
 | nil=>intro a p h;exact ⟨λq hq=>.inl (by rw [show a=some p from h] at hq;exact (Im hq).symm),λc t h=>by cases h⟩
 | cons h hs ih=>
  intro a p e
  cases h with
  | nil=>
   have e':Iz a hs=some p:=by cases a <;> exact e
   obtain ⟨h1,h2⟩:=ih e'
   exact ⟨h1,λc t hh=>(Ak.1 hh).elim (λh=>by cases h) (h2 c t)⟩
  | cons c t=>
   cases a with
   | none=>
    obtain ⟨h1,h2⟩:=ih (show Iz (some c.pos) hs=some p from e)
    refine ⟨λq hq=>by (cases hq),λc' t' hh=>?_⟩
    rcases Ak.1 hh with h | h
    .cases h;exact h1 _ rfl
    .exact h2 c' t' h
   | some q=>
    unfold Iz at e
    split at e
    .rename_i Fb
     obtain ⟨h1,h2⟩:=ih e
     have h3:=h1 _ rfl
     refine ⟨λq' hq=>?_,λc' t' hh=>?_⟩
     .cases hq
      rcases h3 with h3 | h3
      .rw [<- h3];exact .inr Fb
      .exact .inr (nZ h3 Fb)
     .rcases Ak.1 hh with h | h
      .cases h;exact h3
      .exact h2 c' t' h
    .rename_i Fb
     obtain ⟨h1,h2⟩:=ih e
     have h3:=h1 _ rfl
     refine ⟨λq' hq=>by cases hq;exact h3,λc' t' hh=>?_⟩
     rcases Ak.1 hh with h | h
     .cases h
      rcases mZ c.pos q with h4 | h4 | h4
      .exact absurd h4 Fb
      .rw [cmpL_0.1 h4];exact h3
      .have h5:Cd q c.pos = -1:=by rw [wJ];omega
       rcases h3 with h3 | h3
       .rw [<- h3];exact .inr h5
       .exact .inr (nZ h3 h5)
     .exact h2 c' t' h
theorem Srt.tail{c:PCell}{t:List PCell}(h:Srt (c::t)):Srt t:=(Dj.1 h).2
theorem Srt.rs{p:List Int}{h:List PCell}(hs:Srt h):Srt (Rz p h):=by
 cases h with
 | nil=>exact hs
 | cons c t=>
  rw [Qw]
  split
  .exact hs.tail
  .exact hs
theorem Bo4{l:List PCell}{p:List Int}(h:∀ c∈l,c.pos≠p):Kv l p=[]:=Bo2 λj hj=>h _ (Bd hj)
theorem Bb9(c:PCell)(t:List PCell)(p:List Int):Kv (c::t) p=if c.pos=p then c.vals else Kv t p:=by
 unfold Kv
 rw [List.find?_cons]
 by_cases h:c.pos=p
 .rw [Ah h,Ai h]
 .rw [Ae h,Ad h]
theorem Yv{p q:List Int}(h:Cd p q = -1):p≠q:=λe=>by rw [e,fQ] at h;cases h
theorem Cg1{p:List Int}{h:List PCell}(hs:Srt h)(hm:∀ c t,h=c::t->c.pos=p\/Cd p c.pos = -1):∀ c∈Rz p h,Cd p c.pos = -1:=by
 cases h with
 | nil=>intro c hc;cases hc
 | cons a t=>
  intro c hc
  obtain ⟨h1,h2⟩:=Dj.1 hs
  rw [Qw] at hc
  rcases hm a t rfl with h3 | h3
  .rw [Ah h3] at hc
   rw [<- h3];exact h1 c hc
  .rw [Ae λe=>Yv h3 e.symm] at hc
   rcases Ak.1 hc with rfl | hc
   .exact h3
   .exact nZ h3 (h1 c hc)
theorem Bw8{p:List Int}{h:List PCell}(hs:Srt h)(hm:∀ c t,h=c::t->c.pos=p\/Cd p c.pos = -1):aX p h=Kv h p:=by
 have hg:=Cg1 hs hm
 cases h with
 | nil=>rfl
 | cons a t=>
  rw [jL,Bb9]
  by_cases e:a.pos=p
  .rw [Ah e,Ah e]
  .rw [Ae e,Ae e]
   rw [Qw,Ae e] at hg
   exact (Bo4 λc hc=>(Yv (hg c (Bn _ hc))).symm).symm
theorem Bw9{p q:List Int}(h:List PCell)(hq:q≠p):Kv (Rz p h) q=Kv h q:=by
 cases h with
 | nil=>rfl
 | cons a t=>
  rw [Qw]
  by_cases e:a.pos=p
  .rw [Ah e,Bb9,Ae λe2=>hq (by rw [<- e2,e])]
  .rw [Ae e]
theorem SU{n:Nat} : ∀ {hs:List (List PCell)},(∀ h∈hs,Srt h)->Pl hs<=n->(Kd n hs).Pairwise (λa b=>Cd a.1 b.1 = -1)/\(∀ p,(∃ w∈Kd n hs,w.1=p)↔∃ h∈hs,∃ c∈h,c.pos=p)/\∀ w∈Kd n hs,w.2=hs.map λh=>Kv h w.1:=by
 induction n with
 | zero=>
  intro hs hS ht
  cases e:Iz none hs with
  | none=>
   rw [YX e]
   refine ⟨.nil,λp=>⟨λ⟨w,h,_⟩=>(by cases h),λ⟨h,hh,c,hc,_⟩=>?_⟩,λw h=>by cases h⟩
   rw [(Bb8 e).2 h hh] at hc;cases hc
  | some p=>obtain ⟨m,h,_⟩:=Be5 ht e;omega
 | succ n ih=>
  intro hs hS ht
  cases e:Iz none hs with
  | none=>
   rw [YX e]
   refine ⟨.nil,λp=>⟨λ⟨w,h,_⟩=>(by cases h),λ⟨h,hh,c,hc,_⟩=>?_⟩,λw h=>by cases h⟩
   rw [(Bb8 e).2 h hh] at hc;cases hc
  | some p=>
   obtain ⟨m,hm,bW,hw⟩:=Be5 ht e
   obtain rfl:m=n:=by omega
   have Yd:=(B77 e).2
   have hmh:∀ h∈hs,∀ c t,h=c::t->c.pos=p\/Cd p c.pos = -1:=λh hh c t he=>Yd c t (he ▸ hh)
   have OR:∀ h∈hs.map (Rz p),Srt h:=λh hh=>by
    obtain ⟨h',C5,rfl⟩:=Ei.1 hh
    exact (hS h' C5).rs
   obtain ⟨i1,i2,i3⟩:=ih OR bW
   have VL:∀ w∈Kd m (hs.map (Rz p)),Cd p w.1 = -1:=λw sR=>by
    obtain ⟨h,hh,c,hc,h2⟩:=(i2 w.1).1 ⟨w,sR,rfl⟩
    obtain ⟨h',C5,rfl⟩:=Ei.1 hh
    rw [<- h2]
    exact Cg1 (hS h' C5) (hmh h' C5) c hc
   rw [hw]
   refine ⟨.cons VL i1,λq=>⟨λ⟨w,sR,hq⟩=>?_,λ⟨h,hh,c,hc,hq⟩=>?_⟩,λw sR=>?_⟩
   .rcases Ak.1 sR with rfl | sR
    .obtain ⟨c,t,h1,h2⟩:=(A69 e).elim (λh=>by cases h) id
     exact ⟨_,h1,c,by simp,h2.trans hq⟩
    .obtain ⟨h,hh,c,hc,h2⟩:=(i2 q).1 ⟨w,sR,hq⟩
     obtain ⟨h',C5,rfl⟩:=Ei.1 hh
     exact ⟨h',C5,c,YY hc,h2⟩
   .by_cases hp:q=p
    .exact ⟨_,Hz,hp.symm⟩
    .have Jd:c∈Rz p h:=by
      cases h with
      | nil=>cases hc
      | cons a t=>
       rw [Qw]
       split
       .rename_i ha
        rcases Ak.1 hc with rfl | hc
        .exact absurd (hq.symm.trans ha) hp
        .exact hc
       .exact hc
     obtain ⟨w,h1,h2⟩:=(i2 q).2 ⟨_,Ei.2 ⟨h,hh,rfl⟩,c,Jd,hq⟩
     exact ⟨w,Bn _ h1,h2⟩
   .rcases Ak.1 sR with rfl | sR
    .exact Eu λh hh=>Bw8 (hS h hh) (hmh h hh)
    .rw [i3 w sR,List.map_map]
     exact Eu λh hh=>Bw9 h λe=>Yv (VL w sR) e.symm
theorem Bx0{a b c:List Int}(h1:Cd a b≠1)(h2:Cd b c≠1):Cd a c≠1:=by
 rcases mZ a b with h | h | h
 .rcases mZ b c with g | g | g
  .rw [nZ h g];decide
  .rw [<- cmpL_0.1 g,h];decide
  .exact absurd g h2
 .rw [cmpL_0.1 h];exact h2
 .exact absurd h h1
end Go.DD
