/- A part. -/
import Derived.Test.YtnphfnhhpcelbaaGreatYk
set_option linter.unusedSectionVars false
set_option linter.unusedVariables false
namespace Go.DD
open Go Go.Proofs
def Iu:Option (List Int)->List (List PCell)->Option (List Int)
 | a,[]=>a
 | a,[]::hs=>Iu a hs
 | none,(c::_)::hs=>Iu (some c.pos) hs
 | some p,(c::_)::hs=>if Cs c.pos p = -1 then Iu (some c.pos) hs else Iu (some p) hs
def aY(p:List Int):List PCell->List PVal
 | []=>[]
 | c::_=>if c.pos=p then c.vals else []
def Sm(p:List Int):List PCell->List PCell
 | []=>[]
 | c::t=>if c.pos=p then t else c::t
theorem Ro(p:List Int)(c:PCell)(t:List PCell):Sm p (c::t)=if c.pos=p then t else c::t:=rfl
theorem gJ(p:List Int)(c:PCell)(t:List PCell):aY p (c::t)=if c.pos=p then c.vals else []:=rfl
def Jz:Nat->List (List PCell)->List (List Int×List (List PVal))
 | 0,_=>[]
 | n+1,hs=>match Iu none hs with
  | none=>[]
  | some p=>(p,hs.map (aY p))::Jz n (hs.map (Sm p))
def Wg(hs:List (List PCell)):Nat:=(hs.map List.length).sum
def Hf(hs:List (List PCell)):List (List Int×List (List PVal)):=Jz (Wg hs) hs
theorem yz{hs:List (List PCell)} : ∀ {a:Option (List Int)} {p:List Int},Iu a hs=some p->a=some p\/∃ c t,(c::t)∈hs/\c.pos=p:=by
 induction hs with
 | nil=>intro a p h;exact .inl h
 | cons h hs ih=>
  intro a p e
  have up:(∃ c t,(c::t)∈hs/\c.pos=p)->∃ c t,(c::t)∈h::hs/\c.pos=p:=λ⟨c,t,h1,h2⟩=>⟨c,t,Bh _ h1,h2⟩
  cases h with
  | nil=>cases a <;> exact (ih e).imp id up
  | cons c t=>
   have here:some c.pos=some p->∃ c2 t2,(c2::t2)∈(c::t)::hs/\c2.pos=p:=λh=>⟨c,t,by simp,by simpa using h⟩
   cases a with
   | none=>exact .inr ((ih e).elim here up)
   | some q=>
    unfold Iu at e
    split at e
    .exact .inr ((ih e).elim here up)
    .exact (ih e).imp id up
theorem Bz2(p:List Int)(h:List PCell):(Sm p h).length<=h.length:=by
 cases h with
 | nil=>simp [Sm]
 | cons c t=>rw [Ro];split <;> simp
theorem C32(p:List Int)(hs:List (List PCell)):Wg (hs.map (Sm p))<=Wg hs:=by
 induction hs with
 | nil=>simp [Wg]
 | cons h hs ih=>
  have:=Bz2 p h
  unfold Wg at ih ⊢
  simp only [Am,List.sum_cons]
  omega
theorem C33{p:List Int}{hs:List (List PCell)}{c:PCell}{t:List PCell}(h:(c::t)∈hs)(hc:c.pos=p):Wg (hs.map (Sm p))<Wg hs:=by
 induction hs with
 | nil=>cases h
 | cons a hs ih=>
  have h1:=Bz2 p a
  have h2:=C32 p hs
  unfold Wg at ih h2 ⊢
  simp only [Am,List.sum_cons]
  rcases Ap.1 h with rfl | h
  .have:(Sm p (c::t)).length=t.length:=by rw [Ro,Af hc]
   simp only [Ec] at *
   omega
  .have:=ih h
   omega
theorem VK{p:List Int}{h:List PCell}{c:PCell}(hc:c∈Sm p h):c∈h:=by
 cases h with
 | nil=>exact hc
 | cons a t=>
  rw [Ro] at hc
  split at hc
  .exact Bh _ hc
  .exact hc
theorem vu{n:Nat}{hs:List (List PCell)}{p:List Int}(hn:Wg hs<=n)(h:Iu none hs=some p):∃ m,n=m+1/\Wg (hs.map (Sm p))<=m/\Jz n hs=(p,hs.map (aY p))::Jz m (hs.map (Sm p)):=by
 obtain ⟨c,t,h1,h2⟩:=(yz h).elim (λh=>by cases h) id
 have Et:=C33 h1 h2
 obtain ⟨m,rfl⟩:∃ m,n=m+1:=⟨n-1,by omega⟩
 refine ⟨m,rfl,by omega,?_⟩
 show (match Iu none hs with
  | none=>[]
  | some p=>(p,hs.map (aY p))::Jz m (hs.map (Sm p)))=_
 rw [h]
theorem VJ{n:Nat}{hs:List (List PCell)}(h:Iu none hs=none):Jz n hs=[]:=by
 cases n with
 | zero=>rfl
 | succ n=>
  show (match Iu none hs with
   | none=>[]
   | some p=>(p,hs.map (aY p))::Jz n (hs.map (Sm p)))=_
  rw [h]
theorem Rows.set1{α:Type}{R:Rep α}{T:Nat}{hd:R.dep+1<=6}{hp:Tr DObj}{p:Nat->Prop}{v:DV}{x:List α}(hv:RL R hp p v x):∀ {l:List (List α)} {fl:List DV} (i:Nat),Rows (Nf R T hd) hp p fl l->Rows (Nf R T hd) hp p (fl.set i v) (l.set i x)
 | [],_,_,h=>by cases h;exact rfl
 | _::l,_,0,⟨a,b,e,⟨d,h1,h2⟩,h3⟩=>by subst e h1;exact ⟨[v],b,rfl,⟨v,rfl,hv⟩,h3⟩
 | _::l,_,i+1,⟨a,b,e,⟨d,h1,h2⟩,h3⟩=>by subst e h1;exact ⟨[d],_,rfl,⟨d,rfl,h2⟩,h3.set1 hv i⟩
def uM{α:Type}(R:Rep α)(T:Nat)(hd:R.dep+1<=6:=by decide):Rep (List α) where
 e:=1
 T:=T
 dep:=R.dep+1
 rd hp p ds l:=∃ d,ds=[d]/\RL R hp p d l/\Nn d l
 cells l:=[.sl (l.flatMap R.cells) l.length]
 e0:=Nat.one_pos
 d6:=hd
 len:=λ⟨_,h,_⟩=>by rw [h];rfl
 keep:=λ⟨d,h,h2,h3⟩ hk=>⟨d,h,h2.keep hk,h3⟩
 mono:=λ⟨d,h,h2,h3⟩ hk=>⟨d,h,h2.mono hk,h3⟩
 refs:=λ⟨d,h,h2,_⟩ id hi=>by
  subst h
  exact h2.refs id (by simpa [DV.refsL] using hi)
 pure:=λ_ _ l=>⟨_,rfl,.sl l,by cases l with | nil=>exact .inr (.inr rfl) | cons a l=>exact .inl (by simp)⟩
 ok:=λ⟨d,h,h2,_⟩ c hc=>by
  subst h
  obtain rfl:=Aj.1 hc
  exact h2.ok
 same:=λ⟨d,h,h2,_⟩ c hc n hn=>by
  subst h
  obtain rfl:=Aj.1 hc
  exact h2.same hn
 samec:=λl c hc n hn=>by
  obtain rfl:=Aj.1 hc
  exact (RL.sl (R:=R) (hp:=.e) (p:=λ_=>True) l).same hn
theorem Rows.set1N{α:Type}{R:Rep α}{T:Nat}{hd:R.dep+1<=6}{hp:Tr DObj}{p:Nat->Prop}{v:DV}{x:List α}(hv:RL R hp p v x/\Nn v x):∀ {l:List (List α)} {fl:List DV} (i:Nat),Rows (uM R T hd) hp p fl l->Rows (uM R T hd) hp p (fl.set i v) (l.set i x)
 | [],_,_,h=>by cases h;exact rfl
 | _::l,_,0,⟨a,b,e,⟨d,h1,h2,zZ⟩,h3⟩=>by subst e h1;exact ⟨[v],b,rfl,⟨v,rfl,hv.1,hv.2⟩,h3⟩
 | _::l,_,i+1,⟨a,b,e,⟨d,h1,h2,zZ⟩,h3⟩=>by subst e h1;exact ⟨[d],_,rfl,⟨d,rfl,h2,zZ⟩,h3.set1N hv i⟩
theorem Rows.replN{α:Type}{R:Rep α}{T:Nat}{hd:R.dep+1<=6}{hp:Tr DObj}{p:Nat->Prop} : ∀ n:Nat,Rows (uM R T hd) hp p (List.replicate n Cb) (List.replicate n [])
 | 0=>rfl
 | n+1=>⟨[Cb],List.replicate n Cb,rfl,⟨Cb,rfl,.nil,.inr (.inl rfl)⟩,Rows.replN n⟩
theorem OL.get{α:Type}{R:Rep α}{hp:Tr DObj}{p:Nat->Prop}{id n e:Nat}{l:List α}(h:OL R hp p (.ms id 0 n e) l):n=l.length/\e=R.e/\∃ fl,hp.get id=some (.row R.T fl)/\Rows R hp p fl l:=by
 cases h with
 | ms id fl l h hr=>exact ⟨rfl,rfl,fl,h,hr⟩
section
variable {call:Bg} {es:ES} {dst:Option Pa} {q:Hold (ES->Prop)}
theorem Cr6{α:Type}{R:Rep α}{T:Nat}{hd:R.dep+1<=6}{p:Nat->Prop}{a x:EO}{id i n:Nat}{v:DV}{l:List (List α)}{m:List α}(ea:Ad es a=.pt id i)(ho:OL (Nf R T hd) es.hp p (.ms id 0 n 1) l)(ev:My es x=v)(hv:RL R es.hp p v m)(hi:i<l.length)(Nr:¬ p id)
  (h:∀ An,OL (Nf R T hd) An p (.ms id 0 n 1) (l.set i m)->(∀ j,j≠id->An.get j=es.hp.get j)->q.val ((ES.mk es.sl An es.nx).putE dst .any)) :
  Na (sU dst (Is 1 a x)) call es:=by
 obtain ⟨hn,_,fl,hg,hr⟩:=ho.get
 have hl:=hr.len
 refine lS ea hg ev hv.ok (by rw [hl];show i<l.length*1;omega) λAn aP N4=>h An ?_ N4
 have:=OL.ms (R:=Nf R T hd) (p:=p) id _ (l.set i m) aP ((hr.set1 hv i).keep λj hj=>N4 j λe=>Nr (e ▸ hj))
 rw [Mg,<- hn] at this
 exact this
theorem Cr7{α:Type}{R:Rep α}{T:Nat}{hd:R.dep+1<=6}{p:Nat->Prop}{a x:EO}{id i n:Nat}{v:DV}{l:List (List α)}{m:List α}(ea:Ad es a=.pt id i)(ho:OL (uM R T hd) es.hp p (.ms id 0 n 1) l)(ev:My es x=v)(hv:RL R es.hp p v m)(jS:Nn v m)(hi:i<l.length)(Nr:¬ p id)
  (h:∀ An,OL (uM R T hd) An p (.ms id 0 n 1) (l.set i m)->(∀ j,j≠id->An.get j=es.hp.get j)->q.val ((ES.mk es.sl An es.nx).putE dst .any)) :
  Na (sU dst (Is 1 a x)) call es:=by
 obtain ⟨hn,_,fl,hg,hr⟩:=ho.get
 have hl:=hr.len
 refine lS ea hg ev hv.ok (by rw [hl];show i<l.length*1;omega) λAn aP N4=>h An ?_ N4
 have:=OL.ms (R:=uM R T hd) (p:=p) id _ (l.set i m) aP ((hr.set1N ⟨hv,jS⟩ i).keep λj hj=>N4 j λe=>Nr (e ▸ hj))
 rw [Mg,<- hn] at this
 exact this
theorem B97{α:Type}{R:Rep α}{T e b:Nat}{hd:R.dep+1<=6}{x y:Operand}{n:Nat}(hx:es.ds.ev x=iv n)(hy:es.ds.ev y=iv n)(hn:n<=65536)(he:e=1)(hb:b<=64)
  (h:∀ An,(∀ p,OL (uM R T hd) An p (.ms es.nx 0 n 1) (List.replicate n []))->(∀ j,j≠es.nx->An.get j=es.hp.get j)->q.val ((ES.mk es.sl An (es.nx+1)).putE dst (.ms es.nx 0 n 1))):Na (sU dst (Bi (.mks T e b [.slice none 0 0] x y))) call es:=by
 subst he
 show SW _ _ _ _
 rw [sw_u,Ft]
 have e:(List.replicate n ([Value.slice none 0 0].map DV.v)).flatten=List.replicate n Cb:=by
  clear h hx hy hn
  induction n with
  | zero=>rfl
  | succ n ih=>rw [Ix,List.flatten_cons,ih];rfl
 refine ⟨.ms es.nx 0 n 1,.lay (.row T (List.replicate n Cb)),?_,?_⟩
 .have hnb:n*b<=65536*64:=Zw hn hb
  simp only [Ba,hx,hy,iv,Ku]
  rw [Af ⟨by omega,by omega,by omega,by omega,rfl,by omega⟩,Ee,e]
 .refine h (es.up (.lay (.row T (List.replicate n Cb)))).hp (λp=>?_) λj hj=>by rw [Zu,get_set,Ae hj]
  have:=OL.ms (R:=uM R T hd) (p:=p) (hp:=(es.up (.lay (.row T (List.replicate n Cb)))).hp) es.nx (List.replicate n Cb) (List.replicate n []) (by rw [Zu,get_set,Af rfl];rfl) (Rows.replN n)
  rw [List.length_replicate] at this
  exact this
end
end Go.DD

/- Contracts: the walk over several cell lists. Conditions: those that each theorem states. -/
namespace Go.DD
open Go Go.Proofs
theorem Bz3(k:Nat)(hp:Tr DObj)(nx:Nat)(K:DV->Tr DObj->Nat->Prop)(d:DV)(l:List (List PCell))(P:Nat->Prop)(hP:∀ j,P j->j<nx)(h1:RL rCells hp P d l)(Gt:l≠[])(hl:l.length<2000000000)(hK:∀ An,(∀ j,j<nx->An.get j=hp.get j)->OL rCells An P (.ms (nx+1) 0 l.length 1) l->K (.ms (nx+1) 0 l.length 1) An (nx+2)):KW (kN (k+1)) (.fn 139) [d] hp nx K:=by
 have hr:Kt 139 [d]=none:=by
  unfold Kt
  rw [Ae (by decide),Af (by decide)]
  split
  .rename_i e
   exact absurd (by cases h1 <;> simp_all) Gt
  .rfl
 refine Es hr XZ (Ab rfl) λes e1 e2 he=>?_
 have a0:Ad es (.t .o)=d:=he 0 _ rfl
 subst e1 e2
 unfold FL
 simp only [As,↓Au,a0]
 refine eM false (by simp only [Dc,bR,bP,h1.live];exact h1.notnil Gt) kW ?_
 simp only [As,↓Au]
 refine eK (fl:=[]) (by rfl) (by rfl) λEi Dn Dd=>?_
 simp only [bR] at Dn Dd
 simp only [As,↓Au,a0]
 have r1:RL rCells Ei P d l:=h1.keep λj hj=>Dd j (by have:=hP j hj;omega)
 refine eL (R:=rCells) (p:=P) (p2:=P) (d:=.ms es.nx 0 0 rCells.e) (d2:=d) (l:=[]) (m:=l) (by simp only [bR,bP];rfl) (.ms es.nx [] [] Dn rfl) (by simp only [Dc,bR,bP];exact r1.live) (r1.srcD (es:=⟨_,Ei,_⟩)) rfl rfl (by simp;omega) (by decide) λCw Fa h2=>?_
 simp only [bR,By] at Fa h2
 have h3:=h2 P (λj hj=>by have RX:P j:=hj.elim id id;have Pj:=hP j RX;exact ⟨RX,by omega,by simp [DV.refs];omega⟩)
 simp only [As,↓Au,bP,h3.rl.live]
 refine hK _ (λj hj=>?_) h3
 rw [Fa j (by omega) (by simp [DV.refs];omega),Dd j (by omega)]
theorem AD{hp:Tr DObj}{p:Nat->Prop}{d:DV}{l:List (List PCell)}(h:RL rCells hp p d l){i:Nat}(hi:i<l.length):Qu hp 1 d (.v (.int .i64 (i:Int)))=some (Bz 1 d i):=h.ia hi
theorem OL.atS{α:Type}{R:Rep α}{T:Nat}{hd:R.dep+1<=6}{hp:Tr DObj}{p:Nat->Prop}{id n:Nat}{l:List (List α)}(h:OL (Nf R T hd) hp p (.ms id 0 n 1) l){i:Nat}(hi:i<l.length):∃ a,RL R hp p a l[i]/\Fy hp none (Bz 1 (.ms id 0 n 1) i)=some a:=by
 obtain ⟨_,_,fl,hg,hr⟩:=h.get
 obtain ⟨rest,e1,a,e2,h2⟩:=hr.at hi
 refine ⟨a,h2,?_⟩
 show Fy hp none (.pt id (0+i*1))=_
 have kJ:fl.drop (i*1)=((fl.drop (i*1)).take 1)++rest:=e1
 have e2':(fl.drop (i*1)).take 1=[a]:=e2
 rw [Qz hg,Df,kJ,e2']
 rfl
def rK:Rep (List PVal):=uM rVal 37
theorem RL.iaN{hp:Tr DObj}{p:Nat->Prop}{d:DV}{l:List (List PVal)}(h:RL rK hp p d l){i:Nat}(hi:i<l.length):Qu hp 1 d (.v (.int .i64 (i:Int)))=some (Bz 1 d i):=h.ia hi
theorem RL.atN{hp:Tr DObj}{p:Nat->Prop}{d:DV}{l:List (List PVal)}(h:RL rK hp p d l){i:Nat}(hi:i<l.length):∃ a,RL rVal hp p a l[i]/\Nn a l[i]/\Fy hp none (Bz 1 d i)=some a:=by
 obtain ⟨ds,hr,h1,h0,h2⟩:=h.at hi
 obtain ⟨a,rfl,h3,h4⟩:=hr
 exact ⟨a,h3,h4,h0 _ rfl⟩
def AtR(hp:Tr DObj)(P:Nat->Prop)(A:DV):Option (List Int)->Prop
 | none=>A=Cb
 | some p=>RL rInt hp P A p/\p≠[]/\p.length<900000
def Kc{α β:Type}(f g:α->β)(i:Nat)(l:List α):List β:=l.mapIdx λj x=>if j<i then f x else g x
theorem Bz4{α β:Type}(f g:α->β)(i:Nat)(l:List α):(Kc f g i l).length=l.length:=by simp [Kc]
theorem xM{α β:Type}(f g:α->β)(l:List α):Kc f g 0 l=l.map g:=by
 refine Iy (by simp [Kc]) λj h1 h2=>?_
 simp [Kc]
theorem GU{α β:Type}(f g:α->β)(l:List α):Kc f g l.length l=l.map f:=by
 refine Iy (by simp [Kc]) λj h1 h2=>?_
 have:j<l.length:=by simpa [Kc] using h1
 simp [Kc,this]
theorem C34{α β:Type}(f g:α->β)(l:List α){i:Nat}(h:i<l.length)(h2:i<(Kc f g i l).length):(Kc f g i l)[i]=g l[i]:=by simp [Kc]
theorem nB{α β:Type}(f g:α->β)(l:List α){i:Nat}(h:i<l.length):(Kc f g i l).set i (f l[i])=Kc f g (i+1) l:=by
 refine Iy (by simp [Kc]) λj h1 h2=>?_
 have hj:j<l.length:=by simpa [Kc] using h2
 rw [Pd]
 by_cases e:i=j
 .subst e;simp [Kc]
 .rw [Ae e]
  simp only [Kc,List.getElem_mapIdx]
  by_cases c:j<i
  .rw [Af c,Af (by omega)]
  .rw [Ae c,Ae (by omega)]
theorem xL{α β:Type}(f g:α->β)(l:List α){i:Nat}(h:i<l.length)(he:f l[i]=g l[i]):Kc f g i l=Kc f g (i+1) l:=by
 rw [<- nB f g l h]
 refine (Iy (by simp) λj h1 h2=>?_)
 rw [Pd]
 by_cases e:i=j
 .subst e;simp [Kc,he]
 .rw [Ae e]
theorem Cj2{call:Bg}{es:ES}{dst:Option Pa}{Q:ES->Prop}{T e n:Nat}{z:List Value}{x y:Operand} : SW (sU dst (Bi (.mks T e n z x y))) call es Q↔@Na (sU dst (Bi (.mks T e n z x y))) call es ⟨Q⟩:=Dg
section
variable (k L bx T:Nat) (d:DV) (Uk:List (List PCell)) (P:Nat->Prop) (J S:List (List Int×List (List PVal))->(Nat->Prop)->Tr DObj->Nat->Prop) (M0:Nat->Prop) (hp:Tr DObj) (nx:Nat) (K:DV->Tr DObj->Nat->Prop)
theorem B98(eG:hp.get bx=some (.row T [d]))(hd:RL rCells hp P d Uk)(hP:∀ j,P j->j<nx/\¬ M0 j)(Gt:Uk≠[])(hl:Uk.length<=1000)
  (hc:∀ h∈Uk,∀ c∈h,c.pos≠[]/\c.pos.length<900000/\c.vals≠[]) (ef:Wg Uk<900000)
  (hJ0:J [] M0 hp nx) (hJM:∀ W M hp nx,J W M hp nx->∀ j,M j->j<nx) (hJL:∀ W M hp nx,J W M hp nx->M L/\∃ o,hp.get L=some o)
  (my:∀ W M hp nx An Bm,J W M hp nx->nx<=Bm->(∀ j,M j\/P j->An.get j=hp.get j)->J W M An Bm)
  (Of:∀ W M hp nx a s p vZ (K:DV->Tr DObj->Nat->Prop),J W M hp nx->(W ++ [(p,vZ)]) <+: Hf Uk->RL rInt hp P a p->OL rK hp P s vZ->(∀ j∈s.refs,j<nx/\¬ M j)->(∀ j,P j->j<nx/\¬ M j)->
   (∀ An Bm M',nx<=Bm->(∀ j,j<nx->¬ M j->An.get j=hp.get j)->(∀ j,M' j->M j\/nx<=j)->J (W ++ [(p,vZ)]) M' An Bm->K (bv true) An Bm)->
   (∀ An Bm M',nx<=Bm->(∀ j,j<nx->¬ M j->An.get j=hp.get j)->(∀ j,M' j->M j\/nx<=j)->S (W ++ [(p,vZ)]) M' An Bm->K (bv false) An Bm)->KW (kN (k+4)) (.yl L) [a,s] hp nx K)
  (hK:∀ An Bm M',nx<=Bm->(∀ j,j<nx->¬ M0 j->An.get j=hp.get j)->(∀ j,M' j->M0 j\/nx<=j)->J (Hf Uk) M' An Bm->K (.tup []) An Bm)
  (hKS:∀ W An Bm M',nx<=Bm->(∀ j,j<nx->¬ M0 j->An.get j=hp.get j)->(∀ j,M' j->M0 j\/nx<=j)->S W M' An Bm->K (.tup []) An Bm) :
  KW (kN (k+5)) (.fn 138) [.yl L,.pt bx 0] hp nx K:=by
 refine Sf (Hl (by decide)) YA (Ab rfl) λes e1 e2 he=>?_
 have a0:Ad es (.t .o)=.yl L:=he 0 _ rfl
 have a1:Ad es (.t (.l .o))=.pt bx 0:=he 1 _ rfl
 unfold FM
 subst e1 e2
 simp only [As,↓Au,a1,qG eG]
 refine Fh (Bz3 (k+3) _ _ _ d Uk P (λj hj=>(hP j hj).1) hd Gt (by omega) λEi Dd M8=>?_)
 have hM0:=hJM _ _ _ _ hJ0
 have X1:J [] M0 Ei (es.nx+2):=my _ _ _ _ _ _ hJ0 (by omega) λj hj=>Dd j (hj.elim (hM0 j) λh=>(hP j h).1)
 simp only [As,↓Au]
 refine EW.l (I:=λn Ai=>∃ hs W M,Wg hs<=n/\n<900000/\hs.length=Uk.length/\(∀ h∈hs,∀ c∈h,c.pos≠[]/\c.pos.length<900000/\c.vals≠[])/\es.nx+2<=Ai.nx/\(∀ j,j<es.nx->¬ M0 j->Ai.hp.get j=es.hp.get j)/\(∀ j,M j->M0 j\/es.nx+2<=j)/\J W M Ai.hp Ai.nx/\OL rCells Ai.hp P (.ms (es.nx+1) 0 Uk.length 1) hs/\Ad Ai (.t .o)=.yl L/\Ad Ai (.t (.l (.l .o)))=.ms (es.nx+1) 0 Uk.length 1/\W++Jz n hs=Hf Uk) ?_ (Wg Uk) 1000000 _ ?_ (by omega)
 .rintro n Ai ⟨hs,W,M,eh,hn9,hlen,kC,hle,Cy,Q7,hJ,ho,b0,b3,hW⟩
  unfold Ch9
  have We:∀ j,P j->j<es.nx/\¬ M j:=λj hj=>⟨(hP j hj).1,λh=>(Q7 j h).elim (hP j hj).2 λh=>by have:=(hP j hj).1;omega⟩
  have jP:=ho.rl
  simp only [As,↓Au,b3,jP.len]
  refine EW.up hs.length (λi Cd=>∃ A st,Cd.hp=Ai.hp/\Ai.nx<=Cd.nx/\Ad Cd (.t .o)=.yl L/\Ad Cd (.t (.l (.l .o)))=.ms (es.nx+1) 0 Uk.length 1/\Ad Cd (.t (.r (.l (.r .o))))=.ms (es.nx+1) 0 Uk.length 1/\Ad Cd (.t (.l (.r (.r .o))))=iv hs.length/\Ad Cd (.t (.r (.r (.r .o))))=iv (i:Nat)/\Ad Cd (.t (.r (.l .o)))=A/\AtR Ai.hp P A st/\Iu st (hs.drop i)=Iu none hs) ?_ ?_ (by omega)
  .rintro i Cd hi ⟨A,st,g1,g2,x0,x3,qN,jD,bN,x4,hA,Vz⟩
   unfold Ch7
   rw [<- g1] at jP hA ho
   by_cases h:i<hs.length
   .obtain ⟨hh,rh,lh⟩:=ho.atS h
    rw [Bb h] at Vz
    have Xm:=kC _ (Be h)
    generalize hs[i]=H at rh Vz Xm
    cases H with
    | nil=>
     have Xi:Iu st (hs.drop (i+1))=Iu none hs:=by rw [<- Vz];cases st <;> rfl
     simp only [As,↓Au,x0,x3,qN,jD,bN,x4,h,AD jP h,lh,rh.len,Mh,show decide ((0:Int)<0)=false from rfl,Hz (show i<_ by omega)]
     exact ⟨A,st,g1,g2,rfl,by rw [<- g1];exact hA,Xi⟩
    | cons c t=>
     have Xm:=Xm c (by simp)
     have h0:0<(c::t).length:=by simp
     obtain ⟨pA,vA,Sn,Tv,_,_,HN,_⟩:=Ek rh h0
     simp only [Hm] at Sn
     cases st with
     | none=>
      have hA:A=Cb:=hA
      subst hA
      have Xi:Iu (some c.pos) (hs.drop (i+1))=Iu none hs:=Vz
      simp only [As,↓Au,qN,jD,bN,x4,h,AD jP h,lh,rh.len,show (0:Int)<((c::t).length:Int) from Int.natCast_pos.2 h0]
      refine eM true (by simp only [Dc,bR,bP,Cb,Sa];rfl) kW ?_
      simp only [As,↓Au,x0,x3,qN,jD,bN,h,PJ rh h0,mA (k:=0) rh h0,HN,Hz (show i<_ by omega)]
      exact ⟨pA,some c.pos,g1,g2,rfl,⟨by rw [<- g1];exact Sn,Xm.1,Xm.2.1⟩,Xi⟩
     | some p=>
      obtain ⟨hA,Ei,Cw⟩:=hA
      simp only [As,↓Au,qN,jD,bN,x4,h,AD jP h,lh,rh.len,show (0:Int)<((c::t).length:Int) from Int.natCast_pos.2 h0]
      refine eM false (by simp only [Dc,bR,bP,hA.live];exact hA.notnil Ei) kW ?_
      simp only [As,↓Au,x4,PJ rh h0,mA (k:=0) rh h0,HN]
      refine Fh (F7 k es.nx _ _ _ pA A c.pos p (by omega) (Sn.mono λj hj=>(We j hj).1) (hA.mono λj hj=>(We j hj).1) Xm.2.1 ?_)
      by_cases c1:Cs c.pos p = -1
      .have Xi:Iu (some c.pos) (hs.drop (i+1))=Iu none hs:=by rw [<- Vz];show _=if Cs c.pos p = -1 then _ else _;rw [Af c1]
       simp only [As,↓Au,x0,x3,qN,jD,bN,h,show Cs c.pos p<0 by omega,PJ rh h0,mA (k:=0) rh h0,HN,Hz (show i<_ by omega)]
       exact ⟨pA,some c.pos,g1,g2,rfl,⟨by rw [<- g1];exact Sn,Xm.1,Xm.2.1⟩,Xi⟩
      .have Xi:Iu (some p) (hs.drop (i+1))=Iu none hs:=by rw [<- Vz];show _=if Cs c.pos p = -1 then _ else _;rw [Ae c1]
       simp only [As,↓Au,x0,x3,qN,jD,bN,x4,h,show ¬ Cs c.pos p<0 by have:=kZ c.pos p;omega,Hz (show i<_ by omega)]
       exact ⟨A,some p,g1,g2,rfl,⟨by rw [<- g1];exact hA,Ei,Cw⟩,Xi⟩
   .rw [Bc (by omega)] at Vz
    have Ib:Iu none hs=st:=by rw [<- Vz];cases st <;> rfl
    simp only [As,↓Au,jD,bN,x4,h]
    cases st with
    | none=>
     have hA:A=Cb:=hA
     subst hA
     refine eM true (by simp only [Dc,bR,bP,Cb,Sa];rfl) kW ?_
     simp only [As,↓Au]
     have hWe:W=Hf Uk:=by rw [<- hW,VJ Ib,Da]
     subst hWe
     refine hK _ _ M (by omega) (by rw [g1];exact Cy) (λj hj=>(Q7 j hj).imp id λh=>by omega) (my _ _ _ _ _ _ hJ g2 λj hj=>by rw [g1])
    | some p=>
     obtain ⟨hA,Ei,Cw⟩:=hA
     refine eM false (by simp only [Dc,bR,bP,hA.live];exact hA.notnil Ei) kW ?_
     simp only [As,↓Au,x3,jP.len]
     simp only [↓Cj2]
     refine B97 (R:=rVal) (T:=37) (hd:=by decide) (n:=hs.length) (by simp only [Dc,bR,bP,Sa]) (by simp only [Dc,bR,bP,Sa]) (by omega) rfl (by omega) λFq qV Fl=>?_
     simp only [bR] at qV Fl
     simp only [As,x3]
     have JR:OL rCells Fq P (.ms (es.nx+1) 0 Uk.length 1) hs:=by
      exact ho.keep λj hj=>Fl j (by
       rcases hj with hj | hj
       .have:=(We j hj).1;omega
       .simp [DV.refs] at hj;omega)
     have hA4:RL rInt Fq P A p:=hA.keep λj hj=>Fl j (by have:=(We j hj).1;omega)
     simp only [As,JR.rl.len]
     refine EW.up hs.length (λi Kj=>OL rCells Kj.hp P (.ms (es.nx+1) 0 Uk.length 1) (Kc (Sm p) id i hs)/\OL rK Kj.hp P (.ms Cd.nx 0 hs.length 1) (Kc (aY p) (λ_=>[]) i hs)/\(∀ j,j≠es.nx+1->j≠Cd.nx->Kj.hp.get j=Fq.get j)/\Cd.nx+1<=Kj.nx/\Ad Kj (.t .o)=.yl L/\Ad Kj (.t (.l (.l .o)))=.ms (es.nx+1) 0 Uk.length 1/\Ad Kj (.t (.r (.l .o)))=A/\Ad Kj (.t (.l (.l (.l .o))))=.ms Cd.nx 0 hs.length 1/\Ad Kj (.t (.r (.l (.r (.r (.l .o))))))=.ms (es.nx+1) 0 Uk.length 1/\Ad Kj (.t (.l (.r (.r (.r (.l .o))))))=iv hs.length/\Ad Kj (.t (.r (.r (.r (.r (.l .o))))))=iv (i:Nat)) ?_ ?_ (by omega)
     .rintro i Kj hi ⟨oH,oS,aQ,Iw,y0,y3,y4,y7,QH,BF,BE⟩
      unfold Ch8
      have SJ:RL rInt Kj.hp P A p:=hA4.keep λj hj=>aQ j (by have:=(We j hj).1;omega) (by have:=(We j hj).1;omega)
      by_cases h:i<hs.length
      .have hH:i<(Kc (Sm p) id i hs).length:=by rw [Bz4];exact h
       obtain ⟨hh,rh,lh⟩:=oH.atS hH
       have rh:RL rCell Kj.hp P hh hs[i]:=by rw [C34 _ _ _ h] at rh;exact rh
       have Xm:=kC _ (Be h)
       have e1:=xL (Sm p) id hs h
       have e2:=xL (aY p) (λ_=>[]) hs h
       have s1:=nB (Sm p) id hs h
       have s2:=nB (aY p) (λ_=>[]) hs h
       generalize hs[i]=H at rh Xm e1 e2 s1 s2
       cases H with
       | nil=>
        simp only [As,↓Au,y0,y3,y4,y7,QH,BF,BE,h,AD oH.rl hH,lh,rh.len,Mh,show decide ((0:Int)<0)=false from rfl,Hz (show i<_ by omega)]
        exact ⟨by rw [<- e1 rfl];exact oH,by rw [<- e2 rfl];exact oS,aQ,Iw⟩
       | cons c t=>
        have Xm:=Xm c (by simp)
        have h0:0<(c::t).length:=by simp
        obtain ⟨pA,vA,Sn,Tv,_,_,HN,lvA⟩:=Ek rh h0
        simp only [Hm] at Sn Tv
        simp only [As,↓Au,y4,QH,BF,BE,h,AD oH.rl hH,lh,rh.len,show (0:Int)<((c::t).length:Int) from Int.natCast_pos.2 h0,PJ rh h0,mA (k:=0) rh h0,HN]
        refine Fh (F7 k es.nx _ _ _ pA A c.pos p (by omega) (Sn.mono λj hj=>(We j hj).1) (SJ.mono λj hj=>(We j hj).1) Xm.2.1 ?_)
        by_cases c1:c.pos=p
        .have EB:=rh.mono (q:=Bl es.nx) λj hj=>(We j hj).1
         obtain ⟨_,_,flH,hgH,_⟩:=oH.get
         obtain ⟨_,_,flS,hgS,_⟩:=oS.get
         have hS:i<(Kc (aY p) (λ_=>[]) i hs).length:=by rw [Bz4];exact h
         have v1:Go.DD.sliE 2 hh (some (.v (.int .i64 1))) none=some (lD 2 1 (c::t).length hh):=rh.sliE (e:=2) (a:=1) (z:=(c::t).length) (lo:=some (.v (.int .i64 1))) (hi:=none) rfl rfl (λn hn=>by rw [hn];rfl) h0 (Ag _)
         have rs:RL rCell Kj.hp P (lD 2 1 (c::t).length hh) t:=by
          have this:RL rCell Kj.hp P (lD 2 1 (c::t).length hh) (((c::t).drop 1).take ((c::t).length-1)):=rh.part (a:=1) (z:=(c::t).length) h0 (Ag _)
          have e:((c::t).drop 1).take ((c::t).length-1)=t:=by simp
          rw [e] at this
          exact this
         have rs':=rs.mono (q:=Bl es.nx) λj hj=>(We j hj).1
         have mP:=Tv.mono (q:=Bl es.nx) λj hj=>(We j hj).1
         have roS:∀ an,Hh (Bz 1 (.ms Cd.nx 0 hs.length 1) i) (λid=>Cp Kj.nx 14 an Kj.hp id):=λan j hj=>by
          have:j=Cd.nx:=by simpa [DV.refs] using uV _ _ _ j hj
          rw [this];exact Lp hgS (by omega)
         simp only [As,↓Au,bP,y3,y7,cmpL_0.2 c1,PJ rh h0,mA (k:=1) rh h0,lvA,EB.rox (show es.nx<=Kj.nx by omega),U3 EB (show es.nx<=Kj.nx by omega),xu EB (show es.nx<=Kj.nx by omega),Lp (n0:=Kj.nx) (m:=14) hgH (show es.nx+1<Kj.nx by omega),Lp (n0:=Kj.nx) (m:=14) hgS (show Cd.nx<Kj.nx by omega),C17,Ca,Option.map_none,rh.live,v1,oS.rl.iaN hS,Bf (roS _),mP.rox (show es.nx<=Kj.nx by omega)]
         refine Ly rfl (Cr7 (R:=rVal) (T:=37) (hd:=by decide) (p:=P) (id:=Cd.nx) (i:=i) (n:=hs.length) (m:=c.vals) (by simp only [bR];show DV.pt Cd.nx (0+i*1)=_;simp) oS (by simp only [Ha,bR,Tv.live]) Tv (.inl Xm.2.2) hS (λh=>by have:=(We _ h).1;omega) λGr oS5 Jd=>?_)
         simp only [bR] at Jd
         have tP:∀ j,j<es.nx->Gr.get j=Kj.hp.get j:=λj hj=>Jd j (by omega)
         have bf:OL rCells Gr P (.ms (es.nx+1) 0 Uk.length 1) _:=oH.keep λj hj=>Jd j (by
          rcases hj with hj | hj
          .have:=(We j hj).1;omega
          .simp [DV.refs] at hj;omega)
         obtain ⟨_,_,aW5,tT,_⟩:=bf.get
         have YU:=rs.keep (An:=Gr) λj hj=>tP j (We j hj).1
         have YT:=YU.mono (q:=Bl es.nx) λj hj=>(We j hj).1
         have roH:∀ an,Hh (Bz 1 (.ms (es.nx+1) 0 Uk.length 1) i) (λid=>Cp Kj.nx 14 an Gr id):=λan j hj=>by
          have:j=es.nx+1:=by simpa [DV.refs] using uV _ _ _ j hj
          rw [this];exact Lp tT (by omega)
         simp only [As,↓Au,Lp (n0:=Kj.nx) (m:=14) tT (show es.nx+1<Kj.nx by omega),AD bf.rl hH,Bf (roH _),YT.rox (show es.nx<=Kj.nx by omega)]
         refine Ly rfl (Cr6 (R:=rCell) (T:=24) (hd:=by decide) (p:=P) (id:=es.nx+1) (i:=i) (n:=Uk.length) (m:=t) (by simp only [bR];show DV.pt (es.nx+1) (0+i*1)=_;simp) bf (by simp only [Ha,bR,YU.live]) YU hH (λh=>by have:=(We _ h).1;omega) λIv oH6 Ve=>?_)
         simp only [bR] at Ve
         have jh:∀ j,j<es.nx->Iv.get j=Kj.hp.get j:=λj hj=>(Ve j (by omega)).trans (tP j hj)
         have oS6:OL rK Iv P (.ms Cd.nx 0 hs.length 1) _:=OL.keep (R:=rK) oS5 λj hj=>Ve j (by
          rcases hj with hj | hj
          .have:=(We j hj).1;omega
          .simp [DV.refs] at hj;omega)
         simp only [As,↓Au,y0,y3,y4,y7,QH,BF,BE,h,Hz (show i<_ by omega)]
         obtain ⟨_,_,aW4,ju,_⟩:=oH6.get
         have Gy:PsOK [⟨13,[12,9,11,0,1,2,3,4,5,6,7,8,10],Gr,Iv⟩,⟨11,[10,7,0,1,4,5,6],Kj.hp,Gr⟩] Kj.hp es.nx:=((PsOK.nil _ _).cons (λ_ _=>rfl) tP).cons tP jh
         have s1':(Kc (Sm p) id i hs).set i t=Kc (Sm p) id (i+1) hs:=by rw [<- s1,Ro,Af c1]
         have s2':(Kc (aY p) (λ_=>[]) i hs).set i c.vals=Kc (aY p) (λ_=>[]) (i+1) hs:=by rw [<- s2,gJ,Af c1]
         refine ⟨AU EB (λj (hj:j<es.nx)=>by omega) Gy (λ_ h=>h) (AU EB (λj (hj:j<es.nx)=>by omega) Gy (λ_ h=>h) (rT (λj hj=>?_) (OU _ _ _))),by rw [<- s1'];exact oH6,by rw [<- s2'];exact oS6,λj KP Pj=>by rw [Ve j KP,Jd j Pj,aQ j KP Pj],by omega⟩
         have hj:j=es.nx+1:=by simpa [DV.refs] using hj
         subst hj
         refine ⟨by omega,λp hp=>.inr (.inr ?_)⟩
         rw [Ae (by simp)]
         simp only [Ap,Cm,or_false] at hp
         rcases hp with rfl | rfl
         .show (((Gr.get (es.nx+1)).isSome)==((Iv.get (es.nx+1)).isSome))=true
          rw [tT,ju];rfl
         .show (((Kj.hp.get (es.nx+1)).isSome)==((Gr.get (es.nx+1)).isSome))=true
          rw [hgH,tT];rfl
        .simp only [As,↓Au,y0,y3,y4,y7,QH,BF,BE,h,show decide (Cs c.pos p=0)=false by simp [cmpL_0,c1],Hz (show i<_ by omega)]
         exact ⟨by rw [<- e1 (by rw [Ro,Ae c1];rfl)];exact oH,by rw [<- e2 (by rw [gJ,Ae c1])];exact oS,aQ,Iw⟩
      .have SJ:=SJ
       have lJ:i=hs.length:=by omega
       subst lJ
       rw [GU] at oH oS
       have hPl:∀ j,P j->j<es.nx:=λj hj=>(We j hj).1
       have hMl:=hJM _ _ _ _ hJ
       have ml:∀ j,M j->j≠es.nx+1/\j≠Cd.nx:=λj hj=>⟨λe=>(Q7 j hj).elim (λh=>by have:=hM0 j h;omega) λh=>by omega,λe=>by have:=hMl j hj;omega⟩
       have iG:∀ j,j<Ai.nx->j≠es.nx+1->Kj.hp.get j=Ai.hp.get j:=λj hj Pj=>by rw [aQ j Pj (by omega),Fl j (by omega),g1]
       have X0:J W M Kj.hp Kj.nx:=my _ _ _ _ _ _ hJ (by omega) λj hj=>hj.elim (λhj=>iG j (hMl j hj) (ml j hj).1) λhj=>iG j (by have:=(We j hj).1;omega) (by have:=(We j hj).1;omega)
       obtain ⟨mw,oL,Q8⟩:=hJL _ _ _ _ X0
       obtain ⟨n',W0,eg,hwk⟩:=vu eh Ib
       rw [hwk] at hW
       simp only [As,↓Au,y0,y4,y7,BF,BE,h]
       refine mG (L:=L) (by simp only [bR]) Q8 ?_
       simp only [Am,Az,bR]
       refine Of W M _ _ A (.ms Cd.nx 0 hs.length 1) p (hs.map (aY p)) _ X0 ⟨_,by rw [Bv];exact hW⟩ SJ oS (λj hj=>?_) (λj hj=>⟨by have:=hPl j hj;omega,(We j hj).2⟩) (λAn Bm M' JS Xl Q6 hJ'=>?_) λAn Bm M' JS Xl Q6 MB=>?_
       .have:j=Cd.nx:=by simpa [DV.refs] using hj
        exact ⟨by omega,λh=>(ml j h).2 this⟩
       .simp only [As,↓Au,y0,y3]
        refine ⟨n',by omega,hs.map (Sm p),W ++ [(p,hs.map (aY p))],M',eg,by omega,by rw [Bp];exact hlen,?_,by omega,?_,?_,hJ',?_,by rw [Bv];exact hW⟩
        .intro h hh c hc
         obtain ⟨h',zQ,rfl⟩:=Bn.1 hh
         exact kC h' zQ c (VK hc)
        .intro j hj hm
         have iw:¬ M j:=λh=>(Q7 j h).elim hm λh=>by omega
         rw [Xl j (by omega) iw,iG j (by omega) (by omega),Cy j hj hm]
        .intro j hj
         rcases Q6 j hj with h | h
         .exact Q7 j h
         .exact .inr (by omega)
        .exact oH.keep λj hj=>by
          rcases hj with hj | hj
          .exact Xl j (by have:=hPl j hj;omega) (We j hj).2
          .have:j=es.nx+1:=by simpa [DV.refs] using hj
           exact Xl j (by omega) λh=>(ml j h).1 this
       .simp only [As,↓Au]
        refine hKS _ _ _ M' (by omega) (λj hj hm=>?_) (λj hj=>?_) MB
        .have iw:¬ M j:=λh=>(Q7 j h).elim hm λh=>by omega
         rw [Xl j (by omega) iw,iG j (by omega) (by omega),Cy j hj hm]
        .rcases Q6 j hj with h | h
         .exact (Q7 j h).imp id λh=>by omega
         .exact .inr (by omega)
     .simp only [As,x0,x3,x4]
      refine ⟨?_,?_,λ_ _ _=>trivial⟩
      .rw [xM,List.map_id];exact JR
      .rw [xM,List.map_const'];exact qV P
  .refine ⟨Cb,none,?_⟩
   simp only [As,b0,b3]
   exact ⟨rfl,rfl⟩
 .refine ⟨Uk,[],M0,?_⟩
  simp only [As,a0]
  exact ⟨ef,hc,λj hj _=>Dd j hj,λj hj=>.inl hj,X1,M8,rfl⟩
end
end Go.DD

/- Contracts: the changes Be3 two cell lists. Conditions: those that each theorem states. -/
namespace Go.DD
open Go Go.Proofs
theorem B99{n:Nat} : ∀ {hs:List (List PCell)},∀ w∈Jz n hs,w.2.length=hs.length/\(∃ h∈hs,∃ c∈h,c.pos=w.1)/\∀ v∈w.2,v=[]\/∃ h∈hs,∃ c∈h,v=c.vals:=by
 induction n with
 | zero=>intro hs w h;cases h
 | succ n ih=>
  intro hs w h
  cases e:Iu none hs with
  | none=>rw [VJ e] at h;cases h
  | some p=>
   have h':w∈(p,hs.map (aY p))::Jz n (hs.map (Sm p)):=by
    have:Jz (n+1) hs=(p,hs.map (aY p))::Jz n (hs.map (Sm p)):=by
     show (match Iu none hs with
      | none=>[]
      | some p=>(p,hs.map (aY p))::Jz n (hs.map (Sm p)))=_
     rw [e]
    rwa [this] at h
   rcases Ap.1 h' with rfl | h'
   .obtain ⟨c,t,h1,h2⟩:=(yz e).elim (λh=>by cases h) id
    refine ⟨by simp,⟨_,h1,c,by simp,h2⟩,λv hv=>?_⟩
    obtain ⟨h,hh,rfl⟩:=Bn.1 hv
    cases h with
    | nil=>exact .inl rfl
    | cons c t=>
     rw [gJ]
     split
     .exact .inr ⟨_,hh,c,by simp,rfl⟩
     .exact .inl rfl
   .obtain ⟨h1,⟨h,hh,c,hc,h2⟩,h3⟩:=ih w h'
    obtain ⟨h0,jo,rfl⟩:=Bn.1 hh
    refine ⟨by rw [h1,Bp],⟨h0,jo,c,VK hc,h2⟩,λv hv=>?_⟩
    rcases h3 v hv with h | ⟨h,hh,c,hc,rfl⟩
    .exact .inl h
    .obtain ⟨h0,jo,rfl⟩:=Bn.1 hh
     exact .inr ⟨h0,jo,c,VK hc,rfl⟩
theorem xn{n:Nat} : ∀ {hs:List (List PCell)},(Jz n hs).length<=n:=by
 induction n with
 | zero=>intro hs;exact Ag _
 | succ n ih=>
  intro hs
  show (match Iu none hs with
   | none=>[]
   | some p=>(p,hs.map (aY p))::Jz n (hs.map (Sm p))).length<=_
  split
  .simp
  .simp only [Ec];have:=ih (hs:=hs.map (Sm ‹_›));omega
def Tk(w:List Int×List (List PVal)):List PCell:=match w.2 with
 | [u,v]=>if u=v then [] else [⟨w.1,v⟩]
 | _=>[]
def Rw(W:List (List Int×List (List PVal))):List PCell:=W.flatMap Tk
theorem vt(W:List (List Int×List (List PVal))):(Rw W).length<=W.length:=by
 induction W with
 | nil=>exact Ag _
 | cons w W ih=>
  have h:(Tk w).length<=1:=by
   unfold Tk
   split
   .split <;> simp
   .simp
  unfold Rw at ih ⊢
  rw [Nm,Ao,Ec]
  omega
theorem S9(z:List Value)(ps:List (Nat×Nat×Operand))(nid:Nat)(es:ES):Fu (Bi (.bld z ps)) nid es=(Ho (z.map .v) (ps.map λp=>(p.1,p.2.1,es.ds.ev p.2.2))).map DV.agg:=by
 refine eQ (X:=λes=>(Ho (z.map .v) (ps.map λp=>(p.1,p.2.1,es.ds.ev p.2.2))).map DV.agg) (λes nid=>?_) nid
 rw [Ft]
 simp only [Ba]
 cases Ho (z.map .v) (ps.map λp=>(p.1,p.2.1,es.ds.ev p.2.2)) <;> rfl
theorem Kb{a b:DV}{f:Nat->Bool}(h1:Hh a f)(h2:Hh b f):Hh (.agg [a,b]) f:=λid hid=>by
 have:id∈a.refs\/id∈b.refs:=by simpa [DV.refs,DV.refsL] using hid
 rcases this with h | h
 .exact h1 id h
 .exact h2 id h
def BJ(sl:Tr DV)(L bo:Nat)(W:List (List Int×List (List PVal)))(M:Nat->Prop)(hp:Tr DObj)(nx:Nat):Prop:=
 ∃ z T,hp.get L=some (.loop ⟨33,.t sl,[12,13],AQ,AP,.ready,none⟩)/\hp.get bo=some (.row T [z])/\OL rChange hp (λj=>M j/\j≠L/\j≠bo/\j∉z.refs) z (Rw W)/\(∀ j∈z.refs,M j/\j≠L/\j≠bo)/\M L/\M bo/\L≠bo/\(∀ j,M j->j<nx)/\Ad ⟨sl,.e,0⟩ (.t (.l (.r .o)))=.pt bo 0
theorem BJ.keep{sl:Tr DV}{L bo:Nat}{W:List (List Int×List (List PVal))}{M:Nat->Prop}{hp An:Tr DObj}{nx Bm:Nat}(h:BJ sl L bo W M hp nx)(hn:nx<=Bm)(hk:∀ j,M j->An.get j=hp.get j):BJ sl L bo W M An Bm:=by
 obtain ⟨z,T,h1,h2,h3,h4,h5,h6,h7,h8,h9⟩:=h
 exact ⟨z,T,(hk L h5).trans h1,(hk bo h6).trans h2,h3.keep λj hj=>hk j (hj.elim (λh=>h.1) λh=>(h4 j h).1),h4,h5,h6,h7,λj hj=>Bs (h8 j hj) hn,h9⟩
theorem RL.iaN0{hp:Tr DObj}{p:Nat->Prop}{d:DV}{l:List (List PVal)}(h:RL rK hp p d l)(hi:0<l.length):Qu hp 1 d (.v (.int .i64 0))=some (Bz 1 d 0):=h.ia hi
theorem RL.iaN1{hp:Tr DObj}{p:Nat->Prop}{d:DV}{l:List (List PVal)}(h:RL rK hp p d l)(hi:1<l.length):Qu hp 1 d (.v (.int .i64 1))=some (Bz 1 d 1):=h.ia hi
theorem RL.roaN{hp:Tr DObj}{n0:Nat}{d:DV}{l:List (List PVal)}{n m i:Nat}{an:List Nat}(h:RL rK hp (Bl n0) d l)(hn:n0<=n):Hh (Bz 1 d i) (λid=>Cp n m an hp id)↔True:=Bf (h.roax hn)
theorem Bz5(k:Nat)(hp:Tr DObj)(nx:Nat)(K:DV->Tr DObj->Nat->Prop)(sl:Tr DV)(L bo:Nat)(W:List (List Int×List (List PVal)))(M:Nat->Prop)(a s:DV)(p:List Int)(u v:List PVal)(hJ:BJ sl L bo W M hp nx)(ha:RL rInt hp (λj=>j<nx/\¬ M j) a p)(hs:RL rK hp (λj=>j<nx/\¬ M j) s [u,v])(Nr:p≠[])(Ei:p.length<900000)(hu:u.length<900000)(hv:v.length<900000)(hW:W.length<900000)
  (hK:∀ An Bm M',nx<=Bm->(∀ j,j<nx->¬ M j->An.get j=hp.get j)->(∀ j,M' j->M j\/nx<=j)->BJ sl L bo (W ++ [(p,[u,v])]) M' An Bm->K (bv true) An Bm) :
  KW (kN (k+2)) (.yl L) [a,s] hp nx K:=by
 obtain ⟨z,T,j1,j2,j3,j4,j5,j6,j7,j8,s5⟩:=hJ
 refine nM j1 rfl rfl rfl rfl rfl ?_
 rw [show Dv 1000000 33 true AQ=uc from C18]
 unfold uc
 have tE:∀ hp nx,Ad ⟨Np [12,13] [a,s] sl,hp,nx⟩ (.t (.r (.l (.r .o))))=a:=λhp nx=>by
  show Ad (((ES.mk sl hp nx).putE (some (.r (.l (.r .o)))) a).putE (some (.l (.r (.r .o)))) s) (.t (.r (.l (.r .o))))=a
  simp only [bR]
 have IH:∀ hp nx,Ad ⟨Np [12,13] [a,s] sl,hp,nx⟩ (.t (.l (.r (.r .o))))=s:=λhp nx=>by
  show Ad (((ES.mk sl hp nx).putE (some (.r (.l (.r .o)))) a).putE (some (.l (.r (.r .o)))) s) (.t (.l (.r (.r .o))))=s
  simp only [bR]
 have qR:∀ hp nx,Ad ⟨Np [12,13] [a,s] sl,hp,nx⟩ (.t (.l (.r .o)))=.pt bo 0:=λhp nx=>by
  show Ad (((ES.mk sl hp nx).putE (some (.r (.l (.r .o)))) a).putE (some (.l (.r (.r .o)))) s) (.t (.l (.r .o)))=.pt bo 0
  simp only [bR]
  exact s5
 generalize Np [12,13] [a,s] sl=zz at tE IH qR
 simp only [As,↓Au,tE,IH]
 refine ⟨_,j1,rfl,?_⟩
 rw [show Dv 1000000 33 true AP=ua from C19]
 unfold ua
 obtain ⟨lp,aK⟩:∃ lp:DLoop,lp=⟨33,.t sl,[12,13],AQ,AP,.busy,none⟩:=⟨_,rfl⟩
 have bG:∀ j,j≠L->(hp.set L (some (.loop lp))).get j=hp.get j:=λj hj=>by rw [Tr.get_set,Ae (Eo hj)]
 have pE:(hp.set L (some (.loop lp))).get L=some (.loop lp):=by rw [Tr.get_set,Af rfl]
 have fin:∀ (Cw:Tr DObj) (Dt:Nat) (M':Nat->Prop) (z':DV),nx<=Dt->Cw.get L=some (.loop lp)->Cw.get bo=some (.row T [z'])->OL rChange Cw (λj=>M' j/\j≠L/\j≠bo/\j∉z'.refs) z' (Rw (W ++ [(p,[u,v])]))->(∀ j∈z'.refs,M' j/\j≠L/\j≠bo)->M' L->M' bo->(∀ j,M' j->j<Dt)->(∀ j,j<nx->¬ M j->Cw.get j=hp.get j)->(∀ j,M' j->M j\/nx<=j)->
   K (.v (.bool true)) (Cw.set L (some (.loop { lp with st:=.ready,pend:=none }))) Dt:=by
  intro Cw Dt M' z' q1 q2 q3 q4 q5 q6 q7 q8 q9 q10
  have g1:∀ j,j≠L->(Cw.set L (some (.loop { lp with st:=.ready,pend:=none }))).get j=Cw.get j:=λj hj=>by rw [Tr.get_set,Ae (Eo hj)]
  exact hK _ _ M' q1 (λj hj hm=>by rw [g1 j (λe=>hm (e ▸ j5))];exact q9 j hj hm) q10 ⟨z',T,by rw [Tr.get_set,Af rfl,aK],by rw [g1 bo (Eo j7)];exact q3,q4.keep λj hj=>g1 j (hj.elim (λh=>h.2.1) λh=>(q5 j h).2.1),q5,q6,q7,j7,q8,s5⟩
 rw [<- aK]
 generalize hp.set L (some (.loop lp))=hq at bG pE ⊢
 clear aK
 have kR:∀ j,(j<nx/\¬ M j)->hq.get j=hp.get j:=λj hj=>bG j λe=>hj.2 (e ▸ j5)
 have Ym:=ha.keep (An:=hq) kR
 have Mi:=hs.keep (An:=hq) kR
 have fE:=Mi.mono (q:=Bl nx) λj hj=>hj.1
 obtain ⟨dU,rU,nU,lU⟩:=Mi.atN (show 0 < [u,v].length by simp)
 obtain ⟨dV,rV,nV,lV⟩:=Mi.atN (show 1 < [u,v].length by simp)
 have rU':RL rVal hq (Bl nx) dU u:=rU.mono λj hj=>hj.1
 have YZ:RL rVal hq (Bl nx) dV v:=rV.mono λj hj=>hj.1
 have Q1:hq.get bo=some (.row T [z]):=(bG bo (Eo j7)).trans j2
 simp only [As,↓Au,Mi.iaN0 (by simp),Mi.iaN1 (by simp),lU,lV,fE.rox (Ag _),fE.roaN (Ag _),rU'.rox (Ag _),YZ.rox (Ag _)]
 refine Ly rfl (Uy ?_)
 simp only [bR,Am,Az]
 refine Ci8 (k+1-1) nx _ _ _ dU dV u v (by omega) rU' YZ hu λIt Rf=>?_
 have If:(W ++ [(p,[u,v])]).flatMap Tk=Rw W++Tk (p,[u,v]):=by rw [List.flatMap_append];simp [Rw]
 by_cases c1:u=v
 .have Zb:Rw (W ++ [(p,[u,v])])=Rw W:=by
   show (W ++ [(p,[u,v])]).flatMap Tk=_
   rw [If];unfold Tk;simp only;rw [Af c1,Da]
  simp only [As,↓Au,Ak c1,Rf]
  refine ⟨lp,pE,fin hq It M z (by omega) pE Q1 ?_ j4 j5 j6 (λj hj=>by have:=j8 j hj;omega) (λj _ hm=>bG j λe=>hm (e ▸ j5)) λj hj=>.inl hj⟩
  rw [Zb]
  exact j3.keep λj hj=>bG j (hj.elim (λh=>h.2.1) λh=>(j4 j h).2.1)
 .have Zb:Rw (W ++ [(p,[u,v])])=Rw W ++ [⟨p,v⟩]:=by
   show (W ++ [(p,[u,v])]).flatMap Tk=_
   rw [If];unfold Tk;simp only;rw [Ae c1]
  have LZ:=Ym.mono (q:=Bl nx) λj hj=>hj.1
  have hLn:=j8 L j5
  have kD:=j8 bo j6
  simp only [As,↓Au,Ah c1,Rf,qR,qG Q1,Lp (n0:=It) (m:=11) Q1 (show bo<It by have:=j8 bo j6;omega),LZ.rox (show nx<=It by omega)]
  refine Ly rfl (Uy ?_)
  simp only [bR,Am,Az]
  refine xp k nx _ _ _ a p (by omega) LZ (.inl Nr) (by omega) λKl GL a' Sk M7 fu _=>?_
  have jU:=Sk.le
  have RN:=fE.ka (nx:=It+11) (by omega) Sk
  have EH:=YZ.ka (nx:=It+11) (by omega) Sk
  have ZA:=M7.rlF fu
  have tY:Kl.get bo=some (.row T [z]):=(Sk.same bo (by omega)).trans Q1
  obtain ⟨dV7,EH,nV7,lV7⟩:=RN.atN (show 1 < [u,v].length by simp)
  have EH:RL rVal Kl (Bl nx) dV7 v:=EH
  simp only [As,↓Au,jU,RN.iaN1 (by simp),lV7,RN.rox (show nx<=It by omega),RN.roaN (show nx<=It by omega),EH.rox (show nx<=It by omega)]
  refine Ly rfl (Uy ?_)
  simp only [bR,Am,Az]
  refine Bb3 k nx _ _ _ dV7 v (by omega) EH nV7 (by omega) λKi Pg v' Rg RQ ft _=>?_
  have aL:=Rg.le
  have mS:=RQ.rlF ft
  have mT:=ZA.keep (An:=Ki) λj hj=>Rg.same j hj.2
  have I4:∀ an,Hh a' (λid=>Cp It 11 an Ki id):=λan=>mT.ro' (n:=It) (m:=11) λj hj=>.inr hj.1
  have DZ:∀ an,Hh v' (λid=>Cp It 11 an Ki id):=λan=>mS.ro' (n:=It) (m:=11) λj hj=>.inr (by have:=hj.1;omega)
  have aD:∀ an,Hh (.agg [a',v']) (λid=>Cp It 11 an Ki id):=λan=>Kb (I4 an) (DZ an)
  have qZ:=OO (z:=.slice none 0 0) (w:=.slice none 0 0) mT.ok mS.ok
  simp only [As,↓Au,bP,aL,S9,mT.live,mS.live,qZ,Ca,Bf (I4 _),Bf (DZ _),Bf (aD _)]
  refine PF (fl:=[a',v']) rfl (by simp only [Am,Az,Dc,bR,bP,Wn mT mS];rfl) λLi Qv Ps=>?_
  simp only [bR] at Qv Ps
  have jg:∀ j,j<It->Li.get j=Ki.get j:=λj hj=>Ps j (by omega)
  have KL:∀ j,j<It->Li.get j=hq.get j:=λj hj=>by rw [jg j hj,Rg.same j (by omega),Sk.same j (by omega)]
  have rA9:=mT.keep (An:=Li) λj hj=>Ps j (by have:=hj.1;omega)
  have rB9:=mS.keep (An:=Li) λj hj=>Ps j (by have:=hj.1;omega)
  have j3q:OL rChange hq _ z (Rw W):=j3.keep λj hj=>bG j (hj.elim (λh=>h.2.1) λh=>(j4 j h).2.1)
  have hzM:∀ j,(M j/\j≠L/\j≠bo/\j∉z.refs)\/j∈z.refs->j<nx:=λj hj=>hj.elim (λh=>j8 j h.1) λh=>j8 j (j4 j h).1
  have cq:OL rChange Li _ z (Rw W):=j3q.keep λj hj=>KL j (by have:=hzM j hj;omega)
  have I3:∀ an,Hh z (λid=>Cp It 11 an Li id):=λan=>cq.rl.ro' (n:=It) (m:=11) λj hj=>.inl (by have:=hzM j hj;omega)
  have aDe:=vt W
  simp only [As,↓Au,Bf (I3 _)]
  refine ⟨kY Qv rfl,?_⟩
  refine Ly rfl (eL (R:=rChange) (p:=λj=>M j/\j≠L/\j≠bo/\j∉z.refs) (p2:=Bw (It+11) Pg) (d:=z) (d2:=.ms (It+8) 0 1 2) (l:=Rw W) (m:=[⟨p,v⟩]) (by simp only [bR,bP]) cq (by simp only [Dc,bR,bP];exact Yb Qv) (T6 (R:=rChange) (x:=⟨p,v⟩) Qv (rChange_rd.2 ⟨a',v',rfl,rA9.mono λj hj=>⟨hj.1,by have:=hj.2;omega⟩,rB9.mono λj hj=>⟨by have:=hj.1;omega,hj.2⟩⟩)) rfl rfl (by rw [Bk];omega) (by decide) λKd Lx Q9=>?_)
  simp only [bR] at Lx Q9
  have tC:∀ j∈z.refs,j<nx:=λj hj=>j8 j (j4 j hj).1
  have J3:=Q9 (λj=>(M j\/(nx<=j/\j<Pg))/\j≠L/\j≠bo/\j∉z.refs) (λj hj=>by
   rcases hj with hj | hj
   .exact ⟨⟨.inl hj.1,hj.2⟩,by have:=j8 j hj.1;omega,hj.2.2.2⟩
   .have h1:=hj.1
    have h2:=hj.2
    exact ⟨⟨.inr ⟨by omega,h2⟩,by omega,by omega,λh=>by have:=tC j h;omega⟩,by omega,λh=>by have:=tC j h;omega⟩)
  have ly:Li.get bo=some (.row T [z]):=(KL bo (by omega)).trans Q1
  have zX:Kd.get bo=some (.row T [z]):=(Lx bo (by omega) λh=>(j4 bo h).2.2 rfl).trans ly
  obtain ⟨_,_,og,lK,_⟩:=J3.get
  have YX:∀ an,Cp It 11 an Kd Pg=true:=λan=>(rX Kd Pg).2 ⟨by rw [lK];rfl,.inr (.inl (by omega))⟩
  simp only [As,↓Au,qR,Lp (n0:=It) (m:=11) zX (show bo<It by omega),YX _,Nat.le_succ]
  refine Ly rfl (lS (id:=bo) (off:=0) (by simp only [bR,qR]) zX (by simp only [Ha,bR];exact Yb lK) (bO _ _ _ _) (by simp) λNq oT Tc=>?_)
  simp only [bR] at oT Tc
  simp only [As,↓Au]
  have w7:∀ j,j<nx->¬ M j->Kl.get j=hq.get j:=λj hj _=>Sk.same j (by omega)
  have w8:∀ j,j<nx->¬ M j->Ki.get j=hq.get j:=λj hj hm=>by rw [Rg.same j (by omega),w7 j hj hm]
  have w9:∀ j,j<nx->¬ M j->Li.get j=hq.get j:=λj hj hm=>KL j (by omega)
  have WD:∀ j,j<nx->¬ M j->Kd.get j=hq.get j:=λj hj hm=>by rw [Lx j (by omega) (λh=>hm (j4 j h).1),w9 j hj hm]
  have w11:∀ j,j<nx->¬ M j->Nq.get j=hq.get j:=λj hj hm=>by rw [Tc j (λe=>hm (e ▸ j6)),WD j hj hm]
  have Gy:∀ q∈[(⟨10,[9,0,1,2,3,4,5,6,7,8],Kd,Nq⟩:Past),⟨9,[0,8,6,7,2,1,5,4,3],Li,Kd⟩,⟨6,[5,2,4,3,1],Kl,Ki⟩,⟨2,[1],hq,Kl⟩],(∀ j,(j<nx/\¬ M j)->q.a.get j=hq.get j)/\∀ j,(j<nx/\¬ M j)->q.b.get j=hq.get j:=by
   intro q nY
   simp only [Ap,Cm,or_false] at nY
   rcases nY with rfl | rfl | rfl | rfl
   .exact ⟨λj hj=>WD j hj.1 hj.2,λj hj=>w11 j hj.1 hj.2⟩
   .exact ⟨λj hj=>w9 j hj.1 hj.2,λj hj=>WD j hj.1 hj.2⟩
   .exact ⟨λj hj=>w7 j hj.1 hj.2,λj hj=>w8 j hj.1 hj.2⟩
   .exact ⟨λj hj=>rfl,λj hj=>w7 j hj.1 hj.2⟩
  have Hj:∀ c∈[z],Nk 6 c c=true:=λc hc=>by rw [Aj.1 hc];exact cq.rl.same (by decide)
  have ma:Ki.get bo=some (.row T [z]):=(Rg.same bo (by omega)).trans tY
  refine ⟨AU Mi (λj hj=>by have:=hj.1;omega) Gy (uV _ _ _) (AU Mi (λj hj=>by have:=hj.1;omega) Gy (λ_ h=>h) (AU Mi (λj hj=>by have:=hj.1;omega) Gy (λ_ h=>h) (rT (λj hj=>?_) (OU _ _ _)))),lp,?_,?_⟩
  .have hj:j=bo:=by simpa [DV.refs] using hj
   subst hj
   refine ⟨by omega,λq nY=>?_⟩
   simp only [Ap,Cm,or_false] at nY
   rcases nY with rfl | rfl | rfl | rfl
   .exact .inl rfl
   .exact .inl rfl
   .exact .inr (.inr (by rw [Af rfl];exact PR tY (ma.trans tY.symm) Hj))
   .exact .inr (.inr (by rw [Af rfl];exact PR Q1 (tY.trans Q1.symm) Hj))
  .rw [Tc L j7,Lx L (by omega) (λh=>(j4 L h).2.1 rfl),KL L (by omega)]
   exact pE
  .refine fin Nq (Pg+1) (λj=>M j\/(nx<=j/\j<Pg+1)) (.ms Pg 0 (Rw W ++ [(⟨p,v⟩:PCell)]).length 2) (by omega) ?_ ?_ ?_ ?_ (.inl j5) (.inl j6) ?_ ?_ ?_
   .rw [Tc L j7,Lx L (by omega) (λh=>(j4 L h).2.1 rfl),KL L (by omega)]
    exact pE
   .exact oT
   .rw [Zb]
    have bg:=J3.keep (An:=Nq) λj hj=>Tc j (by
     rcases hj with hj | hj
     .exact hj.2.2.1
     .have:j=Pg:=by simpa [DV.refs] using hj
      omega)
    refine OL.mono bg λj hj=>?_
    refine ⟨hj.1.imp id (λh=>And.intro h.1 (Nat.lt_succ_of_lt h.2)),hj.2.1,hj.2.2.1,λh=>?_⟩
    have h:j=Pg:=by simpa [DV.refs] using h
    rcases hj.1 with h2 | h2
    .have:=j8 j h2;omega
    .have:=h2.2;omega
   .intro j hj
    have:j=Pg:=by simpa [DV.refs] using hj
    exact ⟨.inr ⟨by omega,by omega⟩,by omega,by omega⟩
   .intro j hj
    rcases hj with h | h
    .have:=j8 j h;omega
    .exact h.2
   .intro j hj hm
    rw [w11 j hj hm]
    exact bG j λe=>hm (e ▸ j5)
   .exact λj hj=>hj.imp id λh=>h.1
end Go.DD

/- Contracts: the program's Delta. Conditions: those that each theorem states. -/
namespace Go.DD
open Go Go.Proofs
theorem Rows.two{R:Rep (List PCell)}{hp:Tr DObj}{p:Nat->Prop}{a b:DV}{x y:List PCell}(h1:R.rd hp p [a] x)(h2:R.rd hp p [b] y):Rows R hp p [a,b] [x,y]:=⟨[a],[b],rfl,h1,[b],[],rfl,h2,rfl⟩
theorem Cj3{z:Value}{a b:DV}(h1:a.okC=true/\a.cells=[a])(h2:b.okC=true/\b.cells=[b]):Ho (List.replicate 2 ([z].map DV.v)).flatten [(0,1,a),(1,1,b)]=some [a,b]:=by
 simp [Ho,h1.1,h1.2,h2.1,h2.2]
theorem F6{x:PArr}(h:Mf x=0):∀ c∈x.cells,c.vals≠[]:=λc hc he=>by
 have h1:=(jC h).2.1 c hc
 have h2:=(jC h).2.2
 have h3:c.vals.length=x.attrs.length:=by
  unfold Hb at h1
  split at h1
  .cases h1
  .rename_i h3;omega
 have h4:x.attrs.length=0:=by rw [<- h3,he];rfl
 unfold iY at h2
 split at h2
 .rename_i h5;exact h5 h2
 .rw [Af (Or.inl (show x.attrs.length<1 by omega))] at h2;cases h2
section
variable (k n0:Nat) (hp:Tr DObj) (nx:Nat) (K:DV->Tr DObj->Nat->Prop)
theorem Cr8(d:DV)(hd:d.okC=true/\d.cells=[d])(hl:Cg hp d=d)(hK:∀ An,An.get nx=some (.row 201 [d])->(∀ j,j≠nx->An.get j=hp.get j)->K (.fn (.func 138) [.tup [],.pt nx 0]) An (nx+1)):KW (kN (k+1)) (.fn 68) [d] hp nx K:=by
 refine Es (Hl (by decide)) t68 (Ab rfl) λes e1 e2 he=>?_
 have a0:Ad es (.t .o)=d:=he 0 _ rfl
 unfold r68
 subst e1 e2
 simp only [↓Au]
 refine AV (v:=d) (by simp only [Ha,a0,hl]) hd λEi Dn Dd=>?_
 simp only [bR] at Dn Dd
 simp only [As,↓Au,bP]
 have e1:Cg Ei (.pt es.nx 0)=.pt es.nx 0:=Wm λid hid=>by
  have:id=es.nx:=by simpa [DV.refs] using hid
  rw [this,Dn];rfl
 rw [e1]
 have e2:Cg Ei (.fn (.func 138) [.tup [],.pt es.nx 0])=.fn (.func 138) [.tup [],.pt es.nx 0]:=Wm λid hid=>by
  have:id=es.nx:=by simpa [DV.refs,DV.refsL] using hid
  rw [this,Dn];rfl
 rw [e2]
 exact hK _ Dn Dd
theorem C35{Ai:ES}{Q:Exit->ES->Prop}(bo:Nat)(l m:List PCell)(hn:n0<=bo)(hb:Ai.nx=bo+3)(If:RL rCells Ai.hp (λj=>j<n0\/j=bo+1) (.ms (bo+1) 0 2 1) [l,m])(hl:l.length+m.length<=1024)
  (hc:∀ c,c∈l\/c∈m->c.pos≠[]/\c.pos.length<900000/\c.vals≠[]/\c.vals.length<900000)
  (jr:Ai.hp.get bo=some (.row 109 [Cb])) (Kv:Ai.hp.get (bo+1+1)=some (.row 201 [.ms (bo+1) 0 2 1])) (b5:Ad Ai (.t (.l (.r .o)))=.pt bo 0) (b11:Ad Ai (.t (.l (.l (.r .o))))=.fn (.func 138) [.tup [],.pt (bo+1+1) 0])
  (hQ:∀ An Bm z T,Ai.nx<=Bm->(∀ j,j<bo->An.get j=Ai.hp.get j)->An.get bo=some (.row T [z])->RL rChange An (Bw bo Bm) z (Rw (Hf [l,m]))->Q .normal ⟨Ai.sl,An,Bm⟩) :
  EW (cR 33 false (.t (.l (.l (.r .o)))) [12,13] AQ AP) (kN (k+5)) Ai Q:=by
 have nP:Wg [l,m]=l.length+m.length:=by simp [Wg]
 have dm:=λw (hw:w∈Hf [l,m])=>B99 (n:=Wg [l,m]) (hs:=[l,m]) w hw
 have lE:(Hf [l,m]).length<=1024:=Dz xn (by omega)
 have Nj:∀ h∈[l,m],∀ c∈h,c∈l\/c∈m:=λh hh c Xm=>by
  simp only [Ap,Cm,or_false] at hh
  rcases hh with rfl | rfl
  .exact .inl Xm
  .exact .inr Xm
 have Iq:∀ (x:Option DObj) j,j≠bo+3->(Ai.hp.set (bo+3) x).get j=Ai.hp.get j:=λx j hj=>by rw [Tr.get_set,Ae (Eo hj)]
 refine Cg7 (f:=138) (cs:=[.pt (bo+1+1) 0]) ?_ ?_
 .rw [Ha,b11]
  exact Wm λid hid=>by
   have:id=bo+1+1:=by simpa [DV.refs,DV.refsL] using hid
   rw [this,Kv];rfl
 .rw [hb]
  refine B98 k (bo+3) (bo+1+1) 201 (.ms (bo+1) 0 2 1) [l,m] (λj=>j<n0\/j=bo+1) (BJ Ai.sl (bo+3) bo) (λ_ _ _ _=>False) (λj=>j=bo+3\/j=bo) _ _ _ ((Iq _ _ (by omega)).trans Kv) (If.keep λj hj=>Iq _ j (by rcases hj with h | h <;> omega)) (λj hj=>by rcases hj with h | h <;> exact ⟨by omega,by omega⟩) (by simp) (by simp) (λh hh c Km=>by obtain ⟨h1,h2,h3,h4⟩:=hc c (Nj h hh c Km);exact ⟨h1,h2,h3⟩) (by omega) ?_ ?_ ?_ ?_ ?_ ?_ ?_
  .exact ⟨Cb,109,by rw [Tr.get_set,Af rfl],by rw [Iq _ _ (by omega)];exact jr,.nil,λj hj=>by (cases hj),.inl rfl,.inr rfl,by omega,λj hj=>by rcases hj with h | h <;> omega,b5⟩
  .exact λW M hp nx ⟨z,T,h1,h2,h3,h4,h5,h6,h7,h8,h9⟩=>h8
  .exact λW M hp nx ⟨z,T,h1,h2,h3,h4,h5,h6,h7,h8,h9⟩=>⟨h5,_,h1⟩
  .exact λW M hp nx An Bm h hn hk=>h.keep hn λj hj=>hk j (.inl hj)
  .intro W M hp nx a s p vZ K hJ Ul ha hs qT We hKt _
   have Lw:(p,vZ)∈Hf [l,m]:=Ul.subset (by simp)
   obtain ⟨g1,⟨h,hh,c,Km,g2⟩,g3⟩:=dm _ Lw
   obtain ⟨u,v,rfl⟩:∃ u v,vZ=[u,v]:=by
    match vZ,g1 with
    | [u,v],_=>exact ⟨u,v,rfl⟩
   have g2:c.pos=p:=g2
   have gW:=hc c (Nj h hh c Km)
   have Sg:∀ x∈[u,v],x.length<900000:=λx hx=>by
    rcases g3 x hx with rfl | ⟨h,hh,c,Km,rfl⟩
    .simp
    .exact (hc c (Nj h hh c Km)).2.2.2
   refine Bz5 (k+2) hp nx K _ _ _ W M a s p u v hJ (ha.mono We) (hs.rl.mono λj hj=>hj.elim (We j) (qT j)) (by rw [<- g2];exact gW.1) (by rw [<- g2];exact gW.2.1) (Sg u (by simp)) (Sg v (by simp)) ?_ hKt
   have:=Ul.length_le
   rw [Ao] at this
   omega
  .intro An Bm M' JS Xl W9 ⟨z,T,g1,g2,g3,g4,g5,g6,g7,g8,g9⟩
   have aI:∀ j,j≠bo+3->(An.set (bo+3) none).get j=An.get j:=λj hj=>by rw [Tr.get_set,Ae (Eo hj)]
   refine ⟨_,g1,by simp,.inl ⟨rfl,?_⟩⟩
   have gb:(An.set (bo+3) none).get bo=some (.row T [z]):=(aI _ (by omega)).trans g2
   have o':=g3.keep (An:=An.set (bo+3) none) λj hj=>aI j (hj.elim (λh=>h.2.1) λh=>(g4 j h).2.1)
   have Gi:∀ j,M' j->bo<=j:=λj hj=>by rcases W9 j hj with (h | h) | h <;> omega
   have r':RL rChange (An.set (bo+3) none) (Bw bo Bm) z (Rw (Hf [l,m])):=o'.rl.mono λj hj=>⟨Gi j (hj.elim (λh=>h.1) λh=>(g4 j h).1),g8 j (hj.elim (λh=>h.1) λh=>(g4 j h).1)⟩
   refine hQ _ _ z T (by omega) (λj hj=>?_) gb r'
   rw [aI j (by omega),Xl j (by omega) (by omega),Iq _ j (by omega)]
  .exact λ_ _ _ _ _ _ _ h=>h.elim
theorem yj(d1 d2:DV)(l m:List PCell)(hn:n0<=nx)(h1:RL rCell hp (Bl n0) d1 l)(h2:RL rCell hp (Bl n0) d2 m)(hl:l.length+m.length<=1024)
  (hc:∀ c,c∈l\/c∈m->c.pos≠[]/\c.pos.length<900000/\c.vals≠[]/\c.vals.length<900000)
  (hK:∀ An Bm d',Al hp nx An Bm->RL rChange An (Bw nx Bm) d' (Rw (Hf [l,m]))->K d' An Bm):KW (kN (k+6)) (.fn 81) [d1,d2] hp nx K:=by
 refine Es (Hl (by decide)) t81 (Ab rfl) λes e1 e2 he=>?_
 have a0:Ad es (.t .o)=d1:=he 0 _ rfl
 have a1:Ad es (.t (.l .o))=d2:=he 1 _ rfl
 unfold r81
 subst e1 e2
 simp only [As,↓Au]
 refine Rz λEi Dn Dd=>?_
 simp only [bR] at Dn Dd
 have q1:=h1.keep λj (hj:j<n0)=>Dd j (by omega)
 have q2:=h2.keep λj (hj:j<n0)=>Dd j (by omega)
 simp only [As,↓Au,a0,a1]
 refine eK (fl:=[d1,d2]) rfl (by simp only [Am,Az,Dc,bR,bP,q1.live,q2.live];exact Cj3 q1.ok q2.ok) λCw Fw Fa=>?_
 simp only [bR] at Fw Fa
 have q1':=q1.keep λj (hj:j<n0)=>Fa j (by omega)
 have q2':=q2.keep λj (hj:j<n0)=>Fa j (by omega)
 have If:RL rCells Cw (λj=>j<n0\/j=es.nx+1) (.ms (es.nx+1) 0 2 1) [l,m]:=(OL.ms (R:=rCells) (p:=Bl n0) (es.nx+1) _ [l,m] Fw (Rows.two ⟨_,rfl,q1'⟩ ⟨_,rfl,q2'⟩)).rl.mono λj hj=>hj.imp id λh=>by simpa [DV.refs] using h
 simp only [As,↓Au]
 refine Fh (Cr8 (k+4) _ _ _ _ ⟨rfl,rfl⟩ If.live λGn Kv Hy=>?_)
 have mb:Gn.get es.nx=some (.row 109 [Cb]):=by rw [Hy _ (by omega),Fa _ (by omega)];exact Dn
 have JD:=If.keep (An:=Gn) λj hj=>Hy j (by rcases hj with h | h <;> omega)
 simp only [As,↓Au]
 refine C35 k n0 es.nx l m hn rfl JD hl hc mb Kv (by simp only [bR]) (by simp only [bR]) λFq Ma z T jR Up O4 jM=>?_
 simp only [As,↓Au,bP,qG O4,jM.live]
 refine hK _ _ z ⟨by simp only [] at jR;omega,λj hj=>?_⟩ jM
 rw [Up j hj]
 simp only []
 rw [Hy j (by omega),Fa j (by omega),Dd j (by omega)]
end
end Go.DD

/- The program's difference and the reference's are the same, in plain Lean. -/
namespace Go.DD
open Go Go.Proofs
def Srt(l:List PCell):Prop:=l.Pairwise (λx y=>Cs x.pos y.pos = -1)
theorem Bb5{hs:List (List PCell)} : ∀ {a:Option (List Int)},Iu a hs=none->a=none/\∀ h∈hs,h=[]:=by
 induction hs with
 | nil=>intro a h;exact ⟨h,λh hh=>by cases hh⟩
 | cons h hs ih=>
  intro a e
  cases h with
  | nil=>
   have e':Iu a hs=none:=by cases a <;> exact e
   obtain ⟨h1,h2⟩:=ih e'
   exact ⟨h1,λh hh=>(Ap.1 hh).elim (λh=>h) (h2 h)⟩
  | cons c t=>
   cases a with
   | none=>exact absurd (ih e).1 (by simp)
   | some q=>
    unfold Iu at e
    split at e
    .exact absurd (ih e).1 (by simp)
    .exact absurd (ih e).1 (by simp)
theorem eO(p:List Int):Cs p p=0:=cmpL_0.2 rfl
theorem Ca0{hs:List (List PCell)} : ∀ {a:Option (List Int)} {p:List Int},Iu a hs=some p->(∀ q,a=some q->q=p\/Cs p q = -1)/\∀ c t,(c::t)∈hs->c.pos=p\/Cs p c.pos = -1:=by
 induction hs with
 | nil=>intro a p h;exact ⟨λq hq=>.inl (by rw [show a=some p from h] at hq;exact (Hc hq).symm),λc t h=>by cases h⟩
 | cons h hs ih=>
  intro a p e
  cases h with
  | nil=>
   have e':Iu a hs=some p:=by cases a <;> exact e
   obtain ⟨h1,h2⟩:=ih e'
   exact ⟨h1,λc t hh=>(Ap.1 hh).elim (λh=>by cases h) (h2 c t)⟩
  | cons c t=>
   cases a with
   | none=>
    obtain ⟨h1,h2⟩:=ih (show Iu (some c.pos) hs=some p from e)
    refine ⟨λq hq=>by (cases hq),λc' t' hh=>?_⟩
    rcases Ap.1 hh with h | h
    .cases h;exact h1 _ rfl
    .exact h2 c' t' h
   | some q=>
    unfold Iu at e
    split at e
    .rename_i Et
     obtain ⟨h1,h2⟩:=ih e
     have h3:=h1 _ rfl
     refine ⟨λq' hq=>?_,λc' t' hh=>?_⟩
     .cases hq
      rcases h3 with h3 | h3
      .rw [<- h3];exact .inr Et
      .exact .inr (mC h3 Et)
     .rcases Ap.1 hh with h | h
      .cases h;exact h3
      .exact h2 c' t' h
    .rename_i Et
     obtain ⟨h1,h2⟩:=ih e
     have h3:=h1 _ rfl
     refine ⟨λq' hq=>by cases hq;exact h3,λc' t' hh=>?_⟩
     rcases Ap.1 hh with h | h
     .cases h
      rcases kZ c.pos q with h4 | h4 | h4
      .exact absurd h4 Et
      .rw [cmpL_0.1 h4];exact h3
      .have h5:Cs q c.pos = -1:=by rw [uU];omega
       rcases h3 with h3 | h3
       .rw [<- h3];exact .inr h5
       .exact .inr (mC h3 h5)
     .exact h2 c' t' h
theorem Srt.tail{c:PCell}{t:List PCell}(h:Srt (c::t)):Srt t:=(Eg.1 h).2
theorem Srt.rs{p:List Int}{h:List PCell}(hs:Srt h):Srt (Sm p h):=by
 cases h with
 | nil=>exact hs
 | cons c t=>
  rw [Ro]
  split
  .exact hs.tail
  .exact hs
theorem Bq1{l:List PCell}{p:List Int}(h:∀ c∈l,c.pos≠p):Sp l p=[]:=Bp9 λj hj=>h _ (Be hj)
theorem Bb6(c:PCell)(t:List PCell)(p:List Int):Sp (c::t) p=if c.pos=p then c.vals else Sp t p:=by
 unfold Sp
 rw [List.find?_cons]
 by_cases h:c.pos=p
 .rw [Af h,Ak h]
 .rw [Ae h,Ah h]
theorem gQ{p q:List Int}(h:Cs p q = -1):p≠q:=λe=>by rw [e,eO] at h;cases h
theorem Cj4{p:List Int}{h:List PCell}(hs:Srt h)(hm:∀ c t,h=c::t->c.pos=p\/Cs p c.pos = -1):∀ c∈Sm p h,Cs p c.pos = -1:=by
 cases h with
 | nil=>intro c hc;cases hc
 | cons a t=>
  intro c hc
  obtain ⟨h1,h2⟩:=Eg.1 hs
  rw [Ro] at hc
  rcases hm a t rfl with h3 | h3
  .rw [Af h3] at hc
   rw [<- h3];exact h1 c hc
  .rw [Ae λe=>gQ h3 e.symm] at hc
   rcases Ap.1 hc with rfl | hc
   .exact h3
   .exact mC h3 (h1 c hc)
theorem Bz6{p:List Int}{h:List PCell}(hs:Srt h)(hm:∀ c t,h=c::t->c.pos=p\/Cs p c.pos = -1):aY p h=Sp h p:=by
 have hg:=Cj4 hs hm
 cases h with
 | nil=>rfl
 | cons a t=>
  rw [gJ,Bb6]
  by_cases e:a.pos=p
  .rw [Af e,Af e]
  .rw [Ae e,Ae e]
   rw [Ro,Ae e] at hg
   exact (Bq1 λc hc=>(gQ (hg c (Bh _ hc))).symm).symm
theorem Bz7{p q:List Int}(h:List PCell)(hq:q≠p):Sp (Sm p h) q=Sp h q:=by
 cases h with
 | nil=>rfl
 | cons a t=>
  rw [Ro]
  by_cases e:a.pos=p
  .rw [Af e,Bb6,Ae λe2=>hq (by rw [<- e2,e])]
  .rw [Ae e]
theorem Bq2{n:Nat} : ∀ {hs:List (List PCell)},(∀ h∈hs,Srt h)->Wg hs<=n->(Jz n hs).Pairwise (λa b=>Cs a.1 b.1 = -1)/\(∀ p,(∃ w∈Jz n hs,w.1=p)↔∃ h∈hs,∃ c∈h,c.pos=p)/\∀ w∈Jz n hs,w.2=hs.map λh=>Sp h w.1:=by
 induction n with
 | zero=>
  intro hs hS ht
  cases e:Iu none hs with
  | none=>
   rw [VJ e]
   refine ⟨.nil,λp=>⟨λ⟨w,h,_⟩=>(by cases h),λ⟨h,hh,c,hc,_⟩=>?_⟩,λw h=>by cases h⟩
   rw [(Bb5 e).2 h hh] at hc;cases hc
  | some p=>obtain ⟨m,h,_⟩:=vu ht e;omega
 | succ n ih=>
  intro hs hS ht
  cases e:Iu none hs with
  | none=>
   rw [VJ e]
   refine ⟨.nil,λp=>⟨λ⟨w,h,_⟩=>(by cases h),λ⟨h,hh,c,hc,_⟩=>?_⟩,λw h=>by cases h⟩
   rw [(Bb5 e).2 h hh] at hc;cases hc
  | some p=>
   obtain ⟨m,hm,Wi,hw⟩:=vu ht e
   obtain rfl:m=n:=by omega
   have Vz:=(Ca0 e).2
   have hmh:∀ h∈hs,∀ c t,h=c::t->c.pos=p\/Cs p c.pos = -1:=λh hh c t he=>Vz c t (he ▸ hh)
   have MB:∀ h∈hs.map (Sm p),Srt h:=λh hh=>by
    obtain ⟨h',zQ,rfl⟩:=Bn.1 hh
    exact (hS h' zQ).rs
   obtain ⟨i1,i2,i3⟩:=ih MB Wi
   have RZ:∀ w∈Jz m (hs.map (Sm p)),Cs p w.1 = -1:=λw qS=>by
    obtain ⟨h,hh,c,hc,h2⟩:=(i2 w.1).1 ⟨w,qS,rfl⟩
    obtain ⟨h',zQ,rfl⟩:=Bn.1 hh
    rw [<- h2]
    exact Cj4 (hS h' zQ) (hmh h' zQ) c hc
   rw [hw]
   refine ⟨.cons RZ i1,λq=>⟨λ⟨w,qS,hq⟩=>?_,λ⟨h,hh,c,hc,hq⟩=>?_⟩,λw qS=>?_⟩
   .rcases Ap.1 qS with rfl | qS
    .obtain ⟨c,t,h1,h2⟩:=(yz e).elim (λh=>by cases h) id
     exact ⟨_,h1,c,by simp,h2.trans hq⟩
    .obtain ⟨h,hh,c,hc,h2⟩:=(i2 q).1 ⟨w,qS,hq⟩
     obtain ⟨h',zQ,rfl⟩:=Bn.1 hh
     exact ⟨h',zQ,c,VK hc,h2⟩
   .by_cases hp:q=p
    .exact ⟨_,Ct,hp.symm⟩
    .have Km:c∈Sm p h:=by
      cases h with
      | nil=>cases hc
      | cons a t=>
       rw [Ro]
       split
       .rename_i ha
        rcases Ap.1 hc with rfl | hc
        .exact absurd (hq.symm.trans ha) hp
        .exact hc
       .exact hc
     obtain ⟨w,h1,h2⟩:=(i2 q).2 ⟨_,Bn.2 ⟨h,hh,rfl⟩,c,Km,hq⟩
     exact ⟨w,Bh _ h1,h2⟩
   .rcases Ap.1 qS with rfl | qS
    .exact El λh hh=>Bz6 (hS h hh) (hmh h hh)
    .rw [i3 w qS,List.map_map]
     exact El λh hh=>Bz7 h λe=>gQ (RZ w qS) e.symm
theorem Bz8{a b c:List Int}(h1:Cs a b≠1)(h2:Cs b c≠1):Cs a c≠1:=by
 rcases kZ a b with h | h | h
 .rcases kZ b c with g | g | g
  .rw [mC h g];decide
  .rw [<- cmpL_0.1 g,h];decide
  .exact absurd g h2
 .rw [cmpL_0.1 h];exact h2
 .exact absurd h h1
end Go.DD
