/- The walk over several sorted cell lists at once, in plain Lean; rows of slices are stored into. -/
import Derived.Test.YtnphfnhhpcelbaaGreatYk
namespace Go.DD
set_option linter.unusedSectionVars false
set_option linter.unusedVariables false
open Go Go.Proofs
def minF:Option (List Int)→List (List PCell)→Option (List Int)
 | a,[]=>a
 | a,[] :: hs=>minF a hs
 | none,(c :: _) :: hs=>minF (some c.pos) hs
 | some p,(c :: _) :: hs=>if cmpL c.pos p = -1 then minF (some c.pos) hs else minF (some p) hs
def stA (p:List Int):List PCell→List PVal
 | []=>[]
 | c :: _=>if c.pos=p then c.vals else []
def rsA (p:List Int):List PCell→List PCell
 | []=>[]
 | c :: t=>if c.pos=p then t else c :: t
theorem rsA_c (p:List Int) (c:PCell) (t:List PCell):rsA p (c :: t)=if c.pos=p then t else c :: t:=rfl
theorem stA_c (p:List Int) (c:PCell) (t:List PCell):stA p (c :: t)=if c.pos=p then c.vals else []:=rfl
def walkF:Nat→List (List PCell)→List (List Int×List (List PVal))
 | 0,_=>[]
 | n+1,hs=>match minF none hs with
  | none=>[]
  | some p=>(p,hs.map (stA p)) :: walkF n (hs.map (rsA p))
def tot (hs:List (List PCell)):Nat:=(hs.map List.length).sum
def walkL (hs:List (List PCell)):List (List Int×List (List PVal)):=walkF (tot hs) hs
theorem A19 {hs:List (List PCell)} : ∀ {a:Option (List Int)} {p:List Int},minF a hs=some p→a=some p∨∃ c t,(c :: t)∈hs∧c.pos=p:=by
 induction hs with
 | nil=>intro a p h; exact .inl h
 | cons h hs ih=>
  intro a p e
  have up:(∃ c t,(c :: t)∈hs∧c.pos=p)→∃ c t,(c :: t)∈h :: hs∧c.pos=p:=fun ⟨c,t,h1,h2⟩=>⟨c,t,List.mem_cons_of_mem _ h1,h2⟩
  cases h with
  | nil=>cases a <;> exact (ih e).imp id up
  | cons c t=>
   have here:some c.pos=some p→∃ c2 t2,(c2 :: t2)∈(c :: t) :: hs∧c2.pos=p:=fun h=>⟨c,t,by simp,by simpa using h⟩
   cases a with
   | none=>exact .inr ((ih e).elim here up)
   | some q=>
    unfold minF at e
    split at e
    ·exact .inr ((ih e).elim here up)
    ·exact (ih e).imp id up
theorem Bp4 (p:List Int) (h:List PCell):(rsA p h).length≤h.length:=by
 cases h with
 | nil=>simp [rsA]
 | cons c t=>rw [rsA_c]; split <;> simp
theorem Cj0 (p:List Int) (hs:List (List PCell)):tot (hs.map (rsA p))≤tot hs:=by
 induction hs with
 | nil=>simp [tot]
 | cons h hs ih=>
  have:=Bp4 p h
  unfold tot at ih ⊢
  simp only [List.map_cons,List.sum_cons]
  omega
theorem Cj1 {p:List Int} {hs:List (List PCell)} {c:PCell} {t:List PCell} (h:(c :: t)∈hs) (hc:c.pos=p):tot (hs.map (rsA p)) < tot hs:=by
 induction hs with
 | nil=>cases h
 | cons a hs ih=>
  have h1:=Bp4 p a
  have h2:=Cj0 p hs
  unfold tot at ih h2 ⊢
  simp only [List.map_cons,List.sum_cons]
  rcases List.mem_cons.1 h with rfl | h
  ·have:(rsA p (c :: t)).length=t.length:=by rw [rsA_c,if_pos hc]
   simp only [List.length_cons] at *
   omega
  ·have:=ih h
   omega
theorem A20 {p:List Int} {h:List PCell} {c:PCell} (hc:c∈rsA p h):c∈h:=by
 cases h with
 | nil=>exact hc
 | cons a t=>
  rw [rsA_c] at hc
  split at hc
  ·exact List.mem_cons_of_mem _ hc
  ·exact hc
theorem A81 {n:Nat} {hs:List (List PCell)} {p:List Int} (hn:tot hs≤n) (h:minF none hs=some p):∃ m,n=m+1∧tot (hs.map (rsA p))≤m∧walkF n hs=(p,hs.map (stA p)) :: walkF m (hs.map (rsA p)):=by
 obtain ⟨c,t,h1,h2⟩:=(A19 h).elim (fun h=>by cases h) id
 have hlt:=Cj1 h1 h2
 obtain ⟨m,rfl⟩:∃ m,n=m+1:=⟨n - 1,by omega⟩
 refine ⟨m,rfl,by omega,?_⟩
 show (match minF none hs with
  | none=>[]
  | some p=>(p,hs.map (stA p)) :: walkF m (hs.map (rsA p)))=_
 rw [h]
theorem A21 {n:Nat} {hs:List (List PCell)} (h:minF none hs=none):walkF n hs=[]:=by
 cases n with
 | zero=>rfl
 | succ n=>
  show (match minF none hs with
   | none=>[]
   | some p=>(p,hs.map (stA p)) :: walkF n (hs.map (rsA p)))=_
  rw [h]
theorem Rows.set1 {α:Type} {R:Rep α} {T:Nat} {hd:R.dep+1≤6} {hp:Tr DObj} {p:Nat→Prop} {v:DV} {x:List α} (hv:RL R hp p v x):∀ {l:List (List α)} {fl:List DV} (i:Nat),Rows (rList R T hd) hp p fl l→Rows (rList R T hd) hp p (fl.set i v) (l.set i x)
 | [],_,_,h=>by cases h; exact rfl
 | _ :: l,_,0,⟨a,b,e,⟨d,h1,h2⟩,h3⟩=>by subst e h1; exact ⟨[v],b,rfl,⟨v,rfl,hv⟩,h3⟩
 | _ :: l,_,i+1,⟨a,b,e,⟨d,h1,h2⟩,h3⟩=>by subst e h1; exact ⟨[d],_,rfl,⟨d,rfl,h2⟩,h3.set1 hv i⟩
def Ao5 {α:Type} (R:Rep α) (T:Nat) (hd:R.dep+1≤6:=by decide):Rep (List α) where
 e:=1
 T:=T
 dep:=R.dep+1
 rd hp p ds l:=∃ d,ds=[d]∧RL R hp p d l∧Nn d l
 cells l:=[.sl (l.flatMap R.cells) l.length]
 e0:=Nat.one_pos
 d6:=hd
 len:=fun ⟨_,h,_⟩=>by rw [h]; rfl
 keep:=fun ⟨d,h,h2,h3⟩ hk=>⟨d,h,h2.keep hk,h3⟩
 mono:=fun ⟨d,h,h2,h3⟩ hk=>⟨d,h,h2.mono hk,h3⟩
 refs:=fun ⟨d,h,h2,_⟩ id hi=>by
  subst h
  exact h2.refs id (by simpa [DV.refsL] using hi)
 pure:=fun _ _ l=>⟨_,rfl,.sl l,by cases l with | nil=>exact .inr (.inr rfl) | cons a l=>exact .inl (by simp)⟩
 ok:=fun ⟨d,h,h2,_⟩ c hc=>by
  subst h
  obtain rfl:=List.mem_singleton.1 hc
  exact h2.ok
 same:=fun ⟨d,h,h2,_⟩ c hc n hn=>by
  subst h
  obtain rfl:=List.mem_singleton.1 hc
  exact h2.same hn
 samec:=fun l c hc n hn=>by
  obtain rfl:=List.mem_singleton.1 hc
  exact (RL.sl (R:=R) (hp:=.e) (p:=fun _=>True) l).same hn
theorem Rows.set1N {α:Type} {R:Rep α} {T:Nat} {hd:R.dep+1≤6} {hp:Tr DObj} {p:Nat→Prop} {v:DV} {x:List α} (hv:RL R hp p v x∧Nn v x):∀ {l:List (List α)} {fl:List DV} (i:Nat),Rows (Ao5 R T hd) hp p fl l→Rows (Ao5 R T hd) hp p (fl.set i v) (l.set i x)
 | [],_,_,h=>by cases h; exact rfl
 | _ :: l,_,0,⟨a,b,e,⟨d,h1,h2,h2'⟩,h3⟩=>by subst e h1; exact ⟨[v],b,rfl,⟨v,rfl,hv.1,hv.2⟩,h3⟩
 | _ :: l,_,i+1,⟨a,b,e,⟨d,h1,h2,h2'⟩,h3⟩=>by subst e h1; exact ⟨[d],_,rfl,⟨d,rfl,h2,h2'⟩,h3.set1N hv i⟩
theorem Rows.replN {α:Type} {R:Rep α} {T:Nat} {hd:R.dep+1≤6} {hp:Tr DObj} {p:Nat→Prop} : ∀ n:Nat,Rows (Ao5 R T hd) hp p (List.replicate n nilS) (List.replicate n [])
 | 0=>rfl
 | n+1=>⟨[nilS],List.replicate n nilS,rfl,⟨nilS,rfl,.nil,.inr (.inl rfl)⟩,Rows.replN n⟩
theorem OL.get {α:Type} {R:Rep α} {hp:Tr DObj} {p:Nat→Prop} {id n e:Nat} {l:List α} (h:OL R hp p (.ms id 0 n e) l):n=l.length∧e=R.e∧∃ fl,hp.get id=some (.row R.T fl)∧Rows R hp p fl l:=by
 cases h with
 | ms id fl l h hr=>exact ⟨rfl,rfl,fl,h,hr⟩
section
variable {call:CallT} {es:ES} {dst:Option Pa} {q:Hold (ES→Prop)}
theorem Cb1 {α:Type} {R:Rep α} {T:Nat} {hd:R.dep+1≤6} {p:Nat→Prop} {a x:EO} {id i n:Nat} {v:DV} {l:List (List α)} {m:List α} (ea:rawE es a=.pt id i) (ho:OL (rList R T hd) es.hp p (.ms id 0 n 1) l) (ev:evE es x=v) (hv:RL R es.hp p v m) (hi:i < l.length) (hp0:¬ p id)
  (h:∀ hp',OL (rList R T hd) hp' p (.ms id 0 n 1) (l.set i m)→(∀ j,j≠id→hp'.get j=es.hp.get j)→q.val ((ES.mk es.sl hp' es.nx).putE dst .any)) :
  SWs (sU dst (xSt 1 a x)) call es:=by
 obtain ⟨hn,_,fl,hg,hr⟩:=ho.get
 have hl:=hr.len
 refine Ae2 ea hg ev hv.ok (by rw [hl]; show i < l.length*1; omega) fun hp' hg' hk'=>h hp' ?_ hk'
 have:=OL.ms (R:=rList R T hd) (p:=p) id _ (l.set i m) hg' ((hr.set1 hv i).keep fun j hj=>hk' j fun e=>hp0 (e ▸ hj))
 rw [List.length_set,← hn] at this
 exact this
theorem Cb2 {α:Type} {R:Rep α} {T:Nat} {hd:R.dep+1≤6} {p:Nat→Prop} {a x:EO} {id i n:Nat} {v:DV} {l:List (List α)} {m:List α} (ea:rawE es a=.pt id i) (ho:OL (Ao5 R T hd) es.hp p (.ms id 0 n 1) l) (ev:evE es x=v) (hv:RL R es.hp p v m) (hnn:Nn v m) (hi:i < l.length) (hp0:¬ p id)
  (h:∀ hp',OL (Ao5 R T hd) hp' p (.ms id 0 n 1) (l.set i m)→(∀ j,j≠id→hp'.get j=es.hp.get j)→q.val ((ES.mk es.sl hp' es.nx).putE dst .any)) :
  SWs (sU dst (xSt 1 a x)) call es:=by
 obtain ⟨hn,_,fl,hg,hr⟩:=ho.get
 have hl:=hr.len
 refine Ae2 ea hg ev hv.ok (by rw [hl]; show i < l.length*1; omega) fun hp' hg' hk'=>h hp' ?_ hk'
 have:=OL.ms (R:=Ao5 R T hd) (p:=p) id _ (l.set i m) hg' ((hr.set1N ⟨hv,hnn⟩ i).keep fun j hj=>hk' j fun e=>hp0 (e ▸ hj))
 rw [List.length_set,← hn] at this
 exact this
theorem Bw9 {α:Type} {R:Rep α} {T e b:Nat} {hd:R.dep+1≤6} {x y:Operand} {n:Nat} (hx:es.ds.ev x=iv n) (hy:es.ds.ev y=iv n) (hn:n≤65536) (he:e=1) (hb:b≤64)
  (h:∀ hp',(∀ p,OL (Ao5 R T hd) hp' p (.ms es.nx 0 n 1) (List.replicate n []))→(∀ j,j≠es.nx→hp'.get j=es.hp.get j)→q.val ((ES.mk es.sl hp' (es.nx+1)).putE dst (.ms es.nx 0 n 1))):SWs (sU dst (xAny (.mks T e b [.slice none 0 0] x y))) call es:=by
 subst he
 show SW _ _ _ _
 rw [sw_u,x_any]
 have e:(List.replicate n ([Value.slice none 0 0].map DV.v)).flatten=List.replicate n nilS:=by
  clear h hx hy hn
  induction n with
  | zero=>rfl
  | succ n ih=>rw [List.replicate_succ,List.flatten_cons,ih]; rfl
 refine ⟨.ms es.nx 0 n 1,.lay (.row T (List.replicate n nilS)),?_,?_⟩
 ·have hnb:n*b≤65536*64:=Nat.mul_le_mul hn hb
  simp only [execU,hx,hy,iv,intD]
  rw [if_pos ⟨by omega,by omega,by omega,by omega,rfl,by omega⟩,Int.toNat_natCast,e]
 ·refine h (es.up (.lay (.row T (List.replicate n nilS)))).hp (fun p=>?_) fun j hj=>by rw [Ah1,get_set,if_neg hj]
  have:=OL.ms (R:=Ao5 R T hd) (p:=p) (hp:=(es.up (.lay (.row T (List.replicate n nilS)))).hp) es.nx (List.replicate n nilS) (List.replicate n []) (by rw [Ah1,get_set,if_pos rfl]; rfl) (Rows.replN n)
  rw [List.length_replicate] at this
  exact this
end
end Go.DD

/- Contracts: the walk over several cell lists. Conditions: those that each theorem states. -/
namespace Go.DD
set_option linter.unusedSectionVars false
set_option linter.unusedVariables false
open Go Go.Proofs
theorem Bp5 (k:Nat) (hp:Tr DObj) (nx:Nat) (K:DV→Tr DObj→Nat→Prop) (d:DV) (l:List (List PCell)) (P:Nat→Prop) (hP:∀ j,P j→j < nx) (h1:RL rCells hp P d l) (hne:l≠[]) (hl:l.length < 2000000000) (hK:∀ hp',(∀ j,j < nx→hp'.get j=hp.get j)→OL rCells hp' P (.ms (nx+1) 0 l.length 1) l→K (.ms (nx+1) 0 l.length 1) hp' (nx+2)):KW (kN (k+1)) (.fn 139) [d] hp nx K:=by
 have hr:relW 139 [d]=none:=by
  unfold relW
  rw [if_neg (by decide),if_pos (by decide)]
  split
  ·rename_i e
   exact absurd (by cases h1 <;> simp_all) hne
  ·rfl
 refine kn_1 hr t139 (Nat.le_of_ble_eq_true rfl) fun es e1 e2 he=>?_
 have a0:rawE es (.t .o)=d:=he 0 _ rfl
 subst e1 e2
 unfold r139
 simp only [bSa,↓bSb,reduceCtorEq,a0]
 refine Ae7 false (by simp only [n_ev,bR,bP,h1.live]; exact h1.notnil hne) Ac3 ?_
 simp only [bSa,↓bSb]
 refine Am9 (fl:=[]) (by rfl) (by rfl) fun hp1 hg1 hk1=>?_
 simp only [bR] at hg1 hk1
 simp only [bSa,↓bSb,reduceCtorEq,a0]
 have r1:RL rCells hp1 P d l:=h1.keep fun j hj=>hk1 j (by have:=hP j hj; omega)
 refine Am8 (R:=rCells) (p:=P) (p2:=P) (d:=.ms es.nx 0 0 rCells.e) (d2:=d) (l:=[]) (m:=l) (by simp only [bR,reduceCtorEq,bP]; rfl) (.ms es.nx [] [] hg1 rfl) (by simp only [n_ev,bR,bP]; exact r1.live) (r1.srcD (es:=⟨_,hp1,_⟩)) rfl rfl (by simp; omega) (by decide) fun hp2 hk2 h2=>?_
 simp only [bR,List.nil_append] at hk2 h2
 have h3:=h2 P (fun j hj=>by have hj3:P j:=hj.elim id id; have hj2:=hP j hj3; exact ⟨hj3,by omega,by simp [DV.refs]; omega⟩)
 simp only [bSa,↓bSb,bP,reduceCtorEq,h3.rl.live]
 refine hK _ (fun j hj=>?_) h3
 rw [hk2 j (by omega) (by simp [DV.refs]; omega),hk1 j (by omega)]
theorem Ai2 {hp:Tr DObj} {p:Nat→Prop} {d:DV} {l:List (List PCell)} (h:RL rCells hp p d l) {i:Nat} (hi:i < l.length):iaD hp 1 d (.v (.int .i64 (i:Int)))=some (adrE 1 d i):=h.ia hi
theorem OL.atS {α:Type} {R:Rep α} {T:Nat} {hd:R.dep+1≤6} {hp:Tr DObj} {p:Nat→Prop} {id n:Nat} {l:List (List α)} (h:OL (rList R T hd) hp p (.ms id 0 n 1) l) {i:Nat} (hi:i < l.length):∃ a,RL R hp p a l[i]∧ldD hp none (adrE 1 (.ms id 0 n 1) i)=some a:=by
 obtain ⟨_,_,fl,hg,hr⟩:=h.get
 obtain ⟨rest,e1,a,e2,h2⟩:=hr.at hi
 refine ⟨a,h2,?_⟩
 show ldD hp none (.pt id (0+i*1))=_
 have e1':fl.drop (i*1)=((fl.drop (i*1)).take 1) ++ rest:=e1
 have e2':(fl.drop (i*1)).take 1=[a]:=e2
 rw [ld_p hg,Nat.zero_add,e1',e2']
 rfl
def Al4:Rep (List PVal):=Ao5 rVal 37
theorem RL.iaN {hp:Tr DObj} {p:Nat→Prop} {d:DV} {l:List (List PVal)} (h:RL Al4 hp p d l) {i:Nat} (hi:i < l.length):iaD hp 1 d (.v (.int .i64 (i:Int)))=some (adrE 1 d i):=h.ia hi
def AtR (hp:Tr DObj) (P:Nat→Prop) (A:DV):Option (List Int)→Prop
 | none=>A=nilS
 | some p=>RL rInt hp P A p∧p≠[]∧p.length < 900000
def mixF {α β:Type} (f g:α→β) (i:Nat) (l:List α):List β:=l.mapIdx fun j x=>if j < i then f x else g x
theorem Bp6 {α β:Type} (f g:α→β) (i:Nat) (l:List α):(mixF f g i l).length=l.length:=by simp [mixF]
theorem mix_0 {α β:Type} (f g:α→β) (l:List α):mixF f g 0 l=l.map g:=by
 refine List.ext_getElem (by simp [mixF]) fun j h1 h2=>?_
 simp [mixF]
theorem mix_n {α β:Type} (f g:α→β) (l:List α):mixF f g l.length l=l.map f:=by
 refine List.ext_getElem (by simp [mixF]) fun j h1 h2=>?_
 have:j < l.length:=by simpa [mixF] using h1
 simp [mixF,this]
theorem Cj2 {α β:Type} (f g:α→β) (l:List α) {i:Nat} (h:i < l.length) (h2:i < (mixF f g i l).length):(mixF f g i l)[i]=g l[i]:=by simp [mixF]
theorem mix_s {α β:Type} (f g:α→β) (l:List α) {i:Nat} (h:i < l.length):(mixF f g i l).set i (f l[i])=mixF f g (i+1) l:=by
 refine List.ext_getElem (by simp [mixF]) fun j h1 h2=>?_
 have hj:j < l.length:=by simpa [mixF] using h2
 rw [List.getElem_set]
 by_cases e:i=j
 ·subst e; simp [mixF]
 ·rw [if_neg e]
  simp only [mixF,List.getElem_mapIdx]
  by_cases c:j < i
  ·rw [if_pos c,if_pos (by omega)]
  ·rw [if_neg c,if_neg (by omega)]
theorem mix_e {α β:Type} (f g:α→β) (l:List α) {i:Nat} (h:i < l.length) (he:f l[i]=g l[i]):mixF f g i l=mixF f g (i+1) l:=by
 rw [← mix_s f g l h]
 refine (List.ext_getElem (by simp) fun j h1 h2=>?_)
 rw [List.getElem_set]
 by_cases e:i=j
 ·subst e; simp [mixF,he]
 ·rw [if_neg e]
theorem Cj3 {call:CallT} {es:ES} {dst:Option Pa} {Q:ES→Prop} {T e n:Nat} {z:List Value} {x y:Operand} : SW (sU dst (xAny (.mks T e n z x y))) call es Q↔@SWs (sU dst (xAny (.mks T e n z x y))) call es ⟨Q⟩:=Iff.rfl
section
variable (k L bx T:Nat) (d:DV) (hs0:List (List PCell)) (P:Nat→Prop) (J S:List (List Int×List (List PVal))→(Nat→Prop)→Tr DObj→Nat→Prop) (M0:Nat→Prop) (hp:Tr DObj) (nx:Nat) (K:DV→Tr DObj→Nat→Prop)
theorem Bx0 (hbx:hp.get bx=some (.row T [d])) (hd:RL rCells hp P d hs0) (hP:∀ j,P j→j < nx∧¬ M0 j) (hne:hs0≠[]) (hl:hs0.length≤1000)
  (hc:∀ h∈hs0,∀ c∈h,c.pos≠[]∧c.pos.length < 900000∧c.vals≠[]) (htot:tot hs0 < 900000)
  (hJ0:J [] M0 hp nx) (hJM:∀ W M hp nx,J W M hp nx→∀ j,M j→j < nx) (hJL:∀ W M hp nx,J W M hp nx→M L∧∃ o,hp.get L=some o)
  (hJk:∀ W M hp nx hp' nx',J W M hp nx→nx≤nx'→(∀ j,M j∨P j→hp'.get j=hp.get j)→J W M hp' nx')
  (hstep:∀ W M hp nx a s p sts (K:DV→Tr DObj→Nat→Prop),J W M hp nx→(W ++ [(p,sts)]) <+: walkL hs0→RL rInt hp P a p→OL Al4 hp P s sts→(∀ j∈s.refs,j < nx∧¬ M j)→(∀ j,P j→j < nx∧¬ M j)→
   (∀ hp' nx' M',nx≤nx'→(∀ j,j < nx→¬ M j→hp'.get j=hp.get j)→(∀ j,M' j→M j∨nx≤j)→J (W ++ [(p,sts)]) M' hp' nx'→K (bv true) hp' nx')→
   (∀ hp' nx' M',nx≤nx'→(∀ j,j < nx→¬ M j→hp'.get j=hp.get j)→(∀ j,M' j→M j∨nx≤j)→S (W ++ [(p,sts)]) M' hp' nx'→K (bv false) hp' nx')→KW (kN (k+4)) (.yl L) [a,s] hp nx K)
  (hK:∀ hp' nx' M',nx≤nx'→(∀ j,j < nx→¬ M0 j→hp'.get j=hp.get j)→(∀ j,M' j→M0 j∨nx≤j)→J (walkL hs0) M' hp' nx'→K (.tup []) hp' nx')
  (hKS:∀ W hp' nx' M',nx≤nx'→(∀ j,j < nx→¬ M0 j→hp'.get j=hp.get j)→(∀ j,M' j→M0 j∨nx≤j)→S W M' hp' nx'→K (.tup []) hp' nx') :
  KW (kN (k+5)) (.fn 138) [.yl L,.pt bx 0] hp nx K:=by
 refine kn_0 (Aa5 (by decide)) t138 (Nat.le_of_ble_eq_true rfl) fun es e1 e2 he=>?_
 have a0:rawE es (.t .o)=.yl L:=he 0 _ rfl
 have a1:rawE es (.t (.l .o))=.pt bx 0:=he 1 _ rfl
 unfold r138
 subst e1 e2
 simp only [bSa,↓bSb,a1,Ax6 hbx]
 refine kws (Bp5 (k+3) _ _ _ d hs0 P (fun j hj=>(hP j hj).1) hd hne (by omega) fun hp1 hk1 ho1=>?_)
 have hM0:=hJM _ _ _ _ hJ0
 have hJ1:J [] M0 hp1 (es.nx+2):=hJk _ _ _ _ _ _ hJ0 (by omega) fun j hj=>hk1 j (hj.elim (hM0 j) fun h=>(hP j h).1)
 simp only [bSa,↓bSb]
 refine EW.l (I:=fun n es1=>∃ hs W M,tot hs≤n∧n < 900000∧hs.length=hs0.length∧(∀ h∈hs,∀ c∈h,c.pos≠[]∧c.pos.length < 900000∧c.vals≠[])∧es.nx+2≤es1.nx∧(∀ j,j < es.nx→¬ M0 j→es1.hp.get j=es.hp.get j)∧(∀ j,M j→M0 j∨es.nx+2≤j)∧J W M es1.hp es1.nx∧OL rCells es1.hp P (.ms (es.nx+1) 0 hs0.length 1) hs∧rawE es1 (.t .o)=.yl L∧rawE es1 (.t (.l (.l .o)))=.ms (es.nx+1) 0 hs0.length 1∧W ++ walkF n hs=walkL hs0) ?_ (tot hs0) 1000000 _ ?_ (by omega)
 ·rintro n es1 ⟨hs,W,M,htn,hn9,hlen,hcs,hle,hfr,hMs,hJ,ho,b0,b3,hW⟩
  unfold B31
  have hPM:∀ j,P j→j < es.nx∧¬ M j:=fun j hj=>⟨(hP j hj).1,fun h=>(hMs j h).elim (hP j hj).2 fun h=>by have:=(hP j hj).1; omega⟩
  have horl:=ho.rl
  simp only [bSa,↓bSb,reduceCtorEq,b3,horl.len]
  refine EW.up hs.length (fun i es2=>∃ A st,es2.hp=es1.hp∧es1.nx≤es2.nx∧rawE es2 (.t .o)=.yl L∧rawE es2 (.t (.l (.l .o)))=.ms (es.nx+1) 0 hs0.length 1∧rawE es2 (.t (.r (.l (.r .o))))=.ms (es.nx+1) 0 hs0.length 1∧rawE es2 (.t (.l (.r (.r .o))))=iv hs.length∧rawE es2 (.t (.r (.r (.r .o))))=iv (i:Nat)∧rawE es2 (.t (.r (.l .o)))=A∧AtR es1.hp P A st∧minF st (hs.drop i)=minF none hs) ?_ ?_ (by omega)
  ·rintro i es2 hi ⟨A,st,g1,g2,x0,x3,x12,x13,x14,x4,hA,hmin⟩
   unfold B29
   rw [← g1] at horl hA ho
   by_cases h:i < hs.length
   ·obtain ⟨hh,rh,lh⟩:=ho.atS h
    rw [List.drop_eq_getElem_cons h] at hmin
    have hch:=hcs _ (List.getElem_mem h)
    generalize hs[i]=H at rh hmin hch
    cases H with
    | nil=>
     have hmin':minF st (hs.drop (i+1))=minF none hs:=by rw [← hmin]; cases st <;> rfl
     simp only [bSa,↓bSb,reduceCtorEq,x0,x3,x12,x13,x14,x4,h,Ai2 horl h,lh,rh.len,List.length_nil,show decide ((0:Int) < 0)=false from rfl,Ab7 (show i < _ by omega)]
     exact ⟨A,st,g1,g2,rfl,by rw [← g1]; exact hA,hmin'⟩
    | cons c t=>
     have hch:=hch c (by simp)
     have h0:0 < (c :: t).length:=by simp
     obtain ⟨pA,vA,rpA,rvA,_,_,lpA,_⟩:=cells_at rh h0
     simp only [List.getElem_cons_zero] at rpA
     cases st with
     | none=>
      have hA:A=nilS:=hA
      subst hA
      have hmin':minF (some c.pos) (hs.drop (i+1))=minF none hs:=hmin
      simp only [bSa,↓bSb,reduceCtorEq,x12,x13,x14,x4,h,Ai2 horl h,lh,rh.len,show (0:Int) < ((c :: t).length:Int) from Int.natCast_pos.2 h0]
      refine Ae7 true (by simp only [n_ev,bR,bP,nilS,Aj5]; rfl) Ac3 ?_
      simp only [bSa,↓bSb,reduceCtorEq,x0,x3,x12,x13,x14,h,Al3 rh h0,Ad5 (k:=0) rh h0,lpA,Ab7 (show i < _ by omega)]
      exact ⟨pA,some c.pos,g1,g2,rfl,⟨by rw [← g1]; exact rpA,hch.1,hch.2.1⟩,hmin'⟩
     | some p=>
      obtain ⟨hA,hp1,hp2⟩:=hA
      simp only [bSa,↓bSb,reduceCtorEq,x12,x13,x14,x4,h,Ai2 horl h,lh,rh.len,show (0:Int) < ((c :: t).length:Int) from Int.natCast_pos.2 h0]
      refine Ae7 false (by simp only [n_ev,bR,bP,hA.live]; exact hA.notnil hp1) Ac3 ?_
      simp only [bSa,↓bSb,reduceCtorEq,x4,Al3 rh h0,Ad5 (k:=0) rh h0,lpA]
      refine kws (Af7 k es.nx _ _ _ pA A c.pos p (by omega) (rpA.mono fun j hj=>(hPM j hj).1) (hA.mono fun j hj=>(hPM j hj).1) hch.2.1 ?_)
      by_cases c1:cmpL c.pos p = -1
      ·have hmin':minF (some c.pos) (hs.drop (i+1))=minF none hs:=by rw [← hmin]; show _=if cmpL c.pos p = -1 then _ else _; rw [if_pos c1]
       simp only [bSa,↓bSb,reduceCtorEq,x0,x3,x12,x13,x14,h,show cmpL c.pos p < 0 by omega,Al3 rh h0,Ad5 (k:=0) rh h0,lpA,Ab7 (show i < _ by omega)]
       exact ⟨pA,some c.pos,g1,g2,rfl,⟨by rw [← g1]; exact rpA,hch.1,hch.2.1⟩,hmin'⟩
      ·have hmin':minF (some p) (hs.drop (i+1))=minF none hs:=by rw [← hmin]; show _=if cmpL c.pos p = -1 then _ else _; rw [if_neg c1]
       simp only [bSa,↓bSb,reduceCtorEq,x0,x3,x12,x13,x14,x4,h,show ¬ cmpL c.pos p < 0 by have:=Ae8 c.pos p; omega,Ab7 (show i < _ by omega)]
       exact ⟨A,some p,g1,g2,rfl,⟨by rw [← g1]; exact hA,hp1,hp2⟩,hmin'⟩
   ·rw [List.drop_eq_nil_of_le (by omega)] at hmin
    have hst:minF none hs=st:=by rw [← hmin]; cases st <;> rfl
    simp only [bSa,↓bSb,reduceCtorEq,x13,x14,x4,h]
    cases st with
    | none=>
     have hA:A=nilS:=hA
     subst hA
     refine Ae7 true (by simp only [n_ev,bR,bP,nilS,Aj5]; rfl) Ac3 ?_
     simp only [bSa,↓bSb,reduceCtorEq]
     have hWe:W=walkL hs0:=by rw [← hW,A21 hst,List.append_nil]
     subst hWe
     refine hK _ _ M (by omega) (by rw [g1]; exact hfr) (fun j hj=>(hMs j hj).imp id fun h=>by omega) (hJk _ _ _ _ _ _ hJ g2 fun j hj=>by rw [g1])
    | some p=>
     obtain ⟨hA,hp1,hp2⟩:=hA
     refine Ae7 false (by simp only [n_ev,bR,bP,hA.live]; exact hA.notnil hp1) Ac3 ?_
     simp only [bSa,↓bSb,reduceCtorEq,x3,horl.len]
     simp only [↓Cj3]
     refine Bw9 (R:=rVal) (T:=37) (hd:=by decide) (n:=hs.length) (by simp only [n_ev,bR,bP,Aj5]) (by simp only [n_ev,bR,bP,Aj5]) (by omega) rfl (by omega) fun hp4 ho4 hk4=>?_
     simp only [bR] at ho4 hk4
     simp only [bSa,reduceCtorEq,x3]
     have hoH4:OL rCells hp4 P (.ms (es.nx+1) 0 hs0.length 1) hs:=by
      exact ho.keep fun j hj=>hk4 j (by
       rcases hj with hj | hj
       ·have:=(hPM j hj).1; omega
       ·simp [DV.refs] at hj; omega)
     have hA4:RL rInt hp4 P A p:=hA.keep fun j hj=>hk4 j (by have:=(hPM j hj).1; omega)
     simp only [bSa,hoH4.rl.len]
     refine EW.up hs.length (fun i es3=>OL rCells es3.hp P (.ms (es.nx+1) 0 hs0.length 1) (mixF (rsA p) id i hs)∧OL Al4 es3.hp P (.ms es2.nx 0 hs.length 1) (mixF (stA p) (fun _=>[]) i hs)∧(∀ j,j≠es.nx+1→j≠es2.nx→es3.hp.get j=hp4.get j)∧es2.nx+1≤es3.nx∧rawE es3 (.t .o)=.yl L∧rawE es3 (.t (.l (.l .o)))=.ms (es.nx+1) 0 hs0.length 1∧rawE es3 (.t (.r (.l .o)))=A∧rawE es3 (.t (.l (.l (.l .o))))=.ms es2.nx 0 hs.length 1∧rawE es3 (.t (.r (.l (.r (.r (.l .o))))))=.ms (es.nx+1) 0 hs0.length 1∧rawE es3 (.t (.l (.r (.r (.r (.l .o))))))=iv hs.length∧rawE es3 (.t (.r (.r (.r (.r (.l .o))))))=iv (i:Nat)) ?_ ?_ (by omega)
     ·rintro i es3 hi ⟨oH,oS,hfr3,hle3,y0,y3,y4,y7,y44,y45,y46⟩
      unfold B30
      have hA3:RL rInt es3.hp P A p:=hA4.keep fun j hj=>hfr3 j (by have:=(hPM j hj).1; omega) (by have:=(hPM j hj).1; omega)
      by_cases h:i < hs.length
      ·have hH:i < (mixF (rsA p) id i hs).length:=by rw [Bp6]; exact h
       obtain ⟨hh,rh,lh⟩:=oH.atS hH
       have rh:RL rCell es3.hp P hh hs[i]:=by rw [Cj2 _ _ _ h] at rh; exact rh
       have hch:=hcs _ (List.getElem_mem h)
       have e1:=mix_e (rsA p) id hs h
       have e2:=mix_e (stA p) (fun _=>[]) hs h
       have s1:=mix_s (rsA p) id hs h
       have s2:=mix_s (stA p) (fun _=>[]) hs h
       generalize hs[i]=H at rh hch e1 e2 s1 s2
       cases H with
       | nil=>
        simp only [bSa,↓bSb,reduceCtorEq,y0,y3,y4,y7,y44,y45,y46,h,Ai2 oH.rl hH,lh,rh.len,List.length_nil,show decide ((0:Int) < 0)=false from rfl,Ab7 (show i < _ by omega)]
        exact ⟨by rw [← e1 rfl]; exact oH,by rw [← e2 rfl]; exact oS,hfr3,hle3⟩
       | cons c t=>
        have hch:=hch c (by simp)
        have h0:0 < (c :: t).length:=by simp
        obtain ⟨pA,vA,rpA,rvA,_,_,lpA,lvA⟩:=cells_at rh h0
        simp only [List.getElem_cons_zero] at rpA rvA
        simp only [bSa,↓bSb,reduceCtorEq,y4,y44,y45,y46,h,Ai2 oH.rl hH,lh,rh.len,show (0:Int) < ((c :: t).length:Int) from Int.natCast_pos.2 h0,Al3 rh h0,Ad5 (k:=0) rh h0,lpA]
        refine kws (Af7 k es.nx _ _ _ pA A c.pos p (by omega) (rpA.mono fun j hj=>(hPM j hj).1) (hA3.mono fun j hj=>(hPM j hj).1) hch.2.1 ?_)
        by_cases c1:c.pos=p
        ·have rh':=rh.mono (q:=Bl es.nx) fun j hj=>(hPM j hj).1
         obtain ⟨_,_,flH,hgH,_⟩:=oH.get
         obtain ⟨_,_,flS,hgS,_⟩:=oS.get
         have hS:i < (mixF (stA p) (fun _=>[]) i hs).length:=by rw [Bp6]; exact h
         have v1:Go.DD.sliE 2 hh (some (.v (.int .i64 1))) none=some (slD 2 1 (c :: t).length hh):=rh.sliE (e:=2) (a:=1) (z:=(c :: t).length) (lo:=some (.v (.int .i64 1))) (hi:=none) rfl rfl (fun n hn=>by rw [hn]; rfl) h0 (Nat.le_refl _)
         have rs:RL rCell es3.hp P (slD 2 1 (c :: t).length hh) t:=by
          have this:RL rCell es3.hp P (slD 2 1 (c :: t).length hh) (((c :: t).drop 1).take ((c :: t).length - 1)):=rh.part (a:=1) (z:=(c :: t).length) h0 (Nat.le_refl _)
          have e:((c :: t).drop 1).take ((c :: t).length - 1)=t:=by simp
          rw [e] at this
          exact this
         have rs':=rs.mono (q:=Bl es.nx) fun j hj=>(hPM j hj).1
         have rvA':=rvA.mono (q:=Bl es.nx) fun j hj=>(hPM j hj).1
         have roS:∀ an,Aa4 (adrE 1 (.ms es2.nx 0 hs.length 1) i) (fun id=>okRef es3.nx 14 an es3.hp id):=fun an j hj=>by
          have:j=es2.nx:=by simpa [DV.refs] using As0 _ _ _ j hj
          rw [this]; exact Aa2 hgS (by omega)
         simp only [bSa,↓bSb,bP,reduceCtorEq,y3,y7,cmpL_0.2 c1,Al3 rh h0,Ad5 (k:=1) rh h0,lvA,rh'.rox (show es.nx≤es3.nx by omega),Ag4 rh' (show es.nx≤es3.nx by omega),Av6 rh' (show es.nx≤es3.nx by omega),Aa2 (n0:=es3.nx) (m:=14) hgH (show es.nx+1 < es3.nx by omega),Aa2 (n0:=es3.nx) (m:=14) hgS (show es2.nx < es3.nx by omega),Ch9,Option.map_some,Option.map_none,rh.live,v1,oS.rl.iaN hS,iff_true_intro (roS _),rvA'.rox (show es.nx≤es3.nx by omega)]
         refine Aa6 rfl (Cb2 (R:=rVal) (T:=37) (hd:=by decide) (p:=P) (id:=es2.nx) (i:=i) (n:=hs.length) (m:=c.vals) (by simp only [bR]; show DV.pt es2.nx (0+i*1)=_; simp) oS (by simp only [evt,bR,reduceCtorEq,rvA.live]) rvA (.inl hch.2.2) hS (fun h=>by have:=(hPM _ h).1; omega) fun hp5 oS5 hk5=>?_)
         simp only [bR] at hk5
         have hk5':∀ j,j < es.nx→hp5.get j=es3.hp.get j:=fun j hj=>hk5 j (by omega)
         have oH5:OL rCells hp5 P (.ms (es.nx+1) 0 hs0.length 1) _:=oH.keep fun j hj=>hk5 j (by
          rcases hj with hj | hj
          ·have:=(hPM j hj).1; omega
          ·simp [DV.refs] at hj; omega)
         obtain ⟨_,_,flH5,hgH5,_⟩:=oH5.get
         have rs5:=rs.keep (hp':=hp5) fun j hj=>hk5' j (hPM j hj).1
         have rs5':=rs5.mono (q:=Bl es.nx) fun j hj=>(hPM j hj).1
         have roH:∀ an,Aa4 (adrE 1 (.ms (es.nx+1) 0 hs0.length 1) i) (fun id=>okRef es3.nx 14 an hp5 id):=fun an j hj=>by
          have:j=es.nx+1:=by simpa [DV.refs] using As0 _ _ _ j hj
          rw [this]; exact Aa2 hgH5 (by omega)
         simp only [bSa,↓bSb,reduceCtorEq,Aa2 (n0:=es3.nx) (m:=14) hgH5 (show es.nx+1 < es3.nx by omega),Ai2 oH5.rl hH,iff_true_intro (roH _),rs5'.rox (show es.nx≤es3.nx by omega)]
         refine Aa6 rfl (Cb1 (R:=rCell) (T:=24) (hd:=by decide) (p:=P) (id:=es.nx+1) (i:=i) (n:=hs0.length) (m:=t) (by simp only [bR]; show DV.pt (es.nx+1) (0+i*1)=_; simp) oH5 (by simp only [evt,bR,reduceCtorEq,rs5.live]) rs5 hH (fun h=>by have:=(hPM _ h).1; omega) fun hp6 oH6 hk6=>?_)
         simp only [bR] at hk6
         have hk6':∀ j,j < es.nx→hp6.get j=es3.hp.get j:=fun j hj=>(hk6 j (by omega)).trans (hk5' j hj)
         have oS6:OL Al4 hp6 P (.ms es2.nx 0 hs.length 1) _:=OL.keep (R:=Al4) oS5 fun j hj=>hk6 j (by
          rcases hj with hj | hj
          ·have:=(hPM j hj).1; omega
          ·simp [DV.refs] at hj; omega)
         simp only [bSa,↓bSb,reduceCtorEq,y0,y3,y4,y7,y44,y45,y46,h,Ab7 (show i < _ by omega)]
         obtain ⟨_,_,flH6,hgH6,_⟩:=oH6.get
         have hps:PsOK [⟨13,[12,9,11,0,1,2,3,4,5,6,7,8,10],hp5,hp6⟩,⟨11,[10,7,0,1,4,5,6],es3.hp,hp5⟩] es3.hp es.nx:=((PsOK.nil _ _).cons (fun _ _=>rfl) hk5').cons hk5' hk6'
         have s1':(mixF (rsA p) id i hs).set i t=mixF (rsA p) id (i+1) hs:=by rw [← s1,rsA_c,if_pos c1]
         have s2':(mixF (stA p) (fun _=>[]) i hs).set i c.vals=mixF (stA p) (fun _=>[]) (i+1) hs:=by rw [← s2,stA_c,if_pos c1]
         refine ⟨B26 rh' (fun j (hj:j < es.nx)=>by omega) hps (fun _ h=>h) (B26 rh' (fun j (hj:j < es.nx)=>by omega) hps (fun _ h=>h) (Al9 (fun j hj=>?_) (Av2 _ _ _))),by rw [← s1']; exact oH6,by rw [← s2']; exact oS6,fun j hj1 hj2=>by rw [hk6 j hj1,hk5 j hj2,hfr3 j hj1 hj2],by omega⟩
         have hj:j=es.nx+1:=by simpa [DV.refs] using hj
         subst hj
         refine ⟨by omega,fun p hp=>.inr (.inr ?_)⟩
         rw [if_neg (by simp)]
         simp only [List.mem_cons,List.not_mem_nil,or_false] at hp
         rcases hp with rfl | rfl
         ·show (((hp5.get (es.nx+1)).isSome) == ((hp6.get (es.nx+1)).isSome))=true
          rw [hgH5,hgH6]; rfl
         ·show (((es3.hp.get (es.nx+1)).isSome) == ((hp5.get (es.nx+1)).isSome))=true
          rw [hgH,hgH5]; rfl
        ·simp only [bSa,↓bSb,reduceCtorEq,y0,y3,y4,y7,y44,y45,y46,h,show decide (cmpL c.pos p=0)=false by simp [cmpL_0,c1],Ab7 (show i < _ by omega)]
         exact ⟨by rw [← e1 (by rw [rsA_c,if_neg c1]; rfl)]; exact oH,by rw [← e2 (by rw [stA_c,if_neg c1])]; exact oS,hfr3,hle3⟩
      ·have hA3:=hA3
       have hin:i=hs.length:=by omega
       subst hin
       rw [mix_n] at oH oS
       have hPl:∀ j,P j→j < es.nx:=fun j hj=>(hPM j hj).1
       have hMl:=hJM _ _ _ _ hJ
       have hMn:∀ j,M j→j≠es.nx+1∧j≠es2.nx:=fun j hj=>⟨fun e=>(hMs j hj).elim (fun h=>by have:=hM0 j h; omega) fun h=>by omega,fun e=>by have:=hMl j hj; omega⟩
       have hfr3':∀ j,j < es1.nx→j≠es.nx+1→es3.hp.get j=es1.hp.get j:=fun j hj hj2=>by rw [hfr3 j hj2 (by omega),hk4 j (by omega),g1]
       have hJ3:J W M es3.hp es3.nx:=hJk _ _ _ _ _ _ hJ (by omega) fun j hj=>hj.elim (fun hj=>hfr3' j (hMl j hj) (hMn j hj).1) fun hj=>hfr3' j (by have:=(hPM j hj).1; omega) (by have:=(hPM j hj).1; omega)
       obtain ⟨hL1,oL,hL2⟩:=hJL _ _ _ _ hJ3
       obtain ⟨n',hn',htn',hwk⟩:=A81 htn hst
       rw [hwk] at hW
       simp only [bSa,↓bSb,reduceCtorEq,y0,y4,y7,y45,y46,h]
       refine sws_y (L:=L) (by simp only [bR,reduceCtorEq]) hL2 ?_
       simp only [List.map_cons,List.map_nil,bR,reduceCtorEq]
       refine hstep W M _ _ A (.ms es2.nx 0 hs.length 1) p (hs.map (stA p)) _ hJ3 ⟨_,by rw [List.append_assoc]; exact hW⟩ hA3 oS (fun j hj=>?_) (fun j hj=>⟨by have:=hPl j hj; omega,(hPM j hj).2⟩) (fun hp' nx' M' hnx' hfr' hMs' hJ'=>?_) fun hp' nx' M' hnx' hfr' hMs' hS'=>?_
       ·have:j=es2.nx:=by simpa [DV.refs] using hj
        exact ⟨by omega,fun h=>(hMn j h).2 this⟩
       ·simp only [bSa,↓bSb,reduceCtorEq,y0,y3]
        refine ⟨n',by omega,hs.map (rsA p),W ++ [(p,hs.map (stA p))],M',htn',by omega,by rw [List.length_map]; exact hlen,?_,by omega,?_,?_,hJ',?_,by rw [List.append_assoc]; exact hW⟩
        ·intro h hh c hc
         obtain ⟨h',hh',rfl⟩:=List.mem_map.1 hh
         exact hcs h' hh' c (A20 hc)
        ·intro j hj hm
         have hmj:¬ M j:=fun h=>(hMs j h).elim hm fun h=>by omega
         rw [hfr' j (by omega) hmj,hfr3' j (by omega) (by omega),hfr j hj hm]
        ·intro j hj
         rcases hMs' j hj with h | h
         ·exact hMs j h
         ·exact .inr (by omega)
        ·exact oH.keep fun j hj=>by
          rcases hj with hj | hj
          ·exact hfr' j (by have:=hPl j hj; omega) (hPM j hj).2
          ·have:j=es.nx+1:=by simpa [DV.refs] using hj
           exact hfr' j (by omega) fun h=>(hMn j h).1 this
       ·simp only [bSa,↓bSb,reduceCtorEq]
        refine hKS _ _ _ M' (by omega) (fun j hj hm=>?_) (fun j hj=>?_) hS'
        ·have hmj:¬ M j:=fun h=>(hMs j h).elim hm fun h=>by omega
         rw [hfr' j (by omega) hmj,hfr3' j (by omega) (by omega),hfr j hj hm]
        ·rcases hMs' j hj with h | h
         ·exact (hMs j h).imp id fun h=>by omega
         ·exact .inr (by omega)
     ·simp only [bSa,reduceCtorEq,x0,x3,x4]
      refine ⟨?_,?_,fun _ _ _=>trivial⟩
      ·rw [mix_0,List.map_id]; exact hoH4
      ·rw [mix_0,List.map_const']; exact ho4 P
  ·refine ⟨nilS,none,?_⟩
   simp only [bSa,reduceCtorEq,b0,b3]
   exact ⟨rfl,rfl⟩
 ·refine ⟨hs0,[],M0,?_⟩
  simp only [bSa,reduceCtorEq,a0]
  exact ⟨htot,hc,fun j hj _=>hk1 j hj,fun j hj=>.inl hj,hJ1,ho1,rfl⟩
end
end Go.DD

/- Contracts: the changes A75 two cell lists. Conditions: those that each theorem states. -/
namespace Go.DD
set_option linter.unusedSectionVars false
set_option linter.unusedVariables false
open Go Go.Proofs
theorem A22 {n:Nat} : ∀ {hs:List (List PCell)},∀ w∈walkF n hs,w.2.length=hs.length∧(∃ h∈hs,∃ c∈h,c.pos=w.1)∧∀ v∈w.2,v=[]∨∃ h∈hs,∃ c∈h,v=c.vals:=by
 induction n with
 | zero=>intro hs w h; cases h
 | succ n ih=>
  intro hs w h
  cases e:minF none hs with
  | none=>rw [A21 e] at h; cases h
  | some p=>
   have h':w∈(p,hs.map (stA p)) :: walkF n (hs.map (rsA p)):=by
    have:walkF (n+1) hs=(p,hs.map (stA p)) :: walkF n (hs.map (rsA p)):=by
     show (match minF none hs with
      | none=>[]
      | some p=>(p,hs.map (stA p)) :: walkF n (hs.map (rsA p)))=_
     rw [e]
    rwa [this] at h
   rcases List.mem_cons.1 h' with rfl | h'
   ·obtain ⟨c,t,h1,h2⟩:=(A19 e).elim (fun h=>by cases h) id
    refine ⟨by simp,⟨_,h1,c,by simp,h2⟩,fun v hv=>?_⟩
    obtain ⟨h,hh,rfl⟩:=List.mem_map.1 hv
    cases h with
    | nil=>exact .inl rfl
    | cons c t=>
     rw [stA_c]
     split
     ·exact .inr ⟨_,hh,c,by simp,rfl⟩
     ·exact .inl rfl
   ·obtain ⟨h1,⟨h,hh,c,hc,h2⟩,h3⟩:=ih w h'
    obtain ⟨h0,hh0,rfl⟩:=List.mem_map.1 hh
    refine ⟨by rw [h1,List.length_map],⟨h0,hh0,c,A20 hc,h2⟩,fun v hv=>?_⟩
    rcases h3 v hv with h | ⟨h,hh,c,hc,rfl⟩
    ·exact .inl h
    ·obtain ⟨h0,hh0,rfl⟩:=List.mem_map.1 hh
     exact .inr ⟨h0,hh0,c,A20 hc,rfl⟩
theorem Ao6 {n:Nat} : ∀ {hs:List (List PCell)},(walkF n hs).length≤n:=by
 induction n with
 | zero=>intro hs; exact Nat.le_refl _
 | succ n ih=>
  intro hs
  show (match minF none hs with
   | none=>[]
   | some p=>(p,hs.map (stA p)) :: walkF n (hs.map (rsA p))).length≤_
  split
  ·simp
  ·simp only [List.length_cons]; have:=ih (hs:=hs.map (rsA ‹_›)); omega
theorem Cj4 (z:List Value) (ps:List (Nat×Nat×Operand)) (nid:Nat) (es:ES):xKeep (xAny (.bld z ps)) nid es=(fillD (z.map .v) (ps.map fun p=>(p.1,p.2.1,es.ds.ev p.2.2))).map DV.agg:=by
 refine xk_k (X:=fun es=>(fillD (z.map .v) (ps.map fun p=>(p.1,p.2.1,es.ds.ev p.2.2))).map DV.agg) (fun es nid=>?_) nid
 rw [x_any]
 simp only [execU]
 cases fillD (z.map .v) (ps.map fun p=>(p.1,p.2.1,es.ds.ev p.2.2)) <;> rfl
theorem ro_pr {a b:DV} {f:Nat→Bool} (h1:Aa4 a f) (h2:Aa4 b f):Aa4 (.agg [a,b]) f:=fun id hid=>by
 have:id∈a.refs∨id∈b.refs:=by simpa [DV.refs,DV.refsL] using hid
 rcases this with h | h
 ·exact h1 id h
 ·exact h2 id h
theorem RL.iaN0 {hp:Tr DObj} {p:Nat→Prop} {d:DV} {l:List (List PVal)} (h:RL Al4 hp p d l) (hi:0 < l.length):iaD hp 1 d (.v (.int .i64 0))=some (adrE 1 d 0):=h.ia hi
theorem RL.iaN1 {hp:Tr DObj} {p:Nat→Prop} {d:DV} {l:List (List PVal)} (h:RL Al4 hp p d l) (hi:1 < l.length):iaD hp 1 d (.v (.int .i64 1))=some (adrE 1 d 1):=h.ia hi
theorem RL.roaN {hp:Tr DObj} {n0:Nat} {d:DV} {l:List (List PVal)} {n m i:Nat} {an:List Nat} (h:RL Al4 hp (Bl n0) d l) (hn:n0≤n):Aa4 (adrE 1 d i) (fun id=>okRef n m an hp id)↔True:=iff_true_intro (h.roax hn)
end Go.DD

/- Contracts: the program's Delta. Conditions: those that each theorem states. -/
namespace Go.DD
set_option linter.unusedSectionVars false
set_option linter.unusedVariables false
open Go Go.Proofs
theorem Ai3 {x:PArr} (h:Aa1 x=0):∀ c∈x.cells,c.vals≠[]:=fun c hc he=>by
 have h1:=(Aa3 h).2.1 c hc
 have h2:=(Aa3 h).2.2
 have h3:c.vals.length=x.attrs.length:=by
  unfold cellE at h1
  split at h1
  ·cases h1
  ·rename_i h3; omega
 have h4:x.attrs.length=0:=by rw [← h3,he]; rfl
 unfold Ae3 at h2
 split at h2
 ·rename_i h5; exact h5 h2
 ·rw [if_pos (Or.inl (show x.attrs.length < 1 by omega))] at h2; cases h2
section
variable (k n0:Nat) (hp:Tr DObj) (nx:Nat) (K:DV→Tr DObj→Nat→Prop)
theorem Cb3 (d:DV) (hd:d.okC=true∧d.cells=[d]) (hl:liveE hp d=d) (hK:∀ hp',hp'.get nx=some (.row 201 [d])→(∀ j,j≠nx→hp'.get j=hp.get j)→K (.fn (.func 138) [.tup [],.pt nx 0]) hp' (nx+1)):KW (kN (k+1)) (.fn 68) [d] hp nx K:=by
 refine kn_1 (Aa5 (by decide)) t68 (Nat.le_of_ble_eq_true rfl) fun es e1 e2 he=>?_
 have a0:rawE es (.t .o)=d:=he 0 _ rfl
 unfold r68
 subst e1 e2
 simp only [↓bSb]
 refine B22 (v:=d) (by simp only [evt,a0,hl]) hd fun hp1 hg1 hk1=>?_
 simp only [bR] at hg1 hk1
 simp only [bSa,↓bSb,bP,reduceCtorEq]
 have e1:liveE hp1 (.pt es.nx 0)=.pt es.nx 0:=Ag2 fun id hid=>by
  have:id=es.nx:=by simpa [DV.refs] using hid
  rw [this,hg1]; rfl
 rw [e1]
 have e2:liveE hp1 (.fn (.func 138) [.tup [],.pt es.nx 0])=.fn (.func 138) [.tup [],.pt es.nx 0]:=Ag2 fun id hid=>by
  have:id=es.nx:=by simpa [DV.refs,DV.refsL] using hid
  rw [this,hg1]; rfl
 rw [e2]
 exact hK _ hg1 hk1
end
end Go.DD

/- The program's difference and the reference's are the same, in plain Lean. -/
namespace Go.DD
set_option linter.unusedSectionVars false
set_option linter.unusedVariables false
open Go Go.Proofs
def Srt (l:List PCell):Prop:=l.Pairwise (fun x y=>cmpL x.pos y.pos = -1)
theorem A56 {hs:List (List PCell)} : ∀ {a:Option (List Int)},minF a hs=none→a=none∧∀ h∈hs,h=[]:=by
 induction hs with
 | nil=>intro a h; exact ⟨h,fun h hh=>by cases hh⟩
 | cons h hs ih=>
  intro a e
  cases h with
  | nil=>
   have e':minF a hs=none:=by cases a <;> exact e
   obtain ⟨h1,h2⟩:=ih e'
   exact ⟨h1,fun h hh=>(List.mem_cons.1 hh).elim (fun h=>h) (h2 h)⟩
  | cons c t=>
   cases a with
   | none=>exact absurd (ih e).1 (by simp)
   | some q=>
    unfold minF at e
    split at e
    ·exact absurd (ih e).1 (by simp)
    ·exact absurd (ih e).1 (by simp)
theorem Aw0 (p:List Int):cmpL p p=0:=cmpL_0.2 rfl
theorem Bx1 {hs:List (List PCell)} : ∀ {a:Option (List Int)} {p:List Int},minF a hs=some p→(∀ q,a=some q→q=p∨cmpL p q = -1)∧∀ c t,(c :: t)∈hs→c.pos=p∨cmpL p c.pos = -1:=by
 induction hs with
 | nil=>intro a p h; exact ⟨fun q hq=>.inl (by rw [show a=some p from h] at hq; exact (Option.some.inj hq).symm),fun c t h=>by cases h⟩
 | cons h hs ih=>
  intro a p e
  cases h with
  | nil=>
   have e':minF a hs=some p:=by cases a <;> exact e
   obtain ⟨h1,h2⟩:=ih e'
   exact ⟨h1,fun c t hh=>(List.mem_cons.1 hh).elim (fun h=>by cases h) (h2 c t)⟩
  | cons c t=>
   cases a with
   | none=>
    obtain ⟨h1,h2⟩:=ih (show minF (some c.pos) hs=some p from e)
    refine ⟨fun q hq=>by (cases hq),fun c' t' hh=>?_⟩
    rcases List.mem_cons.1 hh with h | h
    ·cases h; exact h1 _ rfl
    ·exact h2 c' t' h
   | some q=>
    unfold minF at e
    split at e
    ·rename_i hlt
     obtain ⟨h1,h2⟩:=ih e
     have h3:=h1 _ rfl
     refine ⟨fun q' hq=>?_,fun c' t' hh=>?_⟩
     ·cases hq
      rcases h3 with h3 | h3
      ·rw [← h3]; exact .inr hlt
      ·exact .inr (Ac8 h3 hlt)
     ·rcases List.mem_cons.1 hh with h | h
      ·cases h; exact h3
      ·exact h2 c' t' h
    ·rename_i hlt
     obtain ⟨h1,h2⟩:=ih e
     have h3:=h1 _ rfl
     refine ⟨fun q' hq=>by cases hq; exact h3,fun c' t' hh=>?_⟩
     rcases List.mem_cons.1 hh with h | h
     ·cases h
      rcases Ae8 c.pos q with h4 | h4 | h4
      ·exact absurd h4 hlt
      ·rw [cmpL_0.1 h4]; exact h3
      ·have h5:cmpL q c.pos = -1:=by rw [Ao1]; omega
       rcases h3 with h3 | h3
       ·rw [← h3]; exact .inr h5
       ·exact .inr (Ac8 h3 h5)
     ·exact h2 c' t' h
theorem Srt.tail {c:PCell} {t:List PCell} (h:Srt (c :: t)):Srt t:=(List.pairwise_cons.1 h).2
theorem Srt.rs {p:List Int} {h:List PCell} (hs:Srt h):Srt (rsA p h):=by
 cases h with
 | nil=>exact hs
 | cons c t=>
  rw [rsA_c]
  split
  ·exact hs.tail
  ·exact hs
theorem Bh5 {l:List PCell} {p:List Int} (h:∀ c∈l,c.pos≠p):Ab9 l p=[]:=Bh3 fun j hj=>h _ (List.getElem_mem hj)
theorem A57 (c:PCell) (t:List PCell) (p:List Int):Ab9 (c :: t) p=if c.pos=p then c.vals else Ab9 t p:=by
 unfold Ab9
 rw [List.find?_cons]
 by_cases h:c.pos=p
 ·rw [if_pos h,decide_eq_true h]
 ·rw [if_neg h,decide_eq_false h]
theorem lt_ne {p q:List Int} (h:cmpL p q = -1):p≠q:=fun e=>by rw [e,Aw0] at h; cases h
theorem B44 {p:List Int} {h:List PCell} (hs:Srt h) (hm:∀ c t,h=c :: t→c.pos=p∨cmpL p c.pos = -1):∀ c∈rsA p h,cmpL p c.pos = -1:=by
 cases h with
 | nil=>intro c hc; cases hc
 | cons a t=>
  intro c hc
  obtain ⟨h1,h2⟩:=List.pairwise_cons.1 hs
  rw [rsA_c] at hc
  rcases hm a t rfl with h3 | h3
  ·rw [if_pos h3] at hc
   rw [← h3]; exact h1 c hc
  ·rw [if_neg fun e=>lt_ne h3 e.symm] at hc
   rcases List.mem_cons.1 hc with rfl | hc
   ·exact h3
   ·exact Ac8 h3 (h1 c hc)
theorem Bp7 {p:List Int} {h:List PCell} (hs:Srt h) (hm:∀ c t,h=c :: t→c.pos=p∨cmpL p c.pos = -1):stA p h=Ab9 h p:=by
 have hg:=B44 hs hm
 cases h with
 | nil=>rfl
 | cons a t=>
  rw [stA_c,A57]
  by_cases e:a.pos=p
  ·rw [if_pos e,if_pos e]
  ·rw [if_neg e,if_neg e]
   rw [rsA_c,if_neg e] at hg
   exact (Bh5 fun c hc=>(lt_ne (hg c (List.mem_cons_of_mem _ hc))).symm).symm
theorem Bp8 {p q:List Int} (h:List PCell) (hq:q≠p):Ab9 (rsA p h) q=Ab9 h q:=by
 cases h with
 | nil=>rfl
 | cons a t=>
  rw [rsA_c]
  by_cases e:a.pos=p
  ·rw [if_pos e,A57,if_neg fun e2=>hq (by rw [← e2,e])]
  ·rw [if_neg e]
theorem Am2 {n:Nat} : ∀ {hs:List (List PCell)},(∀ h∈hs,Srt h)→tot hs≤n→(walkF n hs).Pairwise (fun a b=>cmpL a.1 b.1 = -1)∧(∀ p,(∃ w∈walkF n hs,w.1=p)↔∃ h∈hs,∃ c∈h,c.pos=p)∧∀ w∈walkF n hs,w.2=hs.map fun h=>Ab9 h w.1:=by
 induction n with
 | zero=>
  intro hs hS ht
  cases e:minF none hs with
  | none=>
   rw [A21 e]
   refine ⟨.nil,fun p=>⟨fun ⟨w,h,_⟩=>(by cases h),fun ⟨h,hh,c,hc,_⟩=>?_⟩,fun w h=>by cases h⟩
   rw [(A56 e).2 h hh] at hc; cases hc
  | some p=>obtain ⟨m,h,_⟩:=A81 ht e; omega
 | succ n ih=>
  intro hs hS ht
  cases e:minF none hs with
  | none=>
   rw [A21 e]
   refine ⟨.nil,fun p=>⟨fun ⟨w,h,_⟩=>(by cases h),fun ⟨h,hh,c,hc,_⟩=>?_⟩,fun w h=>by cases h⟩
   rw [(A56 e).2 h hh] at hc; cases hc
  | some p=>
   obtain ⟨m,hm,ht',hw⟩:=A81 ht e
   obtain rfl:m=n:=by omega
   have hmin:=(Bx1 e).2
   have hmh:∀ h∈hs,∀ c t,h=c :: t→c.pos=p∨cmpL p c.pos = -1:=fun h hh c t he=>hmin c t (he ▸ hh)
   have hS':∀ h∈hs.map (rsA p),Srt h:=fun h hh=>by
    obtain ⟨h',hh',rfl⟩:=List.mem_map.1 hh
    exact (hS h' hh').rs
   obtain ⟨i1,i2,i3⟩:=ih hS' ht'
   have hgt:∀ w∈walkF m (hs.map (rsA p)),cmpL p w.1 = -1:=fun w hwm=>by
    obtain ⟨h,hh,c,hc,h2⟩:=(i2 w.1).1 ⟨w,hwm,rfl⟩
    obtain ⟨h',hh',rfl⟩:=List.mem_map.1 hh
    rw [← h2]
    exact B44 (hS h' hh') (hmh h' hh') c hc
   rw [hw]
   refine ⟨.cons hgt i1,fun q=>⟨fun ⟨w,hwm,hq⟩=>?_,fun ⟨h,hh,c,hc,hq⟩=>?_⟩,fun w hwm=>?_⟩
   ·rcases List.mem_cons.1 hwm with rfl | hwm
    ·obtain ⟨c,t,h1,h2⟩:=(A19 e).elim (fun h=>by cases h) id
     exact ⟨_,h1,c,by simp,h2.trans hq⟩
    ·obtain ⟨h,hh,c,hc,h2⟩:=(i2 q).1 ⟨w,hwm,hq⟩
     obtain ⟨h',hh',rfl⟩:=List.mem_map.1 hh
     exact ⟨h',hh',c,A20 hc,h2⟩
   ·by_cases hp:q=p
    ·exact ⟨_,List.mem_cons_self,hp.symm⟩
    ·have hc':c∈rsA p h:=by
      cases h with
      | nil=>cases hc
      | cons a t=>
       rw [rsA_c]
       split
       ·rename_i ha
        rcases List.mem_cons.1 hc with rfl | hc
        ·exact absurd (hq.symm.trans ha) hp
        ·exact hc
       ·exact hc
     obtain ⟨w,h1,h2⟩:=(i2 q).2 ⟨_,List.mem_map.2 ⟨h,hh,rfl⟩,c,hc',hq⟩
     exact ⟨w,List.mem_cons_of_mem _ h1,h2⟩
   ·rcases List.mem_cons.1 hwm with rfl | hwm
    ·exact List.map_congr_left fun h hh=>Bp7 (hS h hh) (hmh h hh)
    ·rw [i3 w hwm,List.map_map]
     exact List.map_congr_left fun h hh=>Bp8 h fun e=>lt_ne (hgt w hwm) e.symm
def Wk (l:List PCell):Prop:=l.Pairwise (fun x y=>cmpL x.pos y.pos≠1)
theorem A58 {a b c:List Int} (h1:cmpL a b≠1) (h2:cmpL b c≠1):cmpL a c≠1:=by
 rcases Ae8 a b with h | h | h
 ·rcases Ae8 b c with g | g | g
  ·rw [Ac8 h g]; decide
  ·rw [← cmpL_0.1 g,h]; decide
  ·exact absurd g h2
 ·rw [cmpL_0.1 h]; exact h2
 ·exact absurd h h1
theorem Aw1:∀ (l m:List PCell),Wk l→Wk m→Wk (Ah5 l m)
 | [],m,_,h=>by rw [Ah5]; exact h
 | a :: l,[],h,_=>by rw [Bw8]; exact h
 | a :: l,b :: m,h1,h2=>by
  rw [Be8]
  obtain ⟨p1,p2⟩:=List.pairwise_cons.1 h1
  obtain ⟨q1,q2⟩:=List.pairwise_cons.1 h2
  split
  ·rename_i hlt
   refine .cons (fun c hc=>?_) (Aw1 (a :: l) m h1 q2)
   rcases (Ai0 _ _ _).1 hc with h | h
   ·have h3:cmpL b.pos a.pos≠1:=by rw [hlt]; decide
    rcases List.mem_cons.1 h with rfl | h
    ·exact h3
    ·exact A58 h3 (p1 c h)
   ·exact q1 c h
  ·rename_i hlt
   have h3:cmpL a.pos b.pos≠1:=by rw [Ao1]; intro h; exact hlt (by omega)
   refine .cons (fun c hc=>?_) (Aw1 l (b :: m) p2 h2)
   rcases (Ai0 _ _ _).1 hc with h | h
   ·exact p1 c h
   ·rcases List.mem_cons.1 h with rfl | h
    ·exact h3
    ·exact A58 h3 (q1 c h)
termination_by l m=>l.length+m.length
theorem A23 (l:List PCell):Wk (sortC l):=by
 induction h:l.length using Nat.strongRecOn generalizing l with
 | _ n ih=>
  unfold sortC
  split
  ·match l with
   | []=>exact .nil
   | [a]=>exact List.pairwise_singleton _ _
   | a :: b :: l=>simp at *; omega
  ·exact Aw1 _ _ (ih _ (by rw [List.length_take]; omega) _ rfl) (ih _ (by rw [List.length_drop]; omega) _ rfl)
theorem Cj5 (p:List Int) (c:PCell) (l:List PCell):dedF (some p) (c :: l)=if p=c.pos then dedF (some c.pos) l else c.pos :: dedF (some c.pos) l:=rfl
theorem Bp9 {l:List PCell} : ∀ {p:List Int},Wk l→(∀ c∈l,cmpL p c.pos≠1)→(dedF (some p) l).Pairwise (fun a b=>cmpL a b = -1)∧(∀ q∈dedF (some p) l,cmpL p q = -1)∧∀ q,q∈dedF (some p) l↔(∃ c∈l,c.pos=q)∧q≠p:=by
 induction l with
 | nil=>intro p _ _; exact ⟨.nil,fun q hq=>(by cases hq),fun q=>⟨fun hq=>(by cases hq),fun ⟨⟨c,hc,_⟩,_⟩=>(by cases hc)⟩⟩
 | cons c l ih=>
  intro p hw hp
  obtain ⟨w1,w2⟩:=List.pairwise_cons.1 hw
  obtain ⟨i1,i2,i3⟩:=ih w2 w1
  rw [Cj5]
  by_cases e:p=c.pos
  ·subst e
   rw [if_pos rfl]
   refine ⟨i1,i2,fun q=>?_⟩
   rw [i3]
   refine ⟨fun ⟨⟨a,h1,h2⟩,h3⟩=>⟨⟨a,List.mem_cons_of_mem _ h1,h2⟩,h3⟩,fun ⟨⟨a,h1,h2⟩,h3⟩=>⟨⟨a,?_,h2⟩,h3⟩⟩
   rcases List.mem_cons.1 h1 with rfl | h1
   ·exact absurd h2.symm h3
   ·exact h1
  ·rw [if_neg e]
   have hlt:cmpL p c.pos = -1:=by
    rcases Ae8 p c.pos with h | h | h
    ·exact h
    ·exact absurd (cmpL_0.1 h) e
    ·exact absurd h (hp c (by simp))
   refine ⟨.cons i2 i1,fun q hq=>?_,fun q=>?_⟩
   ·rcases List.mem_cons.1 hq with rfl | hq
    ·exact hlt
    ·exact Ac8 hlt (i2 q hq)
   ·rw [List.mem_cons,i3]
    constructor
    ·rintro (rfl | ⟨⟨a,h1,h2⟩,h3⟩)
     ·exact ⟨⟨c,by simp,rfl⟩,fun h=>e h.symm⟩
     ·refine ⟨⟨a,List.mem_cons_of_mem _ h1,h2⟩,fun h=>?_⟩
      have:=i2 q ((i3 q).2 ⟨⟨a,h1,h2⟩,h3⟩)
      exact lt_ne (Ac8 hlt this) h.symm
    ·rintro ⟨⟨a,h1,h2⟩,h3⟩
     by_cases hq:q=c.pos
     ·exact .inl hq
     ·refine .inr ⟨⟨a,?_,h2⟩,hq⟩
      rcases List.mem_cons.1 h1 with rfl | h1
      ·exact absurd h2.symm hq
      ·exact h1
theorem Aw2 {l:List PCell} (hw:Wk l):(dedF none l).Pairwise (fun a b=>cmpL a b = -1)∧∀ q,q∈dedF none l↔∃ c∈l,c.pos=q:=by
 cases l with
 | nil=>exact ⟨.nil,fun q=>⟨fun hq=>(by cases hq),fun ⟨c,hc,_⟩=>(by cases hc)⟩⟩
 | cons c l=>
  obtain ⟨w1,w2⟩:=List.pairwise_cons.1 hw
  obtain ⟨i1,i2,i3⟩:=Bp9 w2 w1
  have e:dedF none (c :: l)=c.pos :: dedF (some c.pos) l:=rfl
  rw [e]
  refine ⟨.cons i2 i1,fun q=>?_⟩
  rw [List.mem_cons,i3]
  constructor
  ·rintro (rfl | ⟨⟨a,h1,h2⟩,h3⟩)
   ·exact ⟨c,by simp,rfl⟩
   ·exact ⟨a,List.mem_cons_of_mem _ h1,h2⟩
  ·rintro ⟨a,h1,h2⟩
   by_cases hq:q=c.pos
   ·exact .inl hq
   ·refine .inr ⟨⟨a,?_,h2⟩,hq⟩
    rcases List.mem_cons.1 h1 with rfl | h1
    ·exact absurd h2.symm hq
    ·exact h1
theorem A82:∀ {l m:List (List Int)},l.Pairwise (fun a b=>cmpL a b = -1)→m.Pairwise (fun a b=>cmpL a b = -1)→(∀ q,q∈l↔q∈m)→l=m
 | [],[],_,_,_=>rfl
 | [],b :: m,_,_,h=>absurd ((h b).2 (by simp)) (by simp)
 | a :: l,[],_,_,h=>absurd ((h a).1 (by simp)) (by simp)
 | a :: l,b :: m,h1,h2,h=>by
  obtain ⟨p1,p2⟩:=List.pairwise_cons.1 h1
  obtain ⟨q1,q2⟩:=List.pairwise_cons.1 h2
  have hab:a=b:=by
   rcases List.mem_cons.1 ((h a).1 (by simp)) with h3 | h3
   ·exact h3
   ·rcases List.mem_cons.1 ((h b).2 (by simp)) with h4 | h4
    ·exact h4.symm
    ·have:=Ac8 (q1 a h3) (p1 b h4)
     exact absurd rfl (lt_ne this)
  subst hab
  rw [A82 p2 q2 fun q=>?_]
  constructor
  ·intro hq
   rcases List.mem_cons.1 ((h q).1 (List.mem_cons_of_mem _ hq)) with h3 | h3
   ·exact absurd h3.symm (lt_ne (p1 q hq))
   ·exact h3
  ·intro hq
   rcases List.mem_cons.1 ((h q).2 (List.mem_cons_of_mem _ hq)) with h3 | h3
   ·exact absurd h3.symm (lt_ne (q1 q hq))
   ·exact h3
end Go.DD
