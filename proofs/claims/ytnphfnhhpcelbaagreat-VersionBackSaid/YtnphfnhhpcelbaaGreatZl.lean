/- A part. -/
import Derived.Test.YtnphfnhhpcelbaaGreatZk
set_option linter.unusedSectionVars false
set_option linter.unusedVariables false
namespace Go.DD
open Go Go.Proofs
def minF:Option (List Int)→List (List PCell)→Option (List Int)
 | a,[]=>a
 | a,[] :: hs=>minF a hs
 | none,(c :: _) :: hs=>minF (some c.pos) hs
 | some p,(c :: _) :: hs=>if cmpL c.pos p = -1 then minF (some c.pos) hs else minF (some p) hs
def stA (p:List Int):List PCell→List PVal
 | []=>[]
 | c :: _=>if c.pos=p then c.vals else []
def rsA (p:List Int):List PCell→List PCell
 | []=>[]
 | c :: t=>if c.pos=p then t else c :: t
theorem rsA_c (p:List Int) (c:PCell) (t:List PCell):rsA p (c :: t)=if c.pos=p then t else c :: t:=rfl
theorem stA_c (p:List Int) (c:PCell) (t:List PCell):stA p (c :: t)=if c.pos=p then c.vals else []:=rfl
def walkF:Nat→List (List PCell)→List (List Int×List (List PVal))
 | 0,_=>[]
 | n+1,hs=>match minF none hs with
  | none=>[]
  | some p=>(p,hs.map (stA p)) :: walkF n (hs.map (rsA p))
def tot (hs:List (List PCell)):Nat:=(hs.map List.length).sum
def walkL (hs:List (List PCell)):List (List Int×List (List PVal)):=walkF (tot hs) hs
theorem A38 {hs:List (List PCell)} : ∀ {a:Option (List Int)} {p:List Int},minF a hs=some p→a=some p∨∃ c t,(c :: t)∈hs∧c.pos=p:=by
 induction hs with
 | nil=>intro a p h; exact .inl h
 | cons h hs ih=>
  intro a p e
  have up:(∃ c t,(c :: t)∈hs∧c.pos=p)→∃ c t,(c :: t)∈h :: hs∧c.pos=p:=fun ⟨c,t,h1,h2⟩=>⟨c,t,List.mem_cons_of_mem _ h1,h2⟩
  cases h with
  | nil=>cases a <;> exact (ih e).imp id up
  | cons c t=>
   have here:some c.pos=some p→∃ c2 t2,(c2 :: t2)∈(c :: t) :: hs∧c2.pos=p:=fun h=>⟨c,t,by simp,by simpa using h⟩
   cases a with
   | none=>exact .inr ((ih e).elim here up)
   | some q=>
    unfold minF at e
    split at e
    ·exact .inr ((ih e).elim here up)
    ·exact (ih e).imp id up
theorem Bt3 (p:List Int) (h:List PCell):(rsA p h).length≤h.length:=by
 cases h with
 | nil=>simp [rsA]
 | cons c t=>rw [rsA_c]; split <;> simp
theorem Ct4 (p:List Int) (hs:List (List PCell)):tot (hs.map (rsA p))≤tot hs:=by
 induction hs with
 | nil=>simp [tot]
 | cons h hs ih=>
  have:=Bt3 p h
  unfold tot at ih ⊢
  simp only [List.map_cons,List.sum_cons]
  omega
theorem Ct5 {p:List Int} {hs:List (List PCell)} {c:PCell} {t:List PCell} (h:(c :: t)∈hs) (hc:c.pos=p):tot (hs.map (rsA p)) < tot hs:=by
 induction hs with
 | nil=>cases h
 | cons a hs ih=>
  have h1:=Bt3 p a
  have h2:=Ct4 p hs
  unfold tot at ih h2 ⊢
  simp only [List.map_cons,List.sum_cons]
  rcases List.mem_cons.1 h with rfl | h
  ·have:(rsA p (c :: t)).length=t.length:=by rw [rsA_c,if_pos hc]
   simp only [List.length_cons] at *
   omega
  ·have:=ih h
   omega
theorem A39 {p:List Int} {h:List PCell} {c:PCell} (hc:c∈rsA p h):c∈h:=by
 cases h with
 | nil=>exact hc
 | cons a t=>
  rw [rsA_c] at hc
  split at hc
  ·exact List.mem_cons_of_mem _ hc
  ·exact hc
theorem Bb3 {n:Nat} {hs:List (List PCell)} {p:List Int} (hn:tot hs≤n) (h:minF none hs=some p):∃ m,n=m+1∧tot (hs.map (rsA p))≤m∧walkF n hs=(p,hs.map (stA p)) :: walkF m (hs.map (rsA p)):=by
 obtain ⟨c,t,h1,h2⟩:=(A38 h).elim (fun h=>by cases h) id
 have hlt:=Ct5 h1 h2
 obtain ⟨m,rfl⟩:∃ m,n=m+1:=⟨n - 1,by omega⟩
 refine ⟨m,rfl,by omega,?_⟩
 show (match minF none hs with
  | none=>[]
  | some p=>(p,hs.map (stA p)) :: walkF m (hs.map (rsA p)))=_
 rw [h]
theorem A40 {n:Nat} {hs:List (List PCell)} (h:minF none hs=none):walkF n hs=[]:=by
 cases n with
 | zero=>rfl
 | succ n=>
  show (match minF none hs with
   | none=>[]
   | some p=>(p,hs.map (stA p)) :: walkF n (hs.map (rsA p)))=_
  rw [h]
theorem Rows.set1 {α:Type} {R:Rep α} {T:Nat} {hd:R.dep+1≤6} {hp:Tr DObj} {p:Nat→Prop} {v:DV} {x:List α} (hv:RL R hp p v x):∀ {l:List (List α)} {fl:List DV} (i:Nat),Rows (rList R T hd) hp p fl l→Rows (rList R T hd) hp p (fl.set i v) (l.set i x)
 | [],_,_,h=>by cases h; exact rfl
 | _ :: l,_,0,⟨a,b,e,⟨d,h1,h2⟩,h3⟩=>by subst e h1; exact ⟨[v],b,rfl,⟨v,rfl,hv⟩,h3⟩
 | _ :: l,_,i+1,⟨a,b,e,⟨d,h1,h2⟩,h3⟩=>by subst e h1; exact ⟨[d],_,rfl,⟨d,rfl,h2⟩,h3.set1 hv i⟩
def Aq3 {α:Type} (R:Rep α) (T:Nat) (hd:R.dep+1≤6:=by decide):Rep (List α) where
 e:=1
 T:=T
 dep:=R.dep+1
 rd hp p ds l:=∃ d,ds=[d]∧RL R hp p d l∧Nn d l
 cells l:=[.sl (l.flatMap R.cells) l.length]
 e0:=Nat.one_pos
 d6:=hd
 len:=fun ⟨_,h,_⟩=>by rw [h]; rfl
 keep:=fun ⟨d,h,h2,h3⟩ hk=>⟨d,h,h2.keep hk,h3⟩
 mono:=fun ⟨d,h,h2,h3⟩ hk=>⟨d,h,h2.mono hk,h3⟩
 refs:=fun ⟨d,h,h2,_⟩ id hi=>by
  subst h
  exact h2.refs id (by simpa [DV.refsL] using hi)
 pure:=fun _ _ l=>⟨_,rfl,.sl l,by cases l with | nil=>exact .inr (.inr rfl) | cons a l=>exact .inl (by simp)⟩
 ok:=fun ⟨d,h,h2,_⟩ c hc=>by
  subst h
  obtain rfl:=List.mem_singleton.1 hc
  exact h2.ok
 same:=fun ⟨d,h,h2,_⟩ c hc n hn=>by
  subst h
  obtain rfl:=List.mem_singleton.1 hc
  exact h2.same hn
 samec:=fun l c hc n hn=>by
  obtain rfl:=List.mem_singleton.1 hc
  exact (RL.sl (R:=R) (hp:=.e) (p:=fun _=>True) l).same hn
theorem Rows.set1N {α:Type} {R:Rep α} {T:Nat} {hd:R.dep+1≤6} {hp:Tr DObj} {p:Nat→Prop} {v:DV} {x:List α} (hv:RL R hp p v x∧Nn v x):∀ {l:List (List α)} {fl:List DV} (i:Nat),Rows (Aq3 R T hd) hp p fl l→Rows (Aq3 R T hd) hp p (fl.set i v) (l.set i x)
 | [],_,_,h=>by cases h; exact rfl
 | _ :: l,_,0,⟨a,b,e,⟨d,h1,h2,h2'⟩,h3⟩=>by subst e h1; exact ⟨[v],b,rfl,⟨v,rfl,hv.1,hv.2⟩,h3⟩
 | _ :: l,_,i+1,⟨a,b,e,⟨d,h1,h2,h2'⟩,h3⟩=>by subst e h1; exact ⟨[d],_,rfl,⟨d,rfl,h2,h2'⟩,h3.set1N hv i⟩
theorem Rows.replN {α:Type} {R:Rep α} {T:Nat} {hd:R.dep+1≤6} {hp:Tr DObj} {p:Nat→Prop} : ∀ n:Nat,Rows (Aq3 R T hd) hp p (List.replicate n nilS) (List.replicate n [])
 | 0=>rfl
 | n+1=>⟨[nilS],List.replicate n nilS,rfl,⟨nilS,rfl,.nil,.inr (.inl rfl)⟩,Rows.replN n⟩
theorem OL.get {α:Type} {R:Rep α} {hp:Tr DObj} {p:Nat→Prop} {id n e:Nat} {l:List α} (h:OL R hp p (.ms id 0 n e) l):n=l.length∧e=R.e∧∃ fl,hp.get id=some (.row R.T fl)∧Rows R hp p fl l:=by
 cases h with
 | ms id fl l h hr=>exact ⟨rfl,rfl,fl,h,hr⟩
section
variable {call:CallT} {es:ES} {dst:Option Pa} {q:Hold (ES→Prop)}
theorem Cj4 {α:Type} {R:Rep α} {T:Nat} {hd:R.dep+1≤6} {p:Nat→Prop} {a x:EO} {id i n:Nat} {v:DV} {l:List (List α)} {m:List α} (ea:rawE es a=.pt id i) (ho:OL (rList R T hd) es.hp p (.ms id 0 n 1) l) (ev:evE es x=v) (hv:RL R es.hp p v m) (hi:i < l.length) (hp0:¬ p id)
  (h:∀ hp',OL (rList R T hd) hp' p (.ms id 0 n 1) (l.set i m)→(∀ j,j≠id→hp'.get j=es.hp.get j)→q.val ((ES.mk es.sl hp' es.nx).putE dst .any)) :
  SWs (sU dst (xSt 1 a x)) call es:=by
 obtain ⟨hn,_,fl,hg,hr⟩:=ho.get
 have hl:=hr.len
 refine An8 ea hg ev hv.ok (by rw [hl]; show i < l.length*1; omega) fun hp' hg' hk'=>h hp' ?_ hk'
 have:=OL.ms (R:=rList R T hd) (p:=p) id _ (l.set i m) hg' ((hr.set1 hv i).keep fun j hj=>hk' j fun e=>hp0 (e ▸ hj))
 rw [List.length_set,← hn] at this
 exact this
theorem Cj5 {α:Type} {R:Rep α} {T:Nat} {hd:R.dep+1≤6} {p:Nat→Prop} {a x:EO} {id i n:Nat} {v:DV} {l:List (List α)} {m:List α} (ea:rawE es a=.pt id i) (ho:OL (Aq3 R T hd) es.hp p (.ms id 0 n 1) l) (ev:evE es x=v) (hv:RL R es.hp p v m) (hnn:Nn v m) (hi:i < l.length) (hp0:¬ p id)
  (h:∀ hp',OL (Aq3 R T hd) hp' p (.ms id 0 n 1) (l.set i m)→(∀ j,j≠id→hp'.get j=es.hp.get j)→q.val ((ES.mk es.sl hp' es.nx).putE dst .any)) :
  SWs (sU dst (xSt 1 a x)) call es:=by
 obtain ⟨hn,_,fl,hg,hr⟩:=ho.get
 have hl:=hr.len
 refine An8 ea hg ev hv.ok (by rw [hl]; show i < l.length*1; omega) fun hp' hg' hk'=>h hp' ?_ hk'
 have:=OL.ms (R:=Aq3 R T hd) (p:=p) id _ (l.set i m) hg' ((hr.set1N ⟨hv,hnn⟩ i).keep fun j hj=>hk' j fun e=>hp0 (e ▸ hj))
 rw [List.length_set,← hn] at this
 exact this
theorem B31 {α:Type} {R:Rep α} {T e b:Nat} {hd:R.dep+1≤6} {x y:Operand} {n:Nat} (hx:es.ds.ev x=iv n) (hy:es.ds.ev y=iv n) (hn:n≤65536) (he:e=1) (hb:b≤64)
  (h:∀ hp',(∀ p,OL (Aq3 R T hd) hp' p (.ms es.nx 0 n 1) (List.replicate n []))→(∀ j,j≠es.nx→hp'.get j=es.hp.get j)→q.val ((ES.mk es.sl hp' (es.nx+1)).putE dst (.ms es.nx 0 n 1))):SWs (sU dst (xAny (.mks T e b [.slice none 0 0] x y))) call es:=by
 subst he
 show SW _ _ _ _
 rw [sw_u,x_any]
 have e:(List.replicate n ([Value.slice none 0 0].map DV.v)).flatten=List.replicate n nilS:=by
  clear h hx hy hn
  induction n with
  | zero=>rfl
  | succ n ih=>rw [List.replicate_succ,List.flatten_cons,ih]; rfl
 refine ⟨.ms es.nx 0 n 1,.lay (.row T (List.replicate n nilS)),?_,?_⟩
 ·have hnb:n*b≤65536*64:=Nat.mul_le_mul hn hb
  simp only [execU,hx,hy,iv,intD]
  rw [if_pos ⟨by omega,by omega,by omega,by omega,rfl,by omega⟩,Int.toNat_natCast,e]
 ·refine h (es.up (.lay (.row T (List.replicate n nilS)))).hp (fun p=>?_) fun j hj=>by rw [Ai5,get_set,if_neg hj]
  have:=OL.ms (R:=Aq3 R T hd) (p:=p) (hp:=(es.up (.lay (.row T (List.replicate n nilS)))).hp) es.nx (List.replicate n nilS) (List.replicate n []) (by rw [Ai5,get_set,if_pos rfl]; rfl) (Rows.replN n)
  rw [List.length_replicate] at this
  exact this
end
end Go.DD

/- Contracts: the walk over several cell lists. Conditions: those that each theorem states. -/
namespace Go.DD
open Go Go.Proofs
theorem Bt4 (k:Nat) (hp:Tr DObj) (nx:Nat) (K:DV→Tr DObj→Nat→Prop) (d:DV) (l:List (List PCell)) (P:Nat→Prop) (hP:∀ j,P j→j < nx) (h1:RL rCells hp P d l) (hne:l≠[]) (hl:l.length < 2000000000) (hK:∀ hp',(∀ j,j < nx→hp'.get j=hp.get j)→OL rCells hp' P (.ms (nx+1) 0 l.length 1) l→K (.ms (nx+1) 0 l.length 1) hp' (nx+2)):KW (kN (k+1)) (.fn 139) [d] hp nx K:=by
 have hr:relW 139 [d]=none:=by
  unfold relW
  rw [if_neg (by decide),if_pos (by decide)]
  split
  ·rename_i e
   exact absurd (by cases h1 <;> simp_all) hne
  ·rfl
 refine kn_1 hr t139 (Nat.le_of_ble_eq_true rfl) fun es e1 e2 he=>?_
 have a0:rawE es (.t .o)=d:=he 0 _ rfl
 subst e1 e2
 unfold r139
 simp only [bSa,↓bSb,reduceCtorEq,a0]
 refine Ag4 false (by simp only [n_ev,bR,bP,h1.live]; exact h1.notnil hne) Ad4 ?_
 simp only [bSa,↓bSb]
 refine Am3 (fl:=[]) (by rfl) (by rfl) fun hp1 hg1 hk1=>?_
 simp only [bR] at hg1 hk1
 simp only [bSa,↓bSb,reduceCtorEq,a0]
 have r1:RL rCells hp1 P d l:=h1.keep fun j hj=>hk1 j (by have:=hP j hj; omega)
 refine Ah9 (R:=rCells) (p:=P) (p2:=P) (d:=.ms es.nx 0 0 rCells.e) (d2:=d) (l:=[]) (m:=l) (by simp only [bR,reduceCtorEq,bP]; rfl) (.ms es.nx [] [] hg1 rfl) (by simp only [n_ev,bR,bP]; exact r1.live) (r1.srcD (es:=⟨_,hp1,_⟩)) rfl rfl (by simp; omega) (by decide) fun hp2 hk2 h2=>?_
 simp only [bR,List.nil_append] at hk2 h2
 have h3:=h2 P (fun j hj=>by have hj3:P j:=hj.elim id id; have hj2:=hP j hj3; exact ⟨hj3,by omega,by simp [DV.refs]; omega⟩)
 simp only [bSa,↓bSb,bP,reduceCtorEq,h3.rl.live]
 refine hK _ (fun j hj=>?_) h3
 rw [hk2 j (by omega) (by simp [DV.refs]; omega),hk1 j (by omega)]
theorem Aj7 {hp:Tr DObj} {p:Nat→Prop} {d:DV} {l:List (List PCell)} (h:RL rCells hp p d l) {i:Nat} (hi:i < l.length):iaD hp 1 d (.v (.int .i64 (i:Int)))=some (adrE 1 d i):=h.ia hi
theorem OL.atS {α:Type} {R:Rep α} {T:Nat} {hd:R.dep+1≤6} {hp:Tr DObj} {p:Nat→Prop} {id n:Nat} {l:List (List α)} (h:OL (rList R T hd) hp p (.ms id 0 n 1) l) {i:Nat} (hi:i < l.length):∃ a,RL R hp p a l[i]∧ldD hp none (adrE 1 (.ms id 0 n 1) i)=some a:=by
 obtain ⟨_,_,fl,hg,hr⟩:=h.get
 obtain ⟨rest,e1,a,e2,h2⟩:=hr.at hi
 refine ⟨a,h2,?_⟩
 show ldD hp none (.pt id (0+i*1))=_
 have e1':fl.drop (i*1)=((fl.drop (i*1)).take 1) ++ rest:=e1
 have e2':(fl.drop (i*1)).take 1=[a]:=e2
 rw [ld_p hg,Nat.zero_add,e1',e2']
 rfl
def An9:Rep (List PVal):=Aq3 rVal 37
theorem RL.iaN {hp:Tr DObj} {p:Nat→Prop} {d:DV} {l:List (List PVal)} (h:RL An9 hp p d l) {i:Nat} (hi:i < l.length):iaD hp 1 d (.v (.int .i64 (i:Int)))=some (adrE 1 d i):=h.ia hi
theorem RL.atN {hp:Tr DObj} {p:Nat→Prop} {d:DV} {l:List (List PVal)} (h:RL An9 hp p d l) {i:Nat} (hi:i < l.length):∃ a,RL rVal hp p a l[i]∧Nn a l[i]∧ldD hp none (adrE 1 d i)=some a:=by
 obtain ⟨ds,hr,h1,h0,h2⟩:=h.at hi
 obtain ⟨a,rfl,h3,h4⟩:=hr
 exact ⟨a,h3,h4,h0 _ rfl⟩
def AtR (hp:Tr DObj) (P:Nat→Prop) (A:DV):Option (List Int)→Prop
 | none=>A=nilS
 | some p=>RL rInt hp P A p∧p≠[]∧p.length < 900000
def mixF {α β:Type} (f g:α→β) (i:Nat) (l:List α):List β:=l.mapIdx fun j x=>if j < i then f x else g x
theorem Bt5 {α β:Type} (f g:α→β) (i:Nat) (l:List α):(mixF f g i l).length=l.length:=by simp [mixF]
theorem mix_0 {α β:Type} (f g:α→β) (l:List α):mixF f g 0 l=l.map g:=by
 refine List.ext_getElem (by simp [mixF]) fun j h1 h2=>?_
 simp [mixF]
theorem mix_n {α β:Type} (f g:α→β) (l:List α):mixF f g l.length l=l.map f:=by
 refine List.ext_getElem (by simp [mixF]) fun j h1 h2=>?_
 have:j < l.length:=by simpa [mixF] using h1
 simp [mixF,this]
theorem Ct6 {α β:Type} (f g:α→β) (l:List α) {i:Nat} (h:i < l.length) (h2:i < (mixF f g i l).length):(mixF f g i l)[i]=g l[i]:=by simp [mixF]
theorem mix_s {α β:Type} (f g:α→β) (l:List α) {i:Nat} (h:i < l.length):(mixF f g i l).set i (f l[i])=mixF f g (i+1) l:=by
 refine List.ext_getElem (by simp [mixF]) fun j h1 h2=>?_
 have hj:j < l.length:=by simpa [mixF] using h2
 rw [List.getElem_set]
 by_cases e:i=j
 ·subst e; simp [mixF]
 ·rw [if_neg e]
  simp only [mixF,List.getElem_mapIdx]
  by_cases c:j < i
  ·rw [if_pos c,if_pos (by omega)]
  ·rw [if_neg c,if_neg (by omega)]
theorem mix_e {α β:Type} (f g:α→β) (l:List α) {i:Nat} (h:i < l.length) (he:f l[i]=g l[i]):mixF f g i l=mixF f g (i+1) l:=by
 rw [← mix_s f g l h]
 refine (List.ext_getElem (by simp) fun j h1 h2=>?_)
 rw [List.getElem_set]
 by_cases e:i=j
 ·subst e; simp [mixF,he]
 ·rw [if_neg e]
theorem Ct7 {call:CallT} {es:ES} {dst:Option Pa} {Q:ES→Prop} {T e n:Nat} {z:List Value} {x y:Operand} : SW (sU dst (xAny (.mks T e n z x y))) call es Q↔@SWs (sU dst (xAny (.mks T e n z x y))) call es ⟨Q⟩:=Iff.rfl
section
variable (k L bx T:Nat) (d:DV) (hs0:List (List PCell)) (P:Nat→Prop) (J S:List (List Int×List (List PVal))→(Nat→Prop)→Tr DObj→Nat→Prop) (M0:Nat→Prop) (hp:Tr DObj) (nx:Nat) (K:DV→Tr DObj→Nat→Prop)
theorem B32 (hbx:hp.get bx=some (.row T [d])) (hd:RL rCells hp P d hs0) (hP:∀ j,P j→j < nx∧¬ M0 j) (hne:hs0≠[]) (hl:hs0.length≤1000)
  (hc:∀ h∈hs0,∀ c∈h,c.pos≠[]∧c.pos.length < 900000∧c.vals≠[]) (htot:tot hs0 < 900000)
  (hJ0:J [] M0 hp nx) (hJM:∀ W M hp nx,J W M hp nx→∀ j,M j→j < nx) (hJL:∀ W M hp nx,J W M hp nx→M L∧∃ o,hp.get L=some o)
  (hJk:∀ W M hp nx hp' nx',J W M hp nx→nx≤nx'→(∀ j,M j∨P j→hp'.get j=hp.get j)→J W M hp' nx')
  (hstep:∀ W M hp nx a s p sts (K:DV→Tr DObj→Nat→Prop),J W M hp nx→(W ++ [(p,sts)]) <+: walkL hs0→RL rInt hp P a p→OL An9 hp P s sts→(∀ j∈s.refs,j < nx∧¬ M j)→(∀ j,P j→j < nx∧¬ M j)→
   (∀ hp' nx' M',nx≤nx'→(∀ j,j < nx→¬ M j→hp'.get j=hp.get j)→(∀ j,M' j→M j∨nx≤j)→J (W ++ [(p,sts)]) M' hp' nx'→K (bv true) hp' nx')→
   (∀ hp' nx' M',nx≤nx'→(∀ j,j < nx→¬ M j→hp'.get j=hp.get j)→(∀ j,M' j→M j∨nx≤j)→S (W ++ [(p,sts)]) M' hp' nx'→K (bv false) hp' nx')→KW (kN (k+4)) (.yl L) [a,s] hp nx K)
  (hK:∀ hp' nx' M',nx≤nx'→(∀ j,j < nx→¬ M0 j→hp'.get j=hp.get j)→(∀ j,M' j→M0 j∨nx≤j)→J (walkL hs0) M' hp' nx'→K (.tup []) hp' nx')
  (hKS:∀ W hp' nx' M',nx≤nx'→(∀ j,j < nx→¬ M0 j→hp'.get j=hp.get j)→(∀ j,M' j→M0 j∨nx≤j)→S W M' hp' nx'→K (.tup []) hp' nx') :
  KW (kN (k+5)) (.fn 138) [.yl L,.pt bx 0] hp nx K:=by
 refine kn_0 (Aa3 (by decide)) t138 (Nat.le_of_ble_eq_true rfl) fun es e1 e2 he=>?_
 have a0:rawE es (.t .o)=.yl L:=he 0 _ rfl
 have a1:rawE es (.t (.l .o))=.pt bx 0:=he 1 _ rfl
 unfold r138
 subst e1 e2
 simp only [bSa,↓bSb,a1,Af4 hbx]
 refine kws (Bt4 (k+3) _ _ _ d hs0 P (fun j hj=>(hP j hj).1) hd hne (by omega) fun hp1 hk1 ho1=>?_)
 have hM0:=hJM _ _ _ _ hJ0
 have hJ1:J [] M0 hp1 (es.nx+2):=hJk _ _ _ _ _ _ hJ0 (by omega) fun j hj=>hk1 j (hj.elim (hM0 j) fun h=>(hP j h).1)
 simp only [bSa,↓bSb]
 refine EW.l (I:=fun n es1=>∃ hs W M,tot hs≤n∧n < 900000∧hs.length=hs0.length∧(∀ h∈hs,∀ c∈h,c.pos≠[]∧c.pos.length < 900000∧c.vals≠[])∧es.nx+2≤es1.nx∧(∀ j,j < es.nx→¬ M0 j→es1.hp.get j=es.hp.get j)∧(∀ j,M j→M0 j∨es.nx+2≤j)∧J W M es1.hp es1.nx∧OL rCells es1.hp P (.ms (es.nx+1) 0 hs0.length 1) hs∧rawE es1 (.t .o)=.yl L∧rawE es1 (.t (.l (.l .o)))=.ms (es.nx+1) 0 hs0.length 1∧W ++ walkF n hs=walkL hs0) ?_ (tot hs0) 1000000 _ ?_ (by omega)
 ·rintro n es1 ⟨hs,W,M,htn,hn9,hlen,hcs,hle,hfr,hMs,hJ,ho,b0,b3,hW⟩
  unfold Ca1
  have hPM:∀ j,P j→j < es.nx∧¬ M j:=fun j hj=>⟨(hP j hj).1,fun h=>(hMs j h).elim (hP j hj).2 fun h=>by have:=(hP j hj).1; omega⟩
  have horl:=ho.rl
  simp only [bSa,↓bSb,reduceCtorEq,b3,horl.len]
  refine EW.up hs.length (fun i es2=>∃ A st,es2.hp=es1.hp∧es1.nx≤es2.nx∧rawE es2 (.t .o)=.yl L∧rawE es2 (.t (.l (.l .o)))=.ms (es.nx+1) 0 hs0.length 1∧rawE es2 (.t (.r (.l (.r .o))))=.ms (es.nx+1) 0 hs0.length 1∧rawE es2 (.t (.l (.r (.r .o))))=iv hs.length∧rawE es2 (.t (.r (.r (.r .o))))=iv (i:Nat)∧rawE es2 (.t (.r (.l .o)))=A∧AtR es1.hp P A st∧minF st (hs.drop i)=minF none hs) ?_ ?_ (by omega)
  ·rintro i es2 hi ⟨A,st,g1,g2,x0,x3,x12,x13,x14,x4,hA,hmin⟩
   unfold B99
   rw [← g1] at horl hA ho
   by_cases h:i < hs.length
   ·obtain ⟨hh,rh,lh⟩:=ho.atS h
    rw [List.drop_eq_getElem_cons h] at hmin
    have hch:=hcs _ (List.getElem_mem h)
    generalize hs[i]=H at rh hmin hch
    cases H with
    | nil=>
     have hmin':minF st (hs.drop (i+1))=minF none hs:=by rw [← hmin]; cases st <;> rfl
     simp only [bSa,↓bSb,reduceCtorEq,x0,x3,x12,x13,x14,x4,h,Aj7 horl h,lh,rh.len,List.length_nil,show decide ((0:Int) < 0)=false from rfl,Aa2 (show i < _ by omega)]
     exact ⟨A,st,g1,g2,rfl,by rw [← g1]; exact hA,hmin'⟩
    | cons c t=>
     have hch:=hch c (by simp)
     have h0:0 < (c :: t).length:=by simp
     obtain ⟨pA,vA,rpA,rvA,_,_,lpA,_⟩:=cells_at rh h0
     simp only [List.getElem_cons_zero] at rpA
     cases st with
     | none=>
      have hA:A=nilS:=hA
      subst hA
      have hmin':minF (some c.pos) (hs.drop (i+1))=minF none hs:=hmin
      simp only [bSa,↓bSb,reduceCtorEq,x12,x13,x14,x4,h,Aj7 horl h,lh,rh.len,show (0:Int) < ((c :: t).length:Int) from Int.natCast_pos.2 h0]
      refine Ag4 true (by simp only [n_ev,bR,bP,nilS,Ah7]; rfl) Ad4 ?_
      simp only [bSa,↓bSb,reduceCtorEq,x0,x3,x12,x13,x14,h,Am6 rh h0,Ae6 (k:=0) rh h0,lpA,Aa2 (show i < _ by omega)]
      exact ⟨pA,some c.pos,g1,g2,rfl,⟨by rw [← g1]; exact rpA,hch.1,hch.2.1⟩,hmin'⟩
     | some p=>
      obtain ⟨hA,hp1,hp2⟩:=hA
      simp only [bSa,↓bSb,reduceCtorEq,x12,x13,x14,x4,h,Aj7 horl h,lh,rh.len,show (0:Int) < ((c :: t).length:Int) from Int.natCast_pos.2 h0]
      refine Ag4 false (by simp only [n_ev,bR,bP,hA.live]; exact hA.notnil hp1) Ad4 ?_
      simp only [bSa,↓bSb,reduceCtorEq,x4,Am6 rh h0,Ae6 (k:=0) rh h0,lpA]
      refine kws (Ad8 k es.nx _ _ _ pA A c.pos p (by omega) (rpA.mono fun j hj=>(hPM j hj).1) (hA.mono fun j hj=>(hPM j hj).1) hch.2.1 ?_)
      by_cases c1:cmpL c.pos p = -1
      ·have hmin':minF (some c.pos) (hs.drop (i+1))=minF none hs:=by rw [← hmin]; show _=if cmpL c.pos p = -1 then _ else _; rw [if_pos c1]
       simp only [bSa,↓bSb,reduceCtorEq,x0,x3,x12,x13,x14,h,show cmpL c.pos p < 0 by omega,Am6 rh h0,Ae6 (k:=0) rh h0,lpA,Aa2 (show i < _ by omega)]
       exact ⟨pA,some c.pos,g1,g2,rfl,⟨by rw [← g1]; exact rpA,hch.1,hch.2.1⟩,hmin'⟩
      ·have hmin':minF (some p) (hs.drop (i+1))=minF none hs:=by rw [← hmin]; show _=if cmpL c.pos p = -1 then _ else _; rw [if_neg c1]
       simp only [bSa,↓bSb,reduceCtorEq,x0,x3,x12,x13,x14,x4,h,show ¬ cmpL c.pos p < 0 by have:=Ac4 c.pos p; omega,Aa2 (show i < _ by omega)]
       exact ⟨A,some p,g1,g2,rfl,⟨by rw [← g1]; exact hA,hp1,hp2⟩,hmin'⟩
   ·rw [List.drop_eq_nil_of_le (by omega)] at hmin
    have hst:minF none hs=st:=by rw [← hmin]; cases st <;> rfl
    simp only [bSa,↓bSb,reduceCtorEq,x13,x14,x4,h]
    cases st with
    | none=>
     have hA:A=nilS:=hA
     subst hA
     refine Ag4 true (by simp only [n_ev,bR,bP,nilS,Ah7]; rfl) Ad4 ?_
     simp only [bSa,↓bSb,reduceCtorEq]
     have hWe:W=walkL hs0:=by rw [← hW,A40 hst,List.append_nil]
     subst hWe
     refine hK _ _ M (by omega) (by rw [g1]; exact hfr) (fun j hj=>(hMs j hj).imp id fun h=>by omega) (hJk _ _ _ _ _ _ hJ g2 fun j hj=>by rw [g1])
    | some p=>
     obtain ⟨hA,hp1,hp2⟩:=hA
     refine Ag4 false (by simp only [n_ev,bR,bP,hA.live]; exact hA.notnil hp1) Ad4 ?_
     simp only [bSa,↓bSb,reduceCtorEq,x3,horl.len]
     simp only [↓Ct7]
     refine B31 (R:=rVal) (T:=37) (hd:=by decide) (n:=hs.length) (by simp only [n_ev,bR,bP,Ah7]) (by simp only [n_ev,bR,bP,Ah7]) (by omega) rfl (by omega) fun hp4 ho4 hk4=>?_
     simp only [bR] at ho4 hk4
     simp only [bSa,reduceCtorEq,x3]
     have hoH4:OL rCells hp4 P (.ms (es.nx+1) 0 hs0.length 1) hs:=by
      exact ho.keep fun j hj=>hk4 j (by
       rcases hj with hj | hj
       ·have:=(hPM j hj).1; omega
       ·simp [DV.refs] at hj; omega)
     have hA4:RL rInt hp4 P A p:=hA.keep fun j hj=>hk4 j (by have:=(hPM j hj).1; omega)
     simp only [bSa,hoH4.rl.len]
     refine EW.up hs.length (fun i es3=>OL rCells es3.hp P (.ms (es.nx+1) 0 hs0.length 1) (mixF (rsA p) id i hs)∧OL An9 es3.hp P (.ms es2.nx 0 hs.length 1) (mixF (stA p) (fun _=>[]) i hs)∧(∀ j,j≠es.nx+1→j≠es2.nx→es3.hp.get j=hp4.get j)∧es2.nx+1≤es3.nx∧rawE es3 (.t .o)=.yl L∧rawE es3 (.t (.l (.l .o)))=.ms (es.nx+1) 0 hs0.length 1∧rawE es3 (.t (.r (.l .o)))=A∧rawE es3 (.t (.l (.l (.l .o))))=.ms es2.nx 0 hs.length 1∧rawE es3 (.t (.r (.l (.r (.r (.l .o))))))=.ms (es.nx+1) 0 hs0.length 1∧rawE es3 (.t (.l (.r (.r (.r (.l .o))))))=iv hs.length∧rawE es3 (.t (.r (.r (.r (.r (.l .o))))))=iv (i:Nat)) ?_ ?_ (by omega)
     ·rintro i es3 hi ⟨oH,oS,hfr3,hle3,y0,y3,y4,y7,y44,y45,y46⟩
      unfold Ca0
      have hA3:RL rInt es3.hp P A p:=hA4.keep fun j hj=>hfr3 j (by have:=(hPM j hj).1; omega) (by have:=(hPM j hj).1; omega)
      by_cases h:i < hs.length
      ·have hH:i < (mixF (rsA p) id i hs).length:=by rw [Bt5]; exact h
       obtain ⟨hh,rh,lh⟩:=oH.atS hH
       have rh:RL rCell es3.hp P hh hs[i]:=by rw [Ct6 _ _ _ h] at rh; exact rh
       have hch:=hcs _ (List.getElem_mem h)
       have e1:=mix_e (rsA p) id hs h
       have e2:=mix_e (stA p) (fun _=>[]) hs h
       have s1:=mix_s (rsA p) id hs h
       have s2:=mix_s (stA p) (fun _=>[]) hs h
       generalize hs[i]=H at rh hch e1 e2 s1 s2
       cases H with
       | nil=>
        simp only [bSa,↓bSb,reduceCtorEq,y0,y3,y4,y7,y44,y45,y46,h,Aj7 oH.rl hH,lh,rh.len,List.length_nil,show decide ((0:Int) < 0)=false from rfl,Aa2 (show i < _ by omega)]
        exact ⟨by rw [← e1 rfl]; exact oH,by rw [← e2 rfl]; exact oS,hfr3,hle3⟩
       | cons c t=>
        have hch:=hch c (by simp)
        have h0:0 < (c :: t).length:=by simp
        obtain ⟨pA,vA,rpA,rvA,_,_,lpA,lvA⟩:=cells_at rh h0
        simp only [List.getElem_cons_zero] at rpA rvA
        simp only [bSa,↓bSb,reduceCtorEq,y4,y44,y45,y46,h,Aj7 oH.rl hH,lh,rh.len,show (0:Int) < ((c :: t).length:Int) from Int.natCast_pos.2 h0,Am6 rh h0,Ae6 (k:=0) rh h0,lpA]
        refine kws (Ad8 k es.nx _ _ _ pA A c.pos p (by omega) (rpA.mono fun j hj=>(hPM j hj).1) (hA3.mono fun j hj=>(hPM j hj).1) hch.2.1 ?_)
        by_cases c1:c.pos=p
        ·have rh':=rh.mono (q:=Bl es.nx) fun j hj=>(hPM j hj).1
         obtain ⟨_,_,flH,hgH,_⟩:=oH.get
         obtain ⟨_,_,flS,hgS,_⟩:=oS.get
         have hS:i < (mixF (stA p) (fun _=>[]) i hs).length:=by rw [Bt5]; exact h
         have v1:Go.DD.sliE 2 hh (some (.v (.int .i64 1))) none=some (slD 2 1 (c :: t).length hh):=rh.sliE (e:=2) (a:=1) (z:=(c :: t).length) (lo:=some (.v (.int .i64 1))) (hi:=none) rfl rfl (fun n hn=>by rw [hn]; rfl) h0 (Nat.le_refl _)
         have rs:RL rCell es3.hp P (slD 2 1 (c :: t).length hh) t:=by
          have this:RL rCell es3.hp P (slD 2 1 (c :: t).length hh) (((c :: t).drop 1).take ((c :: t).length - 1)):=rh.part (a:=1) (z:=(c :: t).length) h0 (Nat.le_refl _)
          have e:((c :: t).drop 1).take ((c :: t).length - 1)=t:=by simp
          rw [e] at this
          exact this
         have rs':=rs.mono (q:=Bl es.nx) fun j hj=>(hPM j hj).1
         have rvA':=rvA.mono (q:=Bl es.nx) fun j hj=>(hPM j hj).1
         have roS:∀ an,Aa6 (adrE 1 (.ms es2.nx 0 hs.length 1) i) (fun id=>okRef es3.nx 14 an es3.hp id):=fun an j hj=>by
          have:j=es2.nx:=by simpa [DV.refs] using Ap9 _ _ _ j hj
          rw [this]; exact Aa1 hgS (by omega)
         simp only [bSa,↓bSb,bP,reduceCtorEq,y3,y7,cmpL_0.2 c1,Am6 rh h0,Ae6 (k:=1) rh h0,lvA,rh'.rox (show es.nx≤es3.nx by omega),Ai0 rh' (show es.nx≤es3.nx by omega),Aw7 rh' (show es.nx≤es3.nx by omega),Aa1 (n0:=es3.nx) (m:=14) hgH (show es.nx+1 < es3.nx by omega),Aa1 (n0:=es3.nx) (m:=14) hgS (show es2.nx < es3.nx by omega),Cr8,Option.map_some,Option.map_none,rh.live,v1,oS.rl.iaN hS,iff_true_intro (roS _),rvA'.rox (show es.nx≤es3.nx by omega)]
         refine Aa0 rfl (Cj5 (R:=rVal) (T:=37) (hd:=by decide) (p:=P) (id:=es2.nx) (i:=i) (n:=hs.length) (m:=c.vals) (by simp only [bR]; show DV.pt es2.nx (0+i*1)=_; simp) oS (by simp only [evt,bR,reduceCtorEq,rvA.live]) rvA (.inl hch.2.2) hS (fun h=>by have:=(hPM _ h).1; omega) fun hp5 oS5 hk5=>?_)
         simp only [bR] at hk5
         have hk5':∀ j,j < es.nx→hp5.get j=es3.hp.get j:=fun j hj=>hk5 j (by omega)
         have oH5:OL rCells hp5 P (.ms (es.nx+1) 0 hs0.length 1) _:=oH.keep fun j hj=>hk5 j (by
          rcases hj with hj | hj
          ·have:=(hPM j hj).1; omega
          ·simp [DV.refs] at hj; omega)
         obtain ⟨_,_,flH5,hgH5,_⟩:=oH5.get
         have rs5:=rs.keep (hp':=hp5) fun j hj=>hk5' j (hPM j hj).1
         have rs5':=rs5.mono (q:=Bl es.nx) fun j hj=>(hPM j hj).1
         have roH:∀ an,Aa6 (adrE 1 (.ms (es.nx+1) 0 hs0.length 1) i) (fun id=>okRef es3.nx 14 an hp5 id):=fun an j hj=>by
          have:j=es.nx+1:=by simpa [DV.refs] using Ap9 _ _ _ j hj
          rw [this]; exact Aa1 hgH5 (by omega)
         simp only [bSa,↓bSb,reduceCtorEq,Aa1 (n0:=es3.nx) (m:=14) hgH5 (show es.nx+1 < es3.nx by omega),Aj7 oH5.rl hH,iff_true_intro (roH _),rs5'.rox (show es.nx≤es3.nx by omega)]
         refine Aa0 rfl (Cj4 (R:=rCell) (T:=24) (hd:=by decide) (p:=P) (id:=es.nx+1) (i:=i) (n:=hs0.length) (m:=t) (by simp only [bR]; show DV.pt (es.nx+1) (0+i*1)=_; simp) oH5 (by simp only [evt,bR,reduceCtorEq,rs5.live]) rs5 hH (fun h=>by have:=(hPM _ h).1; omega) fun hp6 oH6 hk6=>?_)
         simp only [bR] at hk6
         have hk6':∀ j,j < es.nx→hp6.get j=es3.hp.get j:=fun j hj=>(hk6 j (by omega)).trans (hk5' j hj)
         have oS6:OL An9 hp6 P (.ms es2.nx 0 hs.length 1) _:=OL.keep (R:=An9) oS5 fun j hj=>hk6 j (by
          rcases hj with hj | hj
          ·have:=(hPM j hj).1; omega
          ·simp [DV.refs] at hj; omega)
         simp only [bSa,↓bSb,reduceCtorEq,y0,y3,y4,y7,y44,y45,y46,h,Aa2 (show i < _ by omega)]
         obtain ⟨_,_,flH6,hgH6,_⟩:=oH6.get
         have hps:PsOK [⟨13,[12,9,11,0,1,2,3,4,5,6,7,8,10],hp5,hp6⟩,⟨11,[10,7,0,1,4,5,6],es3.hp,hp5⟩] es3.hp es.nx:=((PsOK.nil _ _).cons (fun _ _=>rfl) hk5').cons hk5' hk6'
         have s1':(mixF (rsA p) id i hs).set i t=mixF (rsA p) id (i+1) hs:=by rw [← s1,rsA_c,if_pos c1]
         have s2':(mixF (stA p) (fun _=>[]) i hs).set i c.vals=mixF (stA p) (fun _=>[]) (i+1) hs:=by rw [← s2,stA_c,if_pos c1]
         refine ⟨A76 rh' (fun j (hj:j < es.nx)=>by omega) hps (fun _ h=>h) (A76 rh' (fun j (hj:j < es.nx)=>by omega) hps (fun _ h=>h) (Ak4 (fun j hj=>?_) (Aw4 _ _ _))),by rw [← s1']; exact oH6,by rw [← s2']; exact oS6,fun j hj1 hj2=>by rw [hk6 j hj1,hk5 j hj2,hfr3 j hj1 hj2],by omega⟩
         have hj:j=es.nx+1:=by simpa [DV.refs] using hj
         subst hj
         refine ⟨by omega,fun p hp=>.inr (.inr ?_)⟩
         rw [if_neg (by simp)]
         simp only [List.mem_cons,List.not_mem_nil,or_false] at hp
         rcases hp with rfl | rfl
         ·show (((hp5.get (es.nx+1)).isSome) == ((hp6.get (es.nx+1)).isSome))=true
          rw [hgH5,hgH6]; rfl
         ·show (((es3.hp.get (es.nx+1)).isSome) == ((hp5.get (es.nx+1)).isSome))=true
          rw [hgH,hgH5]; rfl
        ·simp only [bSa,↓bSb,reduceCtorEq,y0,y3,y4,y7,y44,y45,y46,h,show decide (cmpL c.pos p=0)=false by simp [cmpL_0,c1],Aa2 (show i < _ by omega)]
         exact ⟨by rw [← e1 (by rw [rsA_c,if_neg c1]; rfl)]; exact oH,by rw [← e2 (by rw [stA_c,if_neg c1])]; exact oS,hfr3,hle3⟩
      ·have hA3:=hA3
       have hin:i=hs.length:=by omega
       subst hin
       rw [mix_n] at oH oS
       have hPl:∀ j,P j→j < es.nx:=fun j hj=>(hPM j hj).1
       have hMl:=hJM _ _ _ _ hJ
       have hMn:∀ j,M j→j≠es.nx+1∧j≠es2.nx:=fun j hj=>⟨fun e=>(hMs j hj).elim (fun h=>by have:=hM0 j h; omega) fun h=>by omega,fun e=>by have:=hMl j hj; omega⟩
       have hfr3':∀ j,j < es1.nx→j≠es.nx+1→es3.hp.get j=es1.hp.get j:=fun j hj hj2=>by rw [hfr3 j hj2 (by omega),hk4 j (by omega),g1]
       have hJ3:J W M es3.hp es3.nx:=hJk _ _ _ _ _ _ hJ (by omega) fun j hj=>hj.elim (fun hj=>hfr3' j (hMl j hj) (hMn j hj).1) fun hj=>hfr3' j (by have:=(hPM j hj).1; omega) (by have:=(hPM j hj).1; omega)
       obtain ⟨hL1,oL,hL2⟩:=hJL _ _ _ _ hJ3
       obtain ⟨n',hn',htn',hwk⟩:=Bb3 htn hst
       rw [hwk] at hW
       simp only [bSa,↓bSb,reduceCtorEq,y0,y4,y7,y45,y46,h]
       refine sws_y (L:=L) (by simp only [bR,reduceCtorEq]) hL2 ?_
       simp only [List.map_cons,List.map_nil,bR,reduceCtorEq]
       refine hstep W M _ _ A (.ms es2.nx 0 hs.length 1) p (hs.map (stA p)) _ hJ3 ⟨_,by rw [List.append_assoc]; exact hW⟩ hA3 oS (fun j hj=>?_) (fun j hj=>⟨by have:=hPl j hj; omega,(hPM j hj).2⟩) (fun hp' nx' M' hnx' hfr' hMs' hJ'=>?_) fun hp' nx' M' hnx' hfr' hMs' hS'=>?_
       ·have:j=es2.nx:=by simpa [DV.refs] using hj
        exact ⟨by omega,fun h=>(hMn j h).2 this⟩
       ·simp only [bSa,↓bSb,reduceCtorEq,y0,y3]
        refine ⟨n',by omega,hs.map (rsA p),W ++ [(p,hs.map (stA p))],M',htn',by omega,by rw [List.length_map]; exact hlen,?_,by omega,?_,?_,hJ',?_,by rw [List.append_assoc]; exact hW⟩
        ·intro h hh c hc
         obtain ⟨h',hh',rfl⟩:=List.mem_map.1 hh
         exact hcs h' hh' c (A39 hc)
        ·intro j hj hm
         have hmj:¬ M j:=fun h=>(hMs j h).elim hm fun h=>by omega
         rw [hfr' j (by omega) hmj,hfr3' j (by omega) (by omega),hfr j hj hm]
        ·intro j hj
         rcases hMs' j hj with h | h
         ·exact hMs j h
         ·exact .inr (by omega)
        ·exact oH.keep fun j hj=>by
          rcases hj with hj | hj
          ·exact hfr' j (by have:=hPl j hj; omega) (hPM j hj).2
          ·have:j=es.nx+1:=by simpa [DV.refs] using hj
           exact hfr' j (by omega) fun h=>(hMn j h).1 this
       ·simp only [bSa,↓bSb,reduceCtorEq]
        refine hKS _ _ _ M' (by omega) (fun j hj hm=>?_) (fun j hj=>?_) hS'
        ·have hmj:¬ M j:=fun h=>(hMs j h).elim hm fun h=>by omega
         rw [hfr' j (by omega) hmj,hfr3' j (by omega) (by omega),hfr j hj hm]
        ·rcases hMs' j hj with h | h
         ·exact (hMs j h).imp id fun h=>by omega
         ·exact .inr (by omega)
     ·simp only [bSa,reduceCtorEq,x0,x3,x4]
      refine ⟨?_,?_,fun _ _ _=>trivial⟩
      ·rw [mix_0,List.map_id]; exact hoH4
      ·rw [mix_0,List.map_const']; exact ho4 P
  ·refine ⟨nilS,none,?_⟩
   simp only [bSa,reduceCtorEq,b0,b3]
   exact ⟨rfl,rfl⟩
 ·refine ⟨hs0,[],M0,?_⟩
  simp only [bSa,reduceCtorEq,a0]
  exact ⟨htot,hc,fun j hj _=>hk1 j hj,fun j hj=>.inl hj,hJ1,ho1,rfl⟩
end
end Go.DD

/- Contracts: the changes Ba6 two cell lists. Conditions: those that each theorem states. -/
namespace Go.DD
open Go Go.Proofs
theorem Bi1 {n:Nat} : ∀ {hs:List (List PCell)},∀ w∈walkF n hs,w.2.length=hs.length∧(∃ h∈hs,∃ c∈h,c.pos=w.1)∧∀ v∈w.2,v=[]∨∃ h∈hs,∃ c∈h,v=c.vals:=by
 induction n with
 | zero=>intro hs w h; cases h
 | succ n ih=>
  intro hs w h
  cases e:minF none hs with
  | none=>rw [A40 e] at h; cases h
  | some p=>
   have h':w∈(p,hs.map (stA p)) :: walkF n (hs.map (rsA p)):=by
    have:walkF (n+1) hs=(p,hs.map (stA p)) :: walkF n (hs.map (rsA p)):=by
     show (match minF none hs with
      | none=>[]
      | some p=>(p,hs.map (stA p)) :: walkF n (hs.map (rsA p)))=_
     rw [e]
    rwa [this] at h
   rcases List.mem_cons.1 h' with rfl | h'
   ·obtain ⟨c,t,h1,h2⟩:=(A38 e).elim (fun h=>by cases h) id
    refine ⟨by simp,⟨_,h1,c,by simp,h2⟩,fun v hv=>?_⟩
    obtain ⟨h,hh,rfl⟩:=List.mem_map.1 hv
    cases h with
    | nil=>exact .inl rfl
    | cons c t=>
     rw [stA_c]
     split
     ·exact .inr ⟨_,hh,c,by simp,rfl⟩
     ·exact .inl rfl
   ·obtain ⟨h1,⟨h,hh,c,hc,h2⟩,h3⟩:=ih w h'
    obtain ⟨h0,hh0,rfl⟩:=List.mem_map.1 hh
    refine ⟨by rw [h1,List.length_map],⟨h0,hh0,c,A39 hc,h2⟩,fun v hv=>?_⟩
    rcases h3 v hv with h | ⟨h,hh,c,hc,rfl⟩
    ·exact .inl h
    ·obtain ⟨h0,hh0,rfl⟩:=List.mem_map.1 hh
     exact .inr ⟨h0,hh0,c,A39 hc,rfl⟩
theorem Ax1 {n:Nat} : ∀ {hs:List (List PCell)},(walkF n hs).length≤n:=by
 induction n with
 | zero=>intro hs; exact Nat.le_refl _
 | succ n ih=>
  intro hs
  show (match minF none hs with
   | none=>[]
   | some p=>(p,hs.map (stA p)) :: walkF n (hs.map (rsA p))).length≤_
  split
  ·simp
  ·simp only [List.length_cons]; have:=ih (hs:=hs.map (rsA ‹_›)); omega
def btw1 (w:List Int×List (List PVal)):List PCell:=match w.2 with
 | [u,v]=>if u=v then [] else [⟨w.1,v⟩]
 | _=>[]
def btw (W:List (List Int×List (List PVal))):List PCell:=W.flatMap btw1
theorem Bb4 (W:List (List Int×List (List PVal))):(btw W).length≤W.length:=by
 induction W with
 | nil=>exact Nat.le_refl _
 | cons w W ih=>
  have h:(btw1 w).length≤1:=by
   unfold btw1
   split
   ·split <;> simp
   ·simp
  unfold btw at ih ⊢
  rw [List.flatMap_cons,List.length_append,List.length_cons]
  omega
theorem Cb5 (z:List Value) (ps:List (Nat×Nat×Operand)) (nid:Nat) (es:ES):xKeep (xAny (.bld z ps)) nid es=(fillD (z.map .v) (ps.map fun p=>(p.1,p.2.1,es.ds.ev p.2.2))).map DV.agg:=by
 refine xk_k (X:=fun es=>(fillD (z.map .v) (ps.map fun p=>(p.1,p.2.1,es.ds.ev p.2.2))).map DV.agg) (fun es nid=>?_) nid
 rw [x_any]
 simp only [execU]
 cases fillD (z.map .v) (ps.map fun p=>(p.1,p.2.1,es.ds.ev p.2.2)) <;> rfl
theorem ro_pr {a b:DV} {f:Nat→Bool} (h1:Aa6 a f) (h2:Aa6 b f):Aa6 (.agg [a,b]) f:=fun id hid=>by
 have:id∈a.refs∨id∈b.refs:=by simpa [DV.refs,DV.refsL] using hid
 rcases this with h | h
 ·exact h1 id h
 ·exact h2 id h
def BJ (sl:Tr DV) (L bo:Nat) (W:List (List Int×List (List PVal))) (M:Nat→Prop) (hp:Tr DObj) (nx:Nat):Prop:=
 ∃ z T,hp.get L=some (.loop ⟨33,.t sl,[12,13],Az0,Az1,.ready,none⟩)∧hp.get bo=some (.row T [z])∧OL rChange hp (fun j=>M j∧j≠L∧j≠bo∧j∉z.refs) z (btw W)∧(∀ j∈z.refs,M j∧j≠L∧j≠bo)∧M L∧M bo∧L≠bo∧(∀ j,M j→j < nx)∧rawE ⟨sl,.e,0⟩ (.t (.l (.r .o)))=.pt bo 0
theorem BJ.keep {sl:Tr DV} {L bo:Nat} {W:List (List Int×List (List PVal))} {M:Nat→Prop} {hp hp':Tr DObj} {nx nx':Nat} (h:BJ sl L bo W M hp nx) (hn:nx≤nx') (hk:∀ j,M j→hp'.get j=hp.get j):BJ sl L bo W M hp' nx':=by
 obtain ⟨z,T,h1,h2,h3,h4,h5,h6,h7,h8,h9⟩:=h
 exact ⟨z,T,(hk L h5).trans h1,(hk bo h6).trans h2,h3.keep fun j hj=>hk j (hj.elim (fun h=>h.1) fun h=>(h4 j h).1),h4,h5,h6,h7,fun j hj=>Nat.lt_of_lt_of_le (h8 j hj) hn,h9⟩
theorem RL.iaN0 {hp:Tr DObj} {p:Nat→Prop} {d:DV} {l:List (List PVal)} (h:RL An9 hp p d l) (hi:0 < l.length):iaD hp 1 d (.v (.int .i64 0))=some (adrE 1 d 0):=h.ia hi
theorem RL.iaN1 {hp:Tr DObj} {p:Nat→Prop} {d:DV} {l:List (List PVal)} (h:RL An9 hp p d l) (hi:1 < l.length):iaD hp 1 d (.v (.int .i64 1))=some (adrE 1 d 1):=h.ia hi
theorem RL.roaN {hp:Tr DObj} {n0:Nat} {d:DV} {l:List (List PVal)} {n m i:Nat} {an:List Nat} (h:RL An9 hp (Bl n0) d l) (hn:n0≤n):Aa6 (adrE 1 d i) (fun id=>okRef n m an hp id)↔True:=iff_true_intro (h.roax hn)
theorem Bt6 (k:Nat) (hp:Tr DObj) (nx:Nat) (K:DV→Tr DObj→Nat→Prop) (sl:Tr DV) (L bo:Nat) (W:List (List Int×List (List PVal))) (M:Nat→Prop) (a s:DV) (p:List Int) (u v:List PVal) (hJ:BJ sl L bo W M hp nx) (ha:RL rInt hp (fun j=>j < nx∧¬ M j) a p) (hs:RL An9 hp (fun j=>j < nx∧¬ M j) s [u,v]) (hp0:p≠[]) (hp1:p.length < 900000) (hu:u.length < 900000) (hv:v.length < 900000) (hW:W.length < 900000)
  (hK:∀ hp' nx' M',nx≤nx'→(∀ j,j < nx→¬ M j→hp'.get j=hp.get j)→(∀ j,M' j→M j∨nx≤j)→BJ sl L bo (W ++ [(p,[u,v])]) M' hp' nx'→K (bv true) hp' nx') :
  KW (kN (k+2)) (.yl L) [a,s] hp nx K:=by
 obtain ⟨z,T,j1,j2,j3,j4,j5,j6,j7,j8,s5⟩:=hJ
 refine kn_yl j1 rfl rfl rfl rfl rfl ?_
 rw [show evalE 1000000 33 true Az0=Bs0 from Cs0]
 unfold Bs0
 have hz12:∀ hp nx,rawE ⟨zipT [12,13] [a,s] sl,hp,nx⟩ (.t (.r (.l (.r .o))))=a:=fun hp nx=>by
  show rawE (((ES.mk sl hp nx).putE (some (.r (.l (.r .o)))) a).putE (some (.l (.r (.r .o)))) s) (.t (.r (.l (.r .o))))=a
  simp only [bR,reduceCtorEq]
 have hz13:∀ hp nx,rawE ⟨zipT [12,13] [a,s] sl,hp,nx⟩ (.t (.l (.r (.r .o))))=s:=fun hp nx=>by
  show rawE (((ES.mk sl hp nx).putE (some (.r (.l (.r .o)))) a).putE (some (.l (.r (.r .o)))) s) (.t (.l (.r (.r .o))))=s
  simp only [bR]
 have hz5:∀ hp nx,rawE ⟨zipT [12,13] [a,s] sl,hp,nx⟩ (.t (.l (.r .o)))=.pt bo 0:=fun hp nx=>by
  show rawE (((ES.mk sl hp nx).putE (some (.r (.l (.r .o)))) a).putE (some (.l (.r (.r .o)))) s) (.t (.l (.r .o)))=.pt bo 0
  simp only [bR,reduceCtorEq]
  exact s5
 generalize zipT [12,13] [a,s] sl=zz at hz12 hz13 hz5
 simp only [bSa,↓bSb,reduceCtorEq,hz12,hz13]
 refine ⟨_,j1,rfl,?_⟩
 rw [show evalE 1000000 33 true Az1=Bs1 from Cs1]
 unfold Bs1
 obtain ⟨lp,hlp⟩:∃ lp:DLoop,lp=⟨33,.t sl,[12,13],Az0,Az1,.busy,none⟩:=⟨_,rfl⟩
 have hb1:∀ j,j≠L→(hp.set L (some (.loop lp))).get j=hp.get j:=fun j hj=>by rw [Tr.get_set,if_neg (Ne.symm hj)]
 have hbL:(hp.set L (some (.loop lp))).get L=some (.loop lp):=by rw [Tr.get_set,if_pos rfl]
 have fin:∀ (hp2:Tr DObj) (nx2:Nat) (M':Nat→Prop) (z':DV),nx≤nx2→hp2.get L=some (.loop lp)→hp2.get bo=some (.row T [z'])→OL rChange hp2 (fun j=>M' j∧j≠L∧j≠bo∧j∉z'.refs) z' (btw (W ++ [(p,[u,v])]))→(∀ j∈z'.refs,M' j∧j≠L∧j≠bo)→M' L→M' bo→(∀ j,M' j→j < nx2)→(∀ j,j < nx→¬ M j→hp2.get j=hp.get j)→(∀ j,M' j→M j∨nx≤j)→
   K (.v (.bool true)) (hp2.set L (some (.loop { lp with st:=.ready,pend:=none }))) nx2:=by
  intro hp2 nx2 M' z' q1 q2 q3 q4 q5 q6 q7 q8 q9 q10
  have g1:∀ j,j≠L→(hp2.set L (some (.loop { lp with st:=.ready,pend:=none }))).get j=hp2.get j:=fun j hj=>by rw [Tr.get_set,if_neg (Ne.symm hj)]
  exact hK _ _ M' q1 (fun j hj hm=>by rw [g1 j (fun e=>hm (e ▸ j5))]; exact q9 j hj hm) q10 ⟨z',T,by rw [Tr.get_set,if_pos rfl,hlp],by rw [g1 bo (Ne.symm j7)]; exact q3,q4.keep fun j hj=>g1 j (hj.elim (fun h=>h.2.1) fun h=>(q5 j h).2.1),q5,q6,q7,j7,q8,s5⟩
 rw [← hlp]
 generalize hp.set L (some (.loop lp))=hq at hb1 hbL ⊢
 clear hlp
 have kR:∀ j,(j < nx∧¬ M j)→hq.get j=hp.get j:=fun j hj=>hb1 j fun e=>hj.2 (e ▸ j5)
 have ha1:=ha.keep (hp':=hq) kR
 have hs1:=hs.keep (hp':=hq) kR
 have hs1':=hs1.mono (q:=Bl nx) fun j hj=>hj.1
 obtain ⟨dU,rU,nU,lU⟩:=hs1.atN (show 0 < [u,v].length by simp)
 obtain ⟨dV,rV,nV,lV⟩:=hs1.atN (show 1 < [u,v].length by simp)
 have rU':RL rVal hq (Bl nx) dU u:=rU.mono fun j hj=>hj.1
 have rV':RL rVal hq (Bl nx) dV v:=rV.mono fun j hj=>hj.1
 have hbo:hq.get bo=some (.row T [z]):=(hb1 bo (Ne.symm j7)).trans j2
 simp only [bSa,↓bSb,reduceCtorEq,hs1.iaN0 (by simp),hs1.iaN1 (by simp),lU,lV,hs1'.rox (Nat.le_refl _),hs1'.roaN (Nat.le_refl _),rU'.rox (Nat.le_refl _),rV'.rox (Nat.le_refl _)]
 refine Aa0 rfl (Ad1 ?_)
 simp only [bR,reduceCtorEq,List.map_cons,List.map_nil]
 refine Cb0 (k+1 - 1) nx _ _ _ dU dV u v (by omega) rU' rV' hu fun nx6 hle6=>?_
 have hrow:(W ++ [(p,[u,v])]).flatMap btw1=btw W ++ btw1 (p,[u,v]):=by rw [List.flatMap_append]; simp [btw]
 by_cases c1:u=v
 ·have hrow':btw (W ++ [(p,[u,v])])=btw W:=by
   show (W ++ [(p,[u,v])]).flatMap btw1=_
   rw [hrow]; unfold btw1; simp only; rw [if_pos c1,List.append_nil]
  simp only [bSa,↓bSb,decide_eq_true c1,hle6]
  refine ⟨lp,hbL,fin hq nx6 M z (by omega) hbL hbo ?_ j4 j5 j6 (fun j hj=>by have:=j8 j hj; omega) (fun j _ hm=>hb1 j fun e=>hm (e ▸ j5)) fun j hj=>.inl hj⟩
  rw [hrow']
  exact j3.keep fun j hj=>hb1 j (hj.elim (fun h=>h.2.1) fun h=>(j4 j h).2.1)
 ·have hrow':btw (W ++ [(p,[u,v])])=btw W ++ [⟨p,v⟩]:=by
   show (W ++ [(p,[u,v])]).flatMap btw1=_
   rw [hrow]; unfold btw1; simp only; rw [if_neg c1]
  have ha1':=ha1.mono (q:=Bl nx) fun j hj=>hj.1
  have hLn:=j8 L j5
  have hbn:=j8 bo j6
  simp only [bSa,↓bSb,reduceCtorEq,decide_eq_false c1,hle6,hz5,Af4 hbo,Aa1 (n0:=nx6) (m:=11) hbo (show bo < nx6 by have:=j8 bo j6; omega),ha1'.rox (show nx≤nx6 by omega)]
  refine Aa0 rfl (Ad1 ?_)
  simp only [bR,List.map_cons,List.map_nil]
  refine A80 k nx _ _ _ a p (by omega) ha1' (.inl hp0) (by omega) fun hp7 nx7 a' hal7 ho7 hr7 _=>?_
  have hle7:=hal7.le
  have hs7:=hs1'.ka (nx:=nx6+11) (by omega) hal7
  have rV7:=rV'.ka (nx:=nx6+11) (by omega) hal7
  have rA7:=ho7.rlF hr7
  have hbo7:hp7.get bo=some (.row T [z]):=(hal7.same bo (by omega)).trans hbo
  obtain ⟨dV7,rV7,nV7,lV7⟩:=hs7.atN (show 1 < [u,v].length by simp)
  have rV7:RL rVal hp7 (Bl nx) dV7 v:=rV7
  simp only [bSa,↓bSb,reduceCtorEq,hle7,hs7.iaN1 (by simp),lV7,hs7.rox (show nx≤nx6 by omega),hs7.roaN (show nx≤nx6 by omega),rV7.rox (show nx≤nx6 by omega)]
  refine Aa0 rfl (Ad1 ?_)
  simp only [bR,List.map_cons,List.map_nil]
  refine A81 k nx _ _ _ dV7 v (by omega) rV7 nV7 (by omega) fun hp8 nx8 v' hal8 ho8 hr8 _=>?_
  have hle8:=hal8.le
  have rB8:=ho8.rlF hr8
  have rA8:=rA7.keep (hp':=hp8) fun j hj=>hal8.same j hj.2
  have roA:∀ an,Aa6 a' (fun id=>okRef nx6 11 an hp8 id):=fun an=>rA8.ro' (n:=nx6) (m:=11) fun j hj=>.inr hj.1
  have roB:∀ an,Aa6 v' (fun id=>okRef nx6 11 an hp8 id):=fun an=>rB8.ro' (n:=nx6) (m:=11) fun j hj=>.inr (by have:=hj.1; omega)
  have roAB:∀ an,Aa6 (.agg [a',v']) (fun id=>okRef nx6 11 an hp8 id):=fun an=>ro_pr (roA an) (roB an)
  have hfb:=Bi0 (z:=.slice none 0 0) (w:=.slice none 0 0) rA8.ok rB8.ok
  simp only [bSa,↓bSb,bP,reduceCtorEq,hle8,Cb5,rA8.live,rB8.live,hfb,Option.map_some,iff_true_intro (roA _),iff_true_intro (roB _),iff_true_intro (roAB _)]
  refine Bh3 (fl:=[a',v']) rfl (by simp only [List.map_cons,List.map_nil,n_ev,bR,bP,Aa4 rA8 rB8]; rfl) fun hp9 hg9 hk9=>?_
  simp only [bR] at hg9 hk9
  have hk9':∀ j,j < nx6→hp9.get j=hp8.get j:=fun j hj=>hk9 j (by omega)
  have hkq:∀ j,j < nx6→hp9.get j=hq.get j:=fun j hj=>by rw [hk9' j hj,hal8.same j (by omega),hal7.same j (by omega)]
  have rA9:=rA8.keep (hp':=hp9) fun j hj=>hk9 j (by have:=hj.1; omega)
  have rB9:=rB8.keep (hp':=hp9) fun j hj=>hk9 j (by have:=hj.1; omega)
  have j3q:OL rChange hq _ z (btw W):=j3.keep fun j hj=>hb1 j (hj.elim (fun h=>h.2.1) fun h=>(j4 j h).2.1)
  have hzM:∀ j,(M j∧j≠L∧j≠bo∧j∉z.refs)∨j∈z.refs→j < nx:=fun j hj=>hj.elim (fun h=>j8 j h.1) fun h=>j8 j (j4 j h).1
  have j39:OL rChange hp9 _ z (btw W):=j3q.keep fun j hj=>hkq j (by have:=hzM j hj; omega)
  have roZ:∀ an,Aa6 z (fun id=>okRef nx6 11 an hp9 id):=fun an=>j39.rl.ro' (n:=nx6) (m:=11) fun j hj=>.inl (by have:=hzM j hj; omega)
  have hblen:=Bb4 W
  simp only [bSa,↓bSb,reduceCtorEq,iff_true_intro (roZ _)]
  refine ⟨A72 hg9 rfl,?_⟩
  refine Aa0 rfl (Ah9 (R:=rChange) (p:=fun j=>M j∧j≠L∧j≠bo∧j∉z.refs) (p2:=Bw (nx6+11) nx8) (d:=z) (d2:=.ms (nx6+8) 0 1 2) (l:=btw W) (m:=[⟨p,v⟩]) (by simp only [bR,reduceCtorEq,bP]) j39 (by simp only [n_ev,bR,bP]; exact Am2 hg9) (A32 (R:=rChange) (x:=⟨p,v⟩) hg9 (rChange_rd.2 ⟨a',v',rfl,rA9.mono fun j hj=>⟨hj.1,by have:=hj.2; omega⟩,rB9.mono fun j hj=>⟨by have:=hj.1; omega,hj.2⟩⟩)) rfl rfl (by rw [List.length_singleton]; omega) (by decide) fun hp10 hk10 h10=>?_)
  simp only [bR] at hk10 h10
  have hzn:∀ j∈z.refs,j < nx:=fun j hj=>j8 j (j4 j hj).1
  have o10:=h10 (fun j=>(M j∨(nx≤j∧j < nx8))∧j≠L∧j≠bo∧j∉z.refs) (fun j hj=>by
   rcases hj with hj | hj
   ·exact ⟨⟨.inl hj.1,hj.2⟩,by have:=j8 j hj.1; omega,hj.2.2.2⟩
   ·have h1:=hj.1
    have h2:=hj.2
    exact ⟨⟨.inr ⟨by omega,h2⟩,by omega,by omega,fun h=>by have:=hzn j h; omega⟩,by omega,fun h=>by have:=hzn j h; omega⟩)
  have hbo9:hp9.get bo=some (.row T [z]):=(hkq bo (by omega)).trans hbo
  have hbo10:hp10.get bo=some (.row T [z]):=(hk10 bo (by omega) fun h=>(j4 bo h).2.2 rfl).trans hbo9
  obtain ⟨_,_,flN,hgN,_⟩:=o10.get
  have roN:∀ an,okRef nx6 11 an hp10 nx8=true:=fun an=>(Aj5 hp10 nx8).2 ⟨by rw [hgN]; rfl,.inr (.inl (by omega))⟩
  simp only [bSa,↓bSb,reduceCtorEq,hz5,Aa1 (n0:=nx6) (m:=11) hbo10 (show bo < nx6 by omega),roN _,Nat.le_succ]
  refine Aa0 rfl (An8 (id:=bo) (off:=0) (by simp only [bR,reduceCtorEq,hz5]) hbo10 (by simp only [evt,bR]; exact Am2 hgN) (ok_ms _ _ _ _) (by simp) fun hp11 hg11 hk11=>?_)
  simp only [bR] at hg11 hk11
  simp only [bSa,↓bSb]
  have w7:∀ j,j < nx→¬ M j→hp7.get j=hq.get j:=fun j hj _=>hal7.same j (by omega)
  have w8:∀ j,j < nx→¬ M j→hp8.get j=hq.get j:=fun j hj hm=>by rw [hal8.same j (by omega),w7 j hj hm]
  have w9:∀ j,j < nx→¬ M j→hp9.get j=hq.get j:=fun j hj hm=>hkq j (by omega)
  have w10:∀ j,j < nx→¬ M j→hp10.get j=hq.get j:=fun j hj hm=>by rw [hk10 j (by omega) (fun h=>hm (j4 j h).1),w9 j hj hm]
  have w11:∀ j,j < nx→¬ M j→hp11.get j=hq.get j:=fun j hj hm=>by rw [hk11 j (fun e=>hm (e ▸ j6)),w10 j hj hm]
  have hps:∀ q∈[(⟨10,[9,0,1,2,3,4,5,6,7,8],hp10,hp11⟩:Past),⟨9,[0,8,6,7,2,1,5,4,3],hp9,hp10⟩,⟨6,[5,2,4,3,1],hp7,hp8⟩,⟨2,[1],hq,hp7⟩],(∀ j,(j < nx∧¬ M j)→q.a.get j=hq.get j)∧∀ j,(j < nx∧¬ M j)→q.b.get j=hq.get j:=by
   intro q hq'
   simp only [List.mem_cons,List.not_mem_nil,or_false] at hq'
   rcases hq' with rfl | rfl | rfl | rfl
   ·exact ⟨fun j hj=>w10 j hj.1 hj.2,fun j hj=>w11 j hj.1 hj.2⟩
   ·exact ⟨fun j hj=>w9 j hj.1 hj.2,fun j hj=>w10 j hj.1 hj.2⟩
   ·exact ⟨fun j hj=>w7 j hj.1 hj.2,fun j hj=>w8 j hj.1 hj.2⟩
   ·exact ⟨fun j hj=>rfl,fun j hj=>w7 j hj.1 hj.2⟩
  have hsz:∀ c∈[z],Ab5 6 c c=true:=fun c hc=>by rw [List.mem_singleton.1 hc]; exact j39.rl.same (by decide)
  have hbo8:hp8.get bo=some (.row T [z]):=(hal8.same bo (by omega)).trans hbo7
  refine ⟨A76 hs1 (fun j hj=>by have:=hj.1; omega) hps (Ap9 _ _ _) (A76 hs1 (fun j hj=>by have:=hj.1; omega) hps (fun _ h=>h) (A76 hs1 (fun j hj=>by have:=hj.1; omega) hps (fun _ h=>h) (Ak4 (fun j hj=>?_) (Aw4 _ _ _)))),lp,?_,?_⟩
  ·have hj:j=bo:=by simpa [DV.refs] using hj
   subst hj
   refine ⟨by omega,fun q hq'=>?_⟩
   simp only [List.mem_cons,List.not_mem_nil,or_false] at hq'
   rcases hq' with rfl | rfl | rfl | rfl
   ·exact .inl rfl
   ·exact .inl rfl
   ·exact .inr (.inr (by rw [if_pos rfl]; exact Ah8 hbo7 (hbo8.trans hbo7.symm) hsz))
   ·exact .inr (.inr (by rw [if_pos rfl]; exact Ah8 hbo (hbo7.trans hbo.symm) hsz))
  ·rw [hk11 L j7,hk10 L (by omega) (fun h=>(j4 L h).2.1 rfl),hkq L (by omega)]
   exact hbL
  ·refine fin hp11 (nx8+1) (fun j=>M j∨(nx≤j∧j < nx8+1)) (.ms nx8 0 (btw W ++ [(⟨p,v⟩:PCell)]).length 2) (by omega) ?_ ?_ ?_ ?_ (.inl j5) (.inl j6) ?_ ?_ ?_
   ·rw [hk11 L j7,hk10 L (by omega) (fun h=>(j4 L h).2.1 rfl),hkq L (by omega)]
    exact hbL
   ·exact hg11
   ·rw [hrow']
    have o11:=o10.keep (hp':=hp11) fun j hj=>hk11 j (by
     rcases hj with hj | hj
     ·exact hj.2.2.1
     ·have:j=nx8:=by simpa [DV.refs] using hj
      omega)
    refine OL.mono o11 fun j hj=>?_
    refine ⟨hj.1.imp id (fun h=>And.intro h.1 (Nat.lt_succ_of_lt h.2)),hj.2.1,hj.2.2.1,fun h=>?_⟩
    have h:j=nx8:=by simpa [DV.refs] using h
    rcases hj.1 with h2 | h2
    ·have:=j8 j h2; omega
    ·have:=h2.2; omega
   ·intro j hj
    have:j=nx8:=by simpa [DV.refs] using hj
    exact ⟨.inr ⟨by omega,by omega⟩,by omega,by omega⟩
   ·intro j hj
    rcases hj with h | h
    ·have:=j8 j h; omega
    ·exact h.2
   ·intro j hj hm
    rw [w11 j hj hm]
    exact hb1 j fun e=>hm (e ▸ j5)
   ·exact fun j hj=>hj.imp id fun h=>h.1
end Go.DD

/- Contracts: the program's Delta. Conditions: those that each theorem states. -/
namespace Go.DD
open Go Go.Proofs
theorem Rows.two {R:Rep (List PCell)} {hp:Tr DObj} {p:Nat→Prop} {a b:DV} {x y:List PCell} (h1:R.rd hp p [a] x) (h2:R.rd hp p [b] y):Rows R hp p [a,b] [x,y]:=⟨[a],[b],rfl,h1,[b],[],rfl,h2,rfl⟩
theorem Ct8 {z:Value} {a b:DV} (h1:a.okC=true∧a.cells=[a]) (h2:b.okC=true∧b.cells=[b]):fillD (List.replicate 2 ([z].map DV.v)).flatten [(0,1,a),(1,1,b)]=some [a,b]:=by
 simp [fillD,h1.1,h1.2,h2.1,h2.2]
theorem Aj8 {x:PArr} (h:Aa5 x=0):∀ c∈x.cells,c.vals≠[]:=fun c hc he=>by
 have h1:=(Aa8 h).2.1 c hc
 have h2:=(Aa8 h).2.2
 have h3:c.vals.length=x.attrs.length:=by
  unfold cellE at h1
  split at h1
  ·cases h1
  ·rename_i h3; omega
 have h4:x.attrs.length=0:=by rw [← h3,he]; rfl
 unfold Af5 at h2
 split at h2
 ·rename_i h5; exact h5 h2
 ·rw [if_pos (Or.inl (show x.attrs.length < 1 by omega))] at h2; cases h2
def Ab1 (x y:PArr):List PCell:=if Aa5 x≠0∨Aa5 y≠0 then [] else if Am7 x y=false then [] else btw (walkL [x.cells,y.cells])
section
variable (k n0:Nat) (hp:Tr DObj) (nx:Nat) (K:DV→Tr DObj→Nat→Prop)
theorem Cj6 (d:DV) (hd:d.okC=true∧d.cells=[d]) (hl:liveE hp d=d) (hK:∀ hp',hp'.get nx=some (.row 201 [d])→(∀ j,j≠nx→hp'.get j=hp.get j)→K (.fn (.func 138) [.tup [],.pt nx 0]) hp' (nx+1)):KW (kN (k+1)) (.fn 68) [d] hp nx K:=by
 refine kn_1 (Aa3 (by decide)) t68 (Nat.le_of_ble_eq_true rfl) fun es e1 e2 he=>?_
 have a0:rawE es (.t .o)=d:=he 0 _ rfl
 unfold r68
 subst e1 e2
 simp only [↓bSb]
 refine Bh2 (v:=d) (by simp only [evt,a0,hl]) hd fun hp1 hg1 hk1=>?_
 simp only [bR] at hg1 hk1
 simp only [bSa,↓bSb,bP,reduceCtorEq]
 have e1:liveE hp1 (.pt es.nx 0)=.pt es.nx 0:=Ag1 fun id hid=>by
  have:id=es.nx:=by simpa [DV.refs] using hid
  rw [this,hg1]; rfl
 rw [e1]
 have e2:liveE hp1 (.fn (.func 138) [.tup [],.pt es.nx 0])=.fn (.func 138) [.tup [],.pt es.nx 0]:=Ag1 fun id hid=>by
  have:id=es.nx:=by simpa [DV.refs,DV.refsL] using hid
  rw [this,hg1]; rfl
 rw [e2]
 exact hK _ hg1 hk1
theorem Ct9 {es1:ES} {Q:Exit→ES→Prop} (bo:Nat) (l m:List PCell) (hn:n0≤bo) (hb:es1.nx=bo+3) (hrow:RL rCells es1.hp (fun j=>j < n0∨j=bo+1) (.ms (bo+1) 0 2 1) [l,m]) (hl:l.length+m.length≤128)
  (hc:∀ c,c∈l∨c∈m→c.pos≠[]∧c.pos.length < 900000∧c.vals≠[]∧c.vals.length < 900000)
  (hgb:es1.hp.get bo=some (.row 109 [nilS])) (hg3:es1.hp.get (bo+1+1)=some (.row 201 [.ms (bo+1) 0 2 1])) (b5:rawE es1 (.t (.l (.r .o)))=.pt bo 0) (b11:rawE es1 (.t (.l (.l (.r .o))))=.fn (.func 138) [.tup [],.pt (bo+1+1) 0])
  (hQ:∀ hp' nx' z T,es1.nx≤nx'→(∀ j,j < bo→hp'.get j=es1.hp.get j)→hp'.get bo=some (.row T [z])→RL rChange hp' (Bl nx') z (btw (walkL [l,m]))→Q .normal ⟨es1.sl,hp',nx'⟩) :
  EW (cR 33 false (.t (.l (.l (.r .o)))) [12,13] Az0 Az1) (kN (k+5)) es1 Q:=by
 have htl:tot [l,m]=l.length+m.length:=by simp [tot]
 have hwin:=fun w (hw:w∈walkL [l,m])=>Bi1 (n:=tot [l,m]) (hs:=[l,m]) w hw
 have hwl:(walkL [l,m]).length≤128:=Nat.le_trans Ax1 (by omega)
 have hcell:∀ h∈[l,m],∀ c∈h,c∈l∨c∈m:=fun h hh c hch=>by
  simp only [List.mem_cons,List.not_mem_nil,or_false] at hh
  rcases hh with rfl | rfl
  ·exact .inl hch
  ·exact .inr hch
 have hset:∀ (x:Option DObj) j,j≠bo+3→(es1.hp.set (bo+3) x).get j=es1.hp.get j:=fun x j hj=>by rw [Tr.get_set,if_neg (Ne.symm hj)]
 refine B90 (f:=138) (cs:=[.pt (bo+1+1) 0]) ?_ ?_
 ·rw [evt,b11]
  exact Ag1 fun id hid=>by
   have:id=bo+1+1:=by simpa [DV.refs,DV.refsL] using hid
   rw [this,hg3]; rfl
 ·rw [hb]
  refine B32 k (bo+3) (bo+1+1) 201 (.ms (bo+1) 0 2 1) [l,m] (fun j=>j < n0∨j=bo+1) (BJ es1.sl (bo+3) bo) (fun _ _ _ _=>False) (fun j=>j=bo+3∨j=bo) _ _ _ ((hset _ _ (by omega)).trans hg3) (hrow.keep fun j hj=>hset _ j (by rcases hj with h | h <;> omega)) (fun j hj=>by rcases hj with h | h <;> exact ⟨by omega,by omega⟩) (by simp) (by simp) (fun h hh c hc'=>by obtain ⟨h1,h2,h3,h4⟩:=hc c (hcell h hh c hc'); exact ⟨h1,h2,h3⟩) (by omega) ?_ ?_ ?_ ?_ ?_ ?_ ?_
  ·exact ⟨nilS,109,by rw [Tr.get_set,if_pos rfl],by rw [hset _ _ (by omega)]; exact hgb,.nil,fun j hj=>by (cases hj),.inl rfl,.inr rfl,by omega,fun j hj=>by rcases hj with h | h <;> omega,b5⟩
  ·exact fun W M hp nx ⟨z,T,h1,h2,h3,h4,h5,h6,h7,h8,h9⟩=>h8
  ·exact fun W M hp nx ⟨z,T,h1,h2,h3,h4,h5,h6,h7,h8,h9⟩=>⟨h5,_,h1⟩
  ·exact fun W M hp nx hp' nx' h hn hk=>h.keep hn fun j hj=>hk j (.inl hj)
  ·intro W M hp nx a s p sts K hJ hpre ha hs hsr hPM hKt _
   have hmem:(p,sts)∈walkL [l,m]:=hpre.subset (by simp)
   obtain ⟨g1,⟨h,hh,c,hc',g2⟩,g3⟩:=hwin _ hmem
   obtain ⟨u,v,rfl⟩:∃ u v,sts=[u,v]:=by
    match sts,g1 with
    | [u,v],_=>exact ⟨u,v,rfl⟩
   have g2:c.pos=p:=g2
   have hpc:=hc c (hcell h hh c hc')
   have hval:∀ x∈[u,v],x.length < 900000:=fun x hx=>by
    rcases g3 x hx with rfl | ⟨h,hh,c,hc',rfl⟩
    ·simp
    ·exact (hc c (hcell h hh c hc')).2.2.2
   refine Bt6 (k+2) hp nx K _ _ _ W M a s p u v hJ (ha.mono hPM) (hs.rl.mono fun j hj=>hj.elim (hPM j) (hsr j)) (by rw [← g2]; exact hpc.1) (by rw [← g2]; exact hpc.2.1) (hval u (by simp)) (hval v (by simp)) ?_ hKt
   have:=hpre.length_le
   rw [List.length_append] at this
   omega
  ·intro hp' nx' M' hnx' hfr' hM' ⟨z,T,g1,g2,g3,g4,g5,g6,g7,g8,g9⟩
   have hs4:∀ j,j≠bo+3→(hp'.set (bo+3) none).get j=hp'.get j:=fun j hj=>by rw [Tr.get_set,if_neg (Ne.symm hj)]
   refine ⟨_,g1,by simp,.inl ⟨rfl,?_⟩⟩
   have gb:(hp'.set (bo+3) none).get bo=some (.row T [z]):=(hs4 _ (by omega)).trans g2
   have o':=g3.keep (hp':=hp'.set (bo+3) none) fun j hj=>hs4 j (hj.elim (fun h=>h.2.1) fun h=>(g4 j h).2.1)
   have r':RL rChange (hp'.set (bo+3) none) (Bl nx') z (btw (walkL [l,m])):=o'.rl.mono fun j hj=>g8 j (hj.elim (fun h=>h.1) fun h=>(g4 j h).1)
   refine hQ _ _ z T (by omega) (fun j hj=>?_) gb r'
   rw [hs4 j (by omega),hfr' j (by omega) (by omega),hset _ j (by omega)]
  ·exact fun _ _ _ _ _ _ _ h=>h.elim
theorem Bl1 (d1 d2:DV) (l m:List PCell) (hn:n0≤nx) (h1:RL rCell hp (Bl n0) d1 l) (h2:RL rCell hp (Bl n0) d2 m) (hl:l.length+m.length≤128)
  (hc:∀ c,c∈l∨c∈m→c.pos≠[]∧c.pos.length < 900000∧c.vals≠[]∧c.vals.length < 900000)
  (hK:∀ hp' nx' d',Al hp nx hp' nx'→RL rChange hp' (Bl nx') d' (btw (walkL [l,m]))→K d' hp' nx'):KW (kN (k+6)) (.fn 81) [d1,d2] hp nx K:=by
 refine kn_1 (Aa3 (by decide)) t81 (Nat.le_of_ble_eq_true rfl) fun es e1 e2 he=>?_
 have a0:rawE es (.t .o)=d1:=he 0 _ rfl
 have a1:rawE es (.t (.l .o))=d2:=he 1 _ rfl
 unfold r81
 subst e1 e2
 simp only [bSa,↓bSb]
 refine Ad6 fun hp1 hg1 hk1=>?_
 simp only [bR] at hg1 hk1
 have q1:=h1.keep fun j (hj:j < n0)=>hk1 j (by omega)
 have q2:=h2.keep fun j (hj:j < n0)=>hk1 j (by omega)
 simp only [bSa,↓bSb,reduceCtorEq,a0,a1]
 refine Am3 (fl:=[d1,d2]) rfl (by simp only [List.map_cons,List.map_nil,n_ev,bR,reduceCtorEq,bP,q1.live,q2.live]; exact Ct8 q1.ok q2.ok) fun hp2 hg2 hk2=>?_
 simp only [bR] at hg2 hk2
 have q1':=q1.keep fun j (hj:j < n0)=>hk2 j (by omega)
 have q2':=q2.keep fun j (hj:j < n0)=>hk2 j (by omega)
 have hrow:RL rCells hp2 (fun j=>j < n0∨j=es.nx+1) (.ms (es.nx+1) 0 2 1) [l,m]:=(OL.ms (R:=rCells) (p:=Bl n0) (es.nx+1) _ [l,m] hg2 (Rows.two ⟨_,rfl,q1'⟩ ⟨_,rfl,q2'⟩)).rl.mono fun j hj=>hj.imp id fun h=>by simpa [DV.refs] using h
 simp only [bSa,↓bSb]
 refine kws (Cj6 (k+4) _ _ _ _ ⟨rfl,rfl⟩ hrow.live fun hp3 hg3 hk3=>?_)
 have hbo3:hp3.get es.nx=some (.row 109 [nilS]):=by rw [hk3 _ (by omega),hk2 _ (by omega)]; exact hg1
 have hrow3:=hrow.keep (hp':=hp3) fun j hj=>hk3 j (by rcases hj with h | h <;> omega)
 simp only [bSa,↓bSb]
 refine Ct9 k n0 es.nx l m hn rfl hrow3 hl hc hbo3 hg3 (by simp only [bR,reduceCtorEq]) (by simp only [bR]) fun hp4 nx4 z T hnx4 hfr4 hgb4 hr4=>?_
 simp only [bSa,↓bSb,bP,reduceCtorEq,Af4 hgb4,hr4.live]
 refine hK _ _ z ⟨by simp only [] at hnx4; omega,fun j hj=>?_⟩ hr4
 rw [hfr4 j hj]
 simp only []
 rw [hk3 j (by omega),hk2 j (by omega),hk1 j (by omega)]
theorem Bi2 (d1 d2:DV) (x y:PArr) (hn:n0≤nx) (h1:AR hp (Bl n0) d1 x) (h2:AR hp (Bl n0) d2 y) (hx:AOK x) (hy:AOK y) (hc:x.cells.length+y.cells.length≤128)
  (hK:∀ hp' nx' d',Al hp nx hp' nx'→RL rChange hp' (Bl nx') d' (Ab1 x y)→K (.tup [d',iv (Ac5 x y)]) hp' nx'):KW (kN (k+13)) (.fn 32) [d1,d2] hp nx K:=by
 obtain ⟨d,a,c,rfl,r1,r2,r3⟩:=h1
 obtain ⟨d',a',c',rfl,s1,s2,s3⟩:=h2
 refine kn_2 (Aa3 (by decide)) t32 (Nat.le_of_ble_eq_true rfl) fun es e1 e2 he=>?_
 have a0:rawE es (.t .o)=.agg [d,a,c]:=he 0 _ rfl
 have a1:rawE es (.t (.l .o))=.agg [d',a',c']:=he 1 _ rfl
 unfold r32
 subst e1 e2
 simp only [↓bSb]
 refine Ac1 (cs:=[d,a,c]) (by rw [evt,a0]; exact AR.live r1 r2 r3) fun hp1 hg1 hk1=>?_
 simp only [bR] at hg1 hk1
 have hal1:Al es.hp es.nx hp1 (es.nx+1):=⟨by omega,fun j hj=>hk1 j (by omega)⟩
 simp only [bSa,↓bSb]
 refine Ac1 (cs:=[d',a',c']) (by simp only [evt,bR,reduceCtorEq,a1]; exact AR.live (s1.ka hn hal1) (s2.ka hn hal1) (s3.ka hn hal1)) fun hp2 hg2 hk2=>?_
 simp only [bR] at hg2 hk2
 have hal2:Al es.hp es.nx hp2 (es.nx+2):=⟨by omega,fun j hj=>by rw [hk2 j (by omega),hk1 j (by omega)]⟩
 have hg1':=(hk2 es.nx (by omega)).trans hg1
 obtain ⟨_,_,_,_,lA⟩:=Aa7 hg1'
 have hrA:∀ {hp' nx'},Al es.hp es.nx hp' nx'→AR hp' (Bl n0) (.agg [d,a,c]) x:=fun h=>⟨d,a,c,rfl,r1.ka hn h,r2.ka hn h,r3.ka hn h⟩
 have hrB:∀ {hp' nx'},Al es.hp es.nx hp' nx'→AR hp' (Bl n0) (.agg [d',a',c']) y:=fun h=>⟨d',a',c',rfl,s1.ka hn h,s2.ka hn h,s3.ka hn h⟩
 simp only [bSa,↓bSb,reduceCtorEq,lA]
 refine kws (Aq2 (k:=k+5) n0 _ _ _ _ x (by omega) (hrA hal2) hx fun hp3 nx3 hal3=>?_)
 have hle3:=hal3.le
 have ha3:=hal2.trans hal3
 have hgB3:=(hal3.same (es.nx+1) (by omega)).trans hg2
 have hgA3:=(hal3.same es.nx (by omega)).trans hg1'
 obtain ⟨_,_,_,_,lB3⟩:=Aa7 hgB3
 by_cases c1:Aa5 x=0
 ·simp only [bSa,↓bSb,reduceCtorEq,show decide (¬ Aa5 x=0)=false by simp [c1],lB3]
  refine kws (Aq2 (k:=k+5) n0 _ _ _ _ y (by omega) (hrB ha3) hy fun hp4 nx4 hal4=>?_)
  have hle4:=hal4.le
  have ha4:=ha3.trans hal4
  have hgB4:=(hal4.same (es.nx+1) (by omega)).trans hgB3
  have hgA4:=(hal4.same es.nx (by omega)).trans hgA3
  obtain ⟨_,_,_,_,lB4⟩:=Aa7 hgB4
  obtain ⟨_,_,_,_,lA4⟩:=Aa7 hgA4
  by_cases c2:Aa5 y=0
  ·simp only [bSa,↓bSb,reduceCtorEq,show decide (¬ Aa5 y=0)=false by simp [c2],lA4,lB4]
   refine kws (B30 (k:=k+10) n0 _ _ _ _ _ x y (by omega) (hrA ha4) (hrB ha4) hx fun hp5 nx5 hal5=>?_)
   have hle5:=hal5.le
   have ha5:=ha4.trans hal5
   have hgB5:=(hal5.same (es.nx+1) (by omega)).trans hgB4
   have hgA5:=(hal5.same es.nx (by omega)).trans hgA4
   obtain ⟨_,_,_,_,lB5⟩:=Aa7 hgB5
   obtain ⟨_,_,_,_,lA5⟩:=Aa7 hgA5
   unfold Ab1 Ac5 at hK
   have hcc:¬ (Aa5 x≠0∨Aa5 y≠0):=by simp [c1,c2]
   rw [if_neg hcc,if_neg hcc] at hK
   unfold Am7 at hK
   cases c3:decide (x.dims=y.dims) && decide (x.attrs=y.attrs) with
   | false=>
    rw [c3,if_pos rfl,if_pos rfl] at hK
    simp only [bSa,↓bSb,bP,reduceCtorEq]
    exact hK _ _ _ ha5 .nil
   | true=>
    rw [c3,if_neg (by simp),if_neg (by simp)] at hK
    obtain ⟨⟨_,_,fA⟩,_,_,lA2,_⟩:=Aa7 hgA5
    obtain ⟨⟨_,_,fB⟩,_,_,lB2,_⟩:=Aa7 hgB5
    simp only [bSa,↓bSb,reduceCtorEq,fA,fB,lA2,lB2]
    refine kws (Bl1 (k+6) n0 _ _ _ c c' x.cells y.cells (by omega) (r3.ka hn ha5) (s3.ka hn ha5) hc (fun e he=>?_) fun hp6 nx6 d6 hal6 hr6=>?_)
    ·rcases he with he | he
     ·exact ⟨Ax0 c1 e he,(hx.e e he).1,Aj8 c1 e he,(hx.e e he).2.1⟩
     ·exact ⟨Ax0 c2 e he,(hy.e e he).1,Aj8 c2 e he,(hy.e e he).2.1⟩
    simp only [bSa,↓bSb,bP,reduceCtorEq,hr6.live]
    exact hK _ _ _ (ha5.trans hal6) hr6
  ·unfold Ab1 Ac5 at hK
   rw [if_pos (Or.inr c2),if_pos (Or.inr c2)] at hK
   simp only [bSa,↓bSb,bP,reduceCtorEq,show decide (¬ Aa5 y=0)=true by simp [c2]]
   exact hK _ _ _ ha4 .nil
 ·unfold Ab1 Ac5 at hK
  rw [if_pos (Or.inl c1),if_pos (Or.inl c1)] at hK
  simp only [bSa,↓bSb,bP,reduceCtorEq,show decide (¬ Aa5 x=0)=true by simp [c1]]
  exact hK _ _ _ ha3 .nil
end
end Go.DD

/- The program's difference and the reference's are the same, in plain Lean. -/
namespace Go.DD
open Go Go.Proofs
def Srt (l:List PCell):Prop:=l.Pairwise (fun x y=>cmpL x.pos y.pos = -1)
theorem A82 {hs:List (List PCell)} : ∀ {a:Option (List Int)},minF a hs=none→a=none∧∀ h∈hs,h=[]:=by
 induction hs with
 | nil=>intro a h; exact ⟨h,fun h hh=>by cases hh⟩
 | cons h hs ih=>
  intro a e
  cases h with
  | nil=>
   have e':minF a hs=none:=by cases a <;> exact e
   obtain ⟨h1,h2⟩:=ih e'
   exact ⟨h1,fun h hh=>(List.mem_cons.1 hh).elim (fun h=>h) (h2 h)⟩
  | cons c t=>
   cases a with
   | none=>exact absurd (ih e).1 (by simp)
   | some q=>
    unfold minF at e
    split at e
    ·exact absurd (ih e).1 (by simp)
    ·exact absurd (ih e).1 (by simp)
theorem Ac2 (p:List Int):cmpL p p=0:=cmpL_0.2 rfl
theorem B33 {hs:List (List PCell)} : ∀ {a:Option (List Int)} {p:List Int},minF a hs=some p→(∀ q,a=some q→q=p∨cmpL p q = -1)∧∀ c t,(c :: t)∈hs→c.pos=p∨cmpL p c.pos = -1:=by
 induction hs with
 | nil=>intro a p h; exact ⟨fun q hq=>.inl (by rw [show a=some p from h] at hq; exact (Option.some.inj hq).symm),fun c t h=>by cases h⟩
 | cons h hs ih=>
  intro a p e
  cases h with
  | nil=>
   have e':minF a hs=some p:=by cases a <;> exact e
   obtain ⟨h1,h2⟩:=ih e'
   exact ⟨h1,fun c t hh=>(List.mem_cons.1 hh).elim (fun h=>by cases h) (h2 c t)⟩
  | cons c t=>
   cases a with
   | none=>
    obtain ⟨h1,h2⟩:=ih (show minF (some c.pos) hs=some p from e)
    refine ⟨fun q hq=>by (cases hq),fun c' t' hh=>?_⟩
    rcases List.mem_cons.1 hh with h | h
    ·cases h; exact h1 _ rfl
    ·exact h2 c' t' h
   | some q=>
    unfold minF at e
    split at e
    ·rename_i hlt
     obtain ⟨h1,h2⟩:=ih e
     have h3:=h1 _ rfl
     refine ⟨fun q' hq=>?_,fun c' t' hh=>?_⟩
     ·cases hq
      rcases h3 with h3 | h3
      ·rw [← h3]; exact .inr hlt
      ·exact .inr (Ac6 h3 hlt)
     ·rcases List.mem_cons.1 hh with h | h
      ·cases h; exact h3
      ·exact h2 c' t' h
    ·rename_i hlt
     obtain ⟨h1,h2⟩:=ih e
     have h3:=h1 _ rfl
     refine ⟨fun q' hq=>by cases hq; exact h3,fun c' t' hh=>?_⟩
     rcases List.mem_cons.1 hh with h | h
     ·cases h
      rcases Ac4 c.pos q with h4 | h4 | h4
      ·exact absurd h4 hlt
      ·rw [cmpL_0.1 h4]; exact h3
      ·have h5:cmpL q c.pos = -1:=by rw [Ah0]; omega
       rcases h3 with h3 | h3
       ·rw [← h3]; exact .inr h5
       ·exact .inr (Ac6 h3 h5)
     ·exact h2 c' t' h
theorem Srt.tail {c:PCell} {t:List PCell} (h:Srt (c :: t)):Srt t:=(List.pairwise_cons.1 h).2
theorem Srt.rs {p:List Int} {h:List PCell} (hs:Srt h):Srt (rsA p h):=by
 cases h with
 | nil=>exact hs
 | cons c t=>
  rw [rsA_c]
  split
  ·exact hs.tail
  ·exact hs
theorem Bl2 {l:List PCell} {p:List Int} (h:∀ c∈l,c.pos≠p):Ab0 l p=[]:=Bk9 fun j hj=>h _ (List.getElem_mem hj)
theorem A83 (c:PCell) (t:List PCell) (p:List Int):Ab0 (c :: t) p=if c.pos=p then c.vals else Ab0 t p:=by
 unfold Ab0
 rw [List.find?_cons]
 by_cases h:c.pos=p
 ·rw [if_pos h,decide_eq_true h]
 ·rw [if_neg h,decide_eq_false h]
theorem lt_ne {p q:List Int} (h:cmpL p q = -1):p≠q:=fun e=>by rw [e,Ac2] at h; cases h
theorem Cb6 {p:List Int} {h:List PCell} (hs:Srt h) (hm:∀ c t,h=c :: t→c.pos=p∨cmpL p c.pos = -1):∀ c∈rsA p h,cmpL p c.pos = -1:=by
 cases h with
 | nil=>intro c hc; cases hc
 | cons a t=>
  intro c hc
  obtain ⟨h1,h2⟩:=List.pairwise_cons.1 hs
  rw [rsA_c] at hc
  rcases hm a t rfl with h3 | h3
  ·rw [if_pos h3] at hc
   rw [← h3]; exact h1 c hc
  ·rw [if_neg fun e=>lt_ne h3 e.symm] at hc
   rcases List.mem_cons.1 hc with rfl | hc
   ·exact h3
   ·exact Ac6 h3 (h1 c hc)
theorem Bt7 {p:List Int} {h:List PCell} (hs:Srt h) (hm:∀ c t,h=c :: t→c.pos=p∨cmpL p c.pos = -1):stA p h=Ab0 h p:=by
 have hg:=Cb6 hs hm
 cases h with
 | nil=>rfl
 | cons a t=>
  rw [stA_c,A83]
  by_cases e:a.pos=p
  ·rw [if_pos e,if_pos e]
  ·rw [if_neg e,if_neg e]
   rw [rsA_c,if_neg e] at hg
   exact (Bl2 fun c hc=>(lt_ne (hg c (List.mem_cons_of_mem _ hc))).symm).symm
theorem Bt8 {p q:List Int} (h:List PCell) (hq:q≠p):Ab0 (rsA p h) q=Ab0 h q:=by
 cases h with
 | nil=>rfl
 | cons a t=>
  rw [rsA_c]
  by_cases e:a.pos=p
  ·rw [if_pos e,A83,if_neg fun e2=>hq (by rw [← e2,e])]
  ·rw [if_neg e]
theorem Bl3 {n:Nat} : ∀ {hs:List (List PCell)},(∀ h∈hs,Srt h)→tot hs≤n→(walkF n hs).Pairwise (fun a b=>cmpL a.1 b.1 = -1)∧(∀ p,(∃ w∈walkF n hs,w.1=p)↔∃ h∈hs,∃ c∈h,c.pos=p)∧∀ w∈walkF n hs,w.2=hs.map fun h=>Ab0 h w.1:=by
 induction n with
 | zero=>
  intro hs hS ht
  cases e:minF none hs with
  | none=>
   rw [A40 e]
   refine ⟨.nil,fun p=>⟨fun ⟨w,h,_⟩=>(by cases h),fun ⟨h,hh,c,hc,_⟩=>?_⟩,fun w h=>by cases h⟩
   rw [(A82 e).2 h hh] at hc; cases hc
  | some p=>obtain ⟨m,h,_⟩:=Bb3 ht e; omega
 | succ n ih=>
  intro hs hS ht
  cases e:minF none hs with
  | none=>
   rw [A40 e]
   refine ⟨.nil,fun p=>⟨fun ⟨w,h,_⟩=>(by cases h),fun ⟨h,hh,c,hc,_⟩=>?_⟩,fun w h=>by cases h⟩
   rw [(A82 e).2 h hh] at hc; cases hc
  | some p=>
   obtain ⟨m,hm,ht',hw⟩:=Bb3 ht e
   obtain rfl:m=n:=by omega
   have hmin:=(B33 e).2
   have hmh:∀ h∈hs,∀ c t,h=c :: t→c.pos=p∨cmpL p c.pos = -1:=fun h hh c t he=>hmin c t (he ▸ hh)
   have hS':∀ h∈hs.map (rsA p),Srt h:=fun h hh=>by
    obtain ⟨h',hh',rfl⟩:=List.mem_map.1 hh
    exact (hS h' hh').rs
   obtain ⟨i1,i2,i3⟩:=ih hS' ht'
   have hgt:∀ w∈walkF m (hs.map (rsA p)),cmpL p w.1 = -1:=fun w hwm=>by
    obtain ⟨h,hh,c,hc,h2⟩:=(i2 w.1).1 ⟨w,hwm,rfl⟩
    obtain ⟨h',hh',rfl⟩:=List.mem_map.1 hh
    rw [← h2]
    exact Cb6 (hS h' hh') (hmh h' hh') c hc
   rw [hw]
   refine ⟨.cons hgt i1,fun q=>⟨fun ⟨w,hwm,hq⟩=>?_,fun ⟨h,hh,c,hc,hq⟩=>?_⟩,fun w hwm=>?_⟩
   ·rcases List.mem_cons.1 hwm with rfl | hwm
    ·obtain ⟨c,t,h1,h2⟩:=(A38 e).elim (fun h=>by cases h) id
     exact ⟨_,h1,c,by simp,h2.trans hq⟩
    ·obtain ⟨h,hh,c,hc,h2⟩:=(i2 q).1 ⟨w,hwm,hq⟩
     obtain ⟨h',hh',rfl⟩:=List.mem_map.1 hh
     exact ⟨h',hh',c,A39 hc,h2⟩
   ·by_cases hp:q=p
    ·exact ⟨_,List.mem_cons_self,hp.symm⟩
    ·have hc':c∈rsA p h:=by
      cases h with
      | nil=>cases hc
      | cons a t=>
       rw [rsA_c]
       split
       ·rename_i ha
        rcases List.mem_cons.1 hc with rfl | hc
        ·exact absurd (hq.symm.trans ha) hp
        ·exact hc
       ·exact hc
     obtain ⟨w,h1,h2⟩:=(i2 q).2 ⟨_,List.mem_map.2 ⟨h,hh,rfl⟩,c,hc',hq⟩
     exact ⟨w,List.mem_cons_of_mem _ h1,h2⟩
   ·rcases List.mem_cons.1 hwm with rfl | hwm
    ·exact List.map_congr_left fun h hh=>Bt7 (hS h hh) (hmh h hh)
    ·rw [i3 w hwm,List.map_map]
     exact List.map_congr_left fun h hh=>Bt8 h fun e=>lt_ne (hgt w hwm) e.symm
theorem Bt9 {a b c:List Int} (h1:cmpL a b≠1) (h2:cmpL b c≠1):cmpL a c≠1:=by
 rcases Ac4 a b with h | h | h
 ·rcases Ac4 b c with g | g | g
  ·rw [Ac6 h g]; decide
  ·rw [← cmpL_0.1 g,h]; decide
  ·exact absurd g h2
 ·rw [cmpL_0.1 h]; exact h2
 ·exact absurd h h1
theorem Bu0:∀ {l m:List (List Int)},l.Pairwise (fun a b=>cmpL a b = -1)→m.Pairwise (fun a b=>cmpL a b = -1)→(∀ q,q∈l↔q∈m)→l=m
 | [],[],_,_,_=>rfl
 | [],b :: m,_,_,h=>absurd ((h b).2 (by simp)) (by simp)
 | a :: l,[],_,_,h=>absurd ((h a).1 (by simp)) (by simp)
 | a :: l,b :: m,h1,h2,h=>by
  obtain ⟨p1,p2⟩:=List.pairwise_cons.1 h1
  obtain ⟨q1,q2⟩:=List.pairwise_cons.1 h2
  have hab:a=b:=by
   rcases List.mem_cons.1 ((h a).1 (by simp)) with h3 | h3
   ·exact h3
   ·rcases List.mem_cons.1 ((h b).2 (by simp)) with h4 | h4
    ·exact h4.symm
    ·have:=Ac6 (q1 a h3) (p1 b h4)
     exact absurd rfl (lt_ne this)
  subst hab
  rw [Bu0 p2 q2 fun q=>?_]
  constructor
  ·intro hq
   rcases List.mem_cons.1 ((h q).1 (List.mem_cons_of_mem _ hq)) with h3 | h3
   ·exact absurd h3.symm (lt_ne (p1 q hq))
   ·exact h3
  ·intro hq
   rcases List.mem_cons.1 ((h q).2 (List.mem_cons_of_mem _ hq)) with h3 | h3
   ·exact absurd h3.symm (lt_ne (q1 q hq))
   ·exact h3
end Go.DD
