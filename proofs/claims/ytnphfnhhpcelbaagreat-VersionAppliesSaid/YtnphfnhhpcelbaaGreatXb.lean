/- A part. -/
import Derived.Test.YtnphfnhhpcelbaaGreatXa
import Derived.Laws.OwnMore
import Derived.Laws.MakeOwn
import Derived.Maps.AppendAt
import Derived.MapKept
import Derived.ChangeKeysEq
import Derived.WideKeyRuns
import Derived.Tactics
import Derived.OrdersIn
import Derived.OwnWalkIn
import Derived.RangeFuncNested
import Derived.RangeFuncLeaves
namespace Go.DD
open Go.RowKit (Below)
theorem DS.ho_upd (s:DS) (nid:Nat) (u:Upd):(s.upd nid u).ho=u.app nid s.ho:=rfl
@[simp] theorem DS.sv_upd (s:DS) (nid:Nat) (u:Upd):(s.upd nid u).sv=s.sv:=rfl
theorem Cc6 {C:Ctx} {s:DS} {nid:Nat} {old:Option Nat} {o:DObj} (hold:∀ i,old=some i→C.Y i=none) (j:Nat) (hj:j≠nid):(s.upd nid (.mv old o)).vw C j=if old=some j then none else s.vw C j:=by
 unfold DS.vw vwF
 rw [DS.ho_upd]
 simp only [Upd.app]
 rw [Ae2 _ _ hj]
 cases old with
 | none=>simp [Au2]
 | some i=>
  simp only [Au2]
  by_cases hij:j=i
  ·subst hij; simp [hold j rfl]
  ·rw [Ae2 _ _ hij]
   have:¬ i=j:=fun e=>hij e.symm
   simp [this]
theorem Ck0 {C:Ctx} {s:DS} {nid:Nat} {old:Option Nat} {o:DObj} : (s.upd nid (.mv old o)).vw C nid=some o:=by
 simp [DS.vw,vwF,DS.ho_upd,Upd.app]
theorem HoldsB.apart {C:Ctx} {U:Nat→Prop} {s:DS} {β:Nat→Option Nat} {a:Act} {w:World} (hs:HoldsB C U s β a w) {i:Nat} (h:(s.ho i).isSome=true):C.Y i=none:=by
 cases hy:C.Y i with
 | none=>rfl
 | some o=>rw [hs.yd i o hy] at h; cases h
theorem HoldsB.turned {C:Ctx} {U:Nat→Prop} {s:DS} {β β':Nat→Option Nat} {a:Act} {w w':World} {nid:Nat} (hs:HoldsB C U s β a w) (hn:¬ U nid) (old:Option Nat) (hold:∀ i,old=some i→(s.ho i).isSome=true) (o:DObj)
  (hother:∀ b,b < w.heap.size→(∀ i,old=some i→β i≠some b)→w'.heap[b]?=w.heap[b]?)
  (hos:w'.os=w.os) (htape:w'.tape=w.tape) (hout:w'.output=w.output) (hsz:w.heap.size≤w'.heap.size)
  (hβ:∀ j,j≠nid→old≠some j→β' j=β j) (hβo:∀ i,old=some i→β' i=none)
  (hnew:∀ b,β' nid=some b→((∃ i,old=some i∧β i=some b)∨w.heap.size≤b)∧b < w'.heap.size)
  (hobj:(∀ x d,WV C U (s.vw C) β w x d→WV C (Un U nid) ((s.upd nid (.mv old o)).vw C) β' w' x d)→RelO C (Un U nid) ((s.upd nid (.mv old o)).vw C) β' w' nid o) :
  HoldsB C (Un U nid) (s.upd nid (.mv old o)) β' a w'∧∀ x d,WV C U (s.vw C) β w x d→WV C (Un U nid) ((s.upd nid (.mv old o)).vw C) β' w' x d:=by
 have ht:=hs.hh.turn (U':=Un U nid) (V':=(s.upd nid (.mv old o)).vw C) (β':=β') (w':=w') nid old hn (fun _=>Iff.rfl) (fun i hi=>hs.hh.used (Af4 (hold i hi))) hother hos htape hout hsz hβ hβo hnew
  (fun j hj=>Cc6 (fun i hi=>hs.apart (hold i hi)) j hj) (fun o' ho' hrel=>by rw [Ck0] at ho'; cases ho'; exact hobj hrel)
 refine ⟨hs.carry rfl (fun id o' hy=>?_) ht,ht.2.1⟩
 have h1:=hs.yd id o' hy
 have hu:id≠nid:=fun e=>hn (e ▸ hs.hh.used (by unfold DS.vw vwF; rw [h1]; simp [hy]))
 rw [DS.ho_upd]
 simp only [Upd.app]
 rw [Ae2 _ _ hu]
 cases old with
 | none=>exact h1
 | some i=>
  simp only [Au2]
  by_cases hij:id=i
  ·subst hij; simp
  ·rw [Ae2 _ _ hij]; exact h1
theorem HoldsB.fresh {C:Ctx} {U:Nat→Prop} {s:DS} {β:Nat→Option Nat} {a:Act} {w w':World} {nid:Nat} (hs:HoldsB C U s β a w) (hn:¬ U nid) (T:TypeId) (c:Array Value) (cs:List DV) (b:Nat)
  (hk:Below w.heap.size w w') (hb:w.heap.size≤b) (hc:w'.heap[b]?=some (.cells c T (0,0))) (hl:cs.length≤c.size) (hx:isArr C.P T=true→c.size=cs.length)
  (hr:∀ (j:Nat) (u:Value) (d:DV),c[j]?=some u→cs[j]?=some d→WV C U (s.vw C) β w u d∧u.oneCell'=true) :
  HoldsB C (Un U nid) (s.upd nid (.lay (.row T cs))) (upd β nid (some b)) a w':=by
 have hbl:b < w'.heap.size:=by
  rcases Nat.lt_or_ge b w'.heap.size with h | h
  ·exact h
  ·rw [Array.getElem?_eq_none h] at hc; cases hc
 refine (hs.turned (β':=upd β nid (some b)) hn none (fun _ h=>by cases h) _ (fun b' hb' _=>hk.block b' hb') hk.os hk.tape hk.output hk.size (fun j hj _=>Ae9 β _ hj) (fun _ h=>by cases h) (fun b' hb'=>?_) fun hrel=>?_).1
 ·rw [upd_same] at hb'
  cases hb'
  exact ⟨.inr hb,hbl⟩
 ·exact .inr ⟨b,c,by simp,hc,hl,hx,fun j u d hu hd=>⟨hrel _ _ (hr j u d hu hd).1,(hr j u d hu hd).2⟩⟩
theorem Au7 {C:Ctx} {U:Nat→Prop} {V:Nat→Option DObj} {β:Nat→Option Nat} {w:World} {nid:Nat} {x:Value} {d:DV} (hr:Rel C.P w (alw C w β) β x d) (hd:d.refs=[nid]):WV C (Un U nid) V β w x d:=
 ⟨fun id hi=>by rw [hd] at hi; exact .inr (by simpa using hi),fun _=>hr,TP.of_rel hr⟩
theorem Ck1 {C:Ctx} {U:Nat→Prop} {V:Nat→Option DObj} {β:Nat→Option Nat} {w:World} {us:List Value} {cs:List DV} (hl:us.length=cs.length) (ho:∀ u∈us,u.oneCell'=true)
  (hr:∀ (j:Nat) (u:Value) (d:DV),us[j]?=some u→cs[j]?=some d→WV C U V β w u d):WV C U V β w (.agg us.toArray) (.agg cs):=by
 refine ⟨fun id hi=>?_,fun ha=>.agg us cs hl ho fun j u d hu hd=>(hr j u d hu hd).2.1 fun id hi=>ha id (by rw [DV.refs]; exact DV.refsL_mem (List.mem_of_getElem? hd) hi),TP.nt fun _ h=>by cases h⟩
 rw [DV.refs] at hi
 obtain ⟨d,hd,hi⟩:=DV.mem_refsL hi
 obtain ⟨j,hj,rfl⟩:=List.mem_iff_getElem.1 hd
 exact (hr j us[j] _ (List.getElem?_eq_getElem (by omega)) (List.getElem?_eq_getElem hj)).1 id hi
section ops
variable {C:Ctx} {U:Nat→Prop} {s:DS} {β:Nat→Option Nat} {a:Act} {w:World} {o:Oper} {d:DV} {s':DS} {nid:Nat}
theorem Ao9 {P:Program} {t:TypeId} {z:List Value} (h:zeroL P t=some z):∃ i v,P.info? t=some i∧i.zero=some v∧v.cells.toList=z∧∀ u∈z,u.oneCell'=true:=by
 unfold zeroL at h
 obtain ⟨v,hv,h⟩:=Option.bind_eq_some_iff.1 h
 obtain ⟨i,hi,hv⟩:=Option.bind_eq_some_iff.1 hv
 split at h
 ·rename_i hall
  cases h
  exact ⟨i,v,hi,hv,rfl,fun u hu=>List.all_eq_true.1 hall u hu⟩
 ·cases h
theorem Ap0 {V:Nat→Option DObj} {z:List Value} (h1:∀ u∈z,u.oneCell'=true) (j:Nat) (u:Value) (d:DV) (hu:z[j]?=some u) (hd:(z.map DV.v)[j]?=some d):WV C U V β w u d∧u.oneCell'=true:=by
 simp only [List.getElem?_map,hu,Option.map_some,Option.some.injEq] at hd
 subst hd
 exact ⟨WV.v u,h1 u (List.mem_of_getElem? hu)⟩
theorem ok_al {T:TypeId} {z:List Value} (ho:o.op=.alloc T) (hz:zeroL C.P T=some z) (hs:HoldsB C U s β a w) (hn:¬ U nid):OpOk C (Un U nid) a w o (.pt nid 0) (s.upd nid (.lay (.row T (z.map .v)))):=by
 obtain ⟨i,v,hi,hv,rfl,h1⟩:=Ao9 hz
 have hf:=hs.fresh hn T v.cells (v.cells.toList.map .v) w.heap.size (Ag6 w (.cells v.cells T)) (Nat.le_refl _) (heap_alloc_new w _) (by simp) (fun _=>by simp)
  (fun j u d hu hd=>Ap0 h1 j u d (by simpa using hu) hd)
 refine ⟨.value (.pointer (some ⟨w.heap.size,0,none⟩)),_,_,_,?_,.inl rfl,hf,Au7 (.pt nid 0 _ (by simp)) rfl⟩
 simp [execOp,ho,Instr.alloc,zeroValue,typeInfo,hi,hv,newVar,newRow]
theorem ok_bx {T:TypeId} {x:Operand} (ho:o.op=.box T x) (hs:HoldsB C U s β a w) (hn:¬ U nid) (hx:(s.ev x).okC=true):OpOk C (Un U nid) a w o (.pt nid 0) (s.upd nid (.lay (.row T (s.ev x).cells))):=by
 obtain ⟨hl,h1,hr⟩:=hs.cells x hx
 have hf:=hs.fresh hn T (a.eval x).cells (s.ev x).cells w.heap.size (Ag6 w (.cells (a.eval x).cells T)) (Nat.le_refl _) (heap_alloc_new w _) (by omega) (fun _=>hl)
  (fun j u d hu hd=>⟨hr j u d hu hd,h1 u (by simpa using Array.mem_of_getElem? hu)⟩)
 refine ⟨.value (.pointer (some ⟨w.heap.size,0,none⟩)),_,_,_,?_,.inl rfl,hf,Au7 (.pt nid 0 _ (by simp)) rfl⟩
 simp [execOp,ho,Instr.box,newVar,newRow]
theorem Bh8 (xs:List Value):∀ (off i:Nat) (cells:Array Value),off+i+xs.length≤cells.size→
  ((xs.zipIdx i).foldl (fun cs (c,j)=>cs.setIfInBounds (off+j) c) cells).toList=cells.toList.take (off+i) ++ xs ++ cells.toList.drop (off+i+xs.length):=by
 induction xs with
 | nil=>intro off i cells _; simp
 | cons x xs ih=>
  intro off i cells h
  simp only [List.zipIdx_cons,List.foldl_cons]
  rw [ih off (i+1) _ (by simp at h ⊢; omega)]
  have hlt:off+i < cells.toList.length:=by simp at h ⊢; omega
  simp only [Array.toList_setIfInBounds,List.length_cons]
  rw [show off+(i+1)=off+i+1 by omega,List.take_succ_eq_append_getElem (by simpa using hlt),List.take_set_of_le (by omega),List.drop_set_of_lt (by omega)]
  simp [Nat.add_assoc,Nat.add_comm 1]
theorem A74 {W:Value→DV→Prop} (place:Nat→Option (Nat×Nat)) (ρ:Operand→Value) (η:Operand→DV) (hρ:∀ x,(η x).okC=true→(ρ x).cells.size=(η x).cells.length∧(∀ u∈(ρ x).cells.toList,u.oneCell'=true)∧∀ (j:Nat) (u:Value) (e:DV),(ρ x).cells[j]?=some u→(η x).cells[j]?=some e→W u e) :
  ∀ (ps:List (Nat×Operand)) (qs:List (Nat×Nat×Operand)) (cells:Array Value) (cs:List DV) (cs':List DV),
   qs.length=ps.length→(∀ (j:Nat) (p:Nat×Operand) (q:Nat×Nat×Operand),ps[j]?=some p→qs[j]?=some q→place p.1=some (q.1,q.2.1)∧p.2=q.2.2)→
   cells.size=cs.length→(∀ u∈cells.toList,u.oneCell'=true)→(∀ (j:Nat) (u:Value) (d:DV),cells[j]?=some u→cs[j]?=some d→W u d)→
   fillD cs (qs.map fun q=>(q.1,q.2.1,η q.2.2))=some cs'→
   ∃ cells',Instr.fill place cells (ps.map fun p=>(p.1,ρ p.2))=some cells'∧cells'.size=cs'.length∧cs'.length=cs.length∧(∀ u∈cells'.toList,u.oneCell'=true)∧
    ∀ (j:Nat) (u:Value) (d:DV),cells'[j]?=some u→cs'[j]?=some d→W u d
 | [],[],cells,cs,cs',_,_,hl,h1,hr,h=>by
  simp [fillD] at h
  subst h
  exact ⟨cells,by simp [Instr.fill],hl,rfl,h1,hr⟩
 | p :: ps,q :: qs,cells,cs,cs',hlen,hpq,hl,h1,hr,h=>by
  obtain ⟨hp,hop⟩:=hpq 0 p q rfl rfl
  simp only [List.map_cons,fillD] at h
  split at h
  rotate_left
  ·cases h
  rename_i hc
  obtain ⟨hok,hsz,hfit⟩:=hc
  obtain ⟨g1,g2,g3⟩:=hρ q.2.2 hok
  have hfold:=Bh8 (ρ q.2.2).cells.toList q.1 0 cells (by simp; omega)
  simp only [Nat.add_zero] at hfold
  have key:=A74 (W:=W) place ρ η hρ ps qs ((ρ q.2.2).cells.toList.zipIdx.foldl (fun cs (c,j)=>cs.setIfInBounds (q.1+j) c) cells) (cs.take q.1 ++ (η q.2.2).cells ++ cs.drop (q.1+q.2.1)) cs'
   (by simpa using hlen) (fun j p' q' h1 h2=>hpq (j+1) p' q' (by simpa using h1) (by simpa using h2)) ?_ ?_ ?_ h
  ·obtain ⟨cells',k1,k2,k3,k4,k5⟩:=key
   refine ⟨cells',?_,k2,?_,k4,k5⟩
   ·simp only [List.map_cons,Instr.fill,hp,hop]
    rw [if_neg (by simp; omega),← k1]
    congr 1
    rw [← Array.foldl_toList]
    simp
   ·rw [k3]; simp; omega
  ·rw [← Array.length_toList,hfold]; simp; omega
  ·rw [hfold]
   intro u hu
   simp only [List.mem_append] at hu
   rcases hu with (hu | hu) | hu
   ·exact h1 u (List.mem_of_mem_take hu)
   ·exact g2 u hu
   ·exact h1 u (List.mem_of_mem_drop hu)
  ·intro j u d hu hd
   have hu':(cells.toList.take q.1 ++ (ρ q.2.2).cells.toList ++ cells.toList.drop (q.1+(ρ q.2.2).cells.toList.length))[j]?=some u:=by
    rw [← hfold]; simpa using hu
   have hgs:(ρ q.2.2).cells.toList.length=q.2.1:=by simp; omega
   rw [hgs] at hu'
   rw [List.append_assoc,List.getElem?_append] at hu' hd
   simp only [List.length_take,Array.length_toList,hl] at hu' hd
   by_cases hj:j < min q.1 cs.length
   ·rw [if_pos hj] at hu' hd
    rw [List.getElem?_take_of_lt (by omega)] at hu' hd
    exact hr j u d (by simpa using hu') hd
   ·rw [if_neg hj] at hu' hd
    rw [List.getElem?_append] at hu' hd
    rw [hgs] at hu'
    rw [hsz] at hd
    by_cases hj2:j - min q.1 cs.length < q.2.1
    ·rw [if_pos hj2] at hu' hd
     exact g3 _ u d (by simpa using hu') hd
    ·rw [if_neg hj2] at hu' hd
     rw [List.getElem?_drop] at hu' hd
     exact hr _ u d (by simpa using hu') hd
 | [],_ :: _,_,_,_,h,_,_,_,_,_=>by simp at h
 | _ :: _,[],_,_,_,h,_,_,_,_,_=>by simp at h
theorem mapM_some {α β:Type} {f:α→Option β} : ∀ {l:List α} {r:List β},l.mapM f=some r→r.length=l.length∧∀ (j:Nat) (x:α) (y:β),l[j]?=some x→r[j]?=some y→f x=some y
 | [],r,h=>by simp at h; subst h; simp
 | x :: l,r,h=>by
  simp only [List.mapM_cons,Option.bind_eq_bind,Option.bind_eq_some_iff,Option.pure_def] at h
  obtain ⟨y,hy,t,ht,h⟩:=h
  cases h
  obtain ⟨h1,h2⟩:=mapM_some ht
  refine ⟨by simp [h1],fun j u v hu hv=>?_⟩
  cases j with
  | zero=>simp at hu hv; subst hu hv; exact hy
  | succ j=>exact h2 j u v (by simpa using hu) (by simpa using hv)
theorem Au8 {P:Program} : ∀ (fs:List Field),(∀ f∈fs,P.cellsOf f.type≠0)→∀ (w:World),(fs.mapM (fun f=>do pure (f.offset,← sizeOf f.type):Field→Sem (Nat×Nat))).run P w=.ok (fs.map fun f=>(f.offset,P.cellsOf f.type)) w
 | [],_,w=>by simp
 | f :: fs,h,w=>by
  have ih:=Au8 fs (fun g hg=>h g (by simp [hg])) w
  simp only [List.mapM_cons,Sem.run_bind,Ad0 (h f (by simp)),Result.andThen_ok,Sem.run_pure,List.map_cons]
  rw [ih]
  rfl
theorem Ck2 {t:TypeId} {ps:Array (Nat×Operand)} {fs:Array Field} {z:List Value} {l:List (Nat×Nat×Operand)} {cs:List DV} (ho:o.op=.build t ps) (ht:C.P.underlying t=some (.struct fs)) (hz:zeroL C.P t=some z)
  (hpos:∀ f∈fs.toList,C.P.cellsOf f.type≠0)
  (hl:ps.toList.mapM (fun p=>(fs[p.1]?).map fun f=>(f.offset,C.P.cellsOf f.type,p.2))=some l) (hs:HoldsB C U s β a w)
  (hf:fillD (z.map .v) (l.map fun p=>(p.1,p.2.1,s.ev p.2.2))=some cs):OpOk C U a w o (.agg cs) s:=by
 obtain ⟨i,v,hi,hv,rfl,h1⟩:=Ao9 hz
 obtain ⟨m1,m2⟩:=mapM_some hl
 obtain ⟨cells',k1,k2,k3,k4,k5⟩:=A74 (W:=WV C U (s.vw C) β w) ((fs.toList.map fun f=>(f.offset,C.P.cellsOf f.type))[·]?) a.eval s.ev (fun x hx=>hs.cells x hx) ps.toList l v.cells (v.cells.toList.map .v) cs m1
  (fun j p q hp hq=>by
   have:=m2 j p q hp hq
   obtain ⟨f,hf,rfl⟩:=Option.map_eq_some_iff.1 this
   simp [hf])
  (by simp) h1 (fun j u d hu hd=>(Ap0 h1 j u d (by simpa using hu) hd).1) hf
 have hrun:(fs.mapM (fun f=>do pure (f.offset,← sizeOf f.type):Field→Sem (Nat×Nat))).run C.P w=.ok (fs.toList.map fun f=>(f.offset,C.P.cellsOf f.type)).toArray w:=by
  rw [Array.mapM_eq_mapM_toList]
  simp only [Sem.run_map,Au8 fs.toList hpos w,Result.andThen_ok]
 refine .same hs (x:=.agg cells'.toList.toArray) ?_ (Ck1 (by simpa using k2) k4 fun j u d hu hd=>k5 j u d (by simpa using hu) hd)
 have k1':Instr.fill ((fs.toList.map fun f=>(f.offset,C.P.cellsOf f.type)).toArray[·]?) v.cells (ps.map fun p=>(p.1,a.eval p.2)).toList=some cells':=by
  rw [← k1]
  congr 1
  ·funext j; simp
  ·simp
 simp only [execOp,ho,Instr.build,Sem.run_bind,zeroValue,typeInfo,run_program,Result.andThen_ok,hi,hv,Sem.run_pure,run_underlying ht,hrun]
 simp only [k1']
 simp
theorem Ab3 {α:Type} (z:List α):∀ (n j:Nat),((List.replicate n z).flatten)[j]?=if j < n*z.length then z[j % z.length]? else none
 | 0,j=>by simp
 | n+1,j=>by
  rw [List.replicate_succ,List.flatten_cons,List.getElem?_append,Ab3 z n]
  by_cases hj:j < z.length
  ·have h1:j < (n+1)*z.length:=by rw [Nat.add_mul]; omega
   rw [if_pos hj,if_pos h1,Nat.mod_eq_of_lt hj]
  ·rw [if_neg hj]
   have hm:(j - z.length) % z.length=j % z.length:=by
    conv=>rhs; rw [show j=(j - z.length)+z.length by omega]
    rw [Nat.add_mod_right]
   have h2:(j - z.length < n*z.length)↔(j < (n+1)*z.length):=by rw [Nat.add_mul]; omega
   rw [hm]
   simp only [h2]
theorem Au9 (z:Array Value) (n:Nat) (h:0 < z.size):((Array.range (n*z.size)).map (z[· % z.size]!)).toList=(List.replicate n z.toList).flatten:=by
 apply List.ext_getElem?
 intro j
 rw [Ab3]
 simp only [Array.length_toList]
 by_cases hj:j < n*z.size
 ·have hlt:j % z.size < z.size:=Nat.mod_lt _ h
  simp [hj,hlt]
 ·simp [hj]
theorem Ae7 {z:List Value} (h1:∀ u∈z,u.oneCell'=true) (n:Nat):∀ u∈(List.replicate n z).flatten,u.oneCell'=true:=by
 intro u hu
 simp only [List.mem_flatten] at hu
 obtain ⟨l,hl,hu⟩:=hu
 rw [List.mem_replicate] at hl
 exact h1 u (hl.2 ▸ hu)
theorem Ab7 (z:List Value) (n:Nat):(List.replicate n (z.map DV.v)).flatten=((List.replicate n z).flatten).map DV.v:=by
 rw [List.map_flatten,List.map_replicate]
theorem Ck3 {t e:TypeId} (hna:isArr C.P e=false) {n:Nat} {ps:Array (Nat×Operand)} {z:List Value} {cs:List DV} (ho:o.op=.buildSlice t n ps) (ht:C.P.underlying t=some (.slice e)) (hz:zeroL C.P e=some z)
  (hn:n*C.P.cellsOf e≤65536) (he:0 < C.P.cellsOf e) (hzl:z.length=C.P.cellsOf e) (hs:HoldsB C U s β a w) (hnew:¬ U nid)
  (hf:fillD ((List.replicate n (z.map .v)).flatten) ((ps.toList.map fun p=>(p.1*C.P.cellsOf e,C.P.cellsOf e,p.2)).map fun p=>(p.1,p.2.1,s.ev p.2.2))=some cs) :
  OpOk C (Un U nid) a w o (.ms nid 0 n (C.P.cellsOf e)) (s.upd nid (.lay (.row e cs))):=by
 obtain ⟨i,v,hi,hv,rfl,h1⟩:=Ao9 hz
 have hsz:C.P.cellsOf e=i.size:=by simp [Program.cellsOf,hi]
 simp only [hsz] at hn he hzl hf
 have hvs:v.cells.size=i.size:=by simpa using hzl
 have hinit:((Array.range (n*i.size)).map (v.cells[· % v.cells.size]!)).toList=(List.replicate n v.cells.toList).flatten:=by
  rw [← hvs]; exact Au9 v.cells n (by omega)
 have hlenI:((List.replicate n v.cells.toList).flatten).length=n*i.size:=by rw [← hinit]; simp
 obtain ⟨cells',k1,k2,k3,k4,k5⟩:=A74 (W:=WV C U (s.vw C) β w) (fun j=>some (j*i.size,i.size)) a.eval s.ev (fun x hx=>hs.cells x hx) ps.toList (ps.toList.map fun p=>(p.1*i.size,i.size,p.2))
  ((Array.range (n*i.size)).map (v.cells[· % v.cells.size]!)) ((List.replicate n (v.cells.toList.map .v)).flatten) cs (by simp)
  (fun j p q hp hq=>by
   simp only [List.getElem?_map,hp,Option.map_some,Option.some.injEq] at hq
   subst hq
   exact ⟨rfl,rfl⟩)
  (by rw [Ab7,List.length_map,hlenI]; simp)
  (by rw [hinit]; exact Ae7 h1 n)
  (fun j u d hu hd=>(Ap0 (Ae7 h1 n) j u d (by rw [← hinit,Array.getElem?_toList]; exact hu) (by rw [← Ab7]; exact hd)).1) hf
 have hcl:cs.length=n*i.size:=by rw [k3,Ab7,List.length_map,hlenI]
 have hfr:=hs.fresh hnew e cells' cs w.heap.size (Ag6 w (.cells cells' e)) (Nat.le_refl _) (heap_alloc_new w _) (by omega) (fun h=>by rw [hna] at h; cases h)
  (fun j u d hu hd=>⟨k5 j u d hu hd,k4 u (by simpa using Array.mem_of_getElem? hu)⟩)
 refine ⟨.value (.slice (some ⟨w.heap.size,0,none⟩) n n),_,_,_,?_,.inl rfl,hfr,Au7 (.ms nid 0 n _ w.heap.size n cells' e (by simp) (heap_alloc_new w _) (Nat.le_refl _) ?_ ?_) rfl⟩
 ·have k1':Instr.fill (fun j=>some (j*i.size,i.size)) ((Array.range (n*i.size)).map (v.cells[· % v.cells.size]!)) (ps.map fun p=>(p.1,a.eval p.2)).toList=some cells':=by
   rw [← k1]; congr 1; simp
  have hsmall:¬ (2:Nat) ^ 24 < n*i.size:=by omega
  by_cases hz0:n*i.size=0
  ·have hn0:n=0:=by
    rcases Nat.mul_eq_zero.1 hz0 with h | h
    ·exact h
    ·omega
   subst hn0
   have hr0:Array.range 0 = #[]:=rfl
   have k2':Instr.fill (fun j=>some (j*i.size,i.size)) #[] (List.map (fun x=>(x.fst,a.eval x.snd)) ps.toList)=some cells':=by
    rw [← k1,Nat.zero_mul,hr0]; simp
   simp [execOp,ho,Instr.buildSlice,run_underlying ht,sizeOf,typeInfo,hi,hr0,k2',newRow]
  ·simp only [execOp,ho,Instr.buildSlice,Sem.run_bind,run_underlying ht,Result.andThen_ok,sizeOf,typeInfo,zeroValue,run_program,hi,hv,Sem.run_pure,gt_iff_lt,hsmall,if_false,Sem.run_ite,hz0]
   simp only [k1',newRow]
   simp
 ·have hne:n≤n*i.size:=Nat.le_mul_of_pos_right n he
  simp only [maxLen]; omega
 ·rw [hsz]; omega
theorem Bw4 {C:Ctx} {s:DS} {nid id:Nat} {o:DObj} (j:Nat) (hj:j≠id):(s.upd nid (.wr id o)).vw C j=s.vw C j:=by
 unfold DS.vw vwF
 rw [DS.ho_upd]
 simp only [Upd.app]
 rw [Ae2 _ _ hj]
theorem Ba3 {C:Ctx} {s:DS} {nid id:Nat} {o:DObj} : (s.upd nid (.wr id o)).vw C id=some o:=by simp [DS.vw,vwF,DS.ho_upd,Upd.app]
theorem HoldsB.wrote (hs:HoldsB C U s β a w) {w':World} (nid id b:Nat) (o:DObj) (hb:β id=some b) (hid:(s.ho id).isSome=true)
  (hother:∀ b',b'≠b→w'.heap[b']?=w.heap[b']?)
  (hsz:w'.heap.size=w.heap.size) (hos:w'.os=w.os) (htape:w'.tape=w.tape) (hout:w'.output=w.output)
  (hshape:SameShape w w' b)
  (hobj:(∀ x d,WV C U (s.vw C) β w x d→WV C U ((s.upd nid (.wr id o)).vw C) β w' x d)→RelO C U ((s.upd nid (.wr id o)).vw C) β w' id o) :
  HoldsB C U (s.upd nid (.wr id o)) β a w'∧∀ x d,WV C U (s.vw C) β w x d→WV C U ((s.upd nid (.wr id o)).vw C) β w' x d:=by
 have h:=hs.hh.write (V':=(s.upd nid (.wr id o)).vw C) (w':=w') id b hb (Af4 hid) hother hsz hos htape hout hshape (fun j hj=>Bw4 j hj) (by rw [Ba3]; rfl)
  (fun o' ho' hrel=>by rw [Ba3] at ho'; cases ho'; exact hobj hrel)
 refine ⟨hs.carry rfl (fun j o' hy=>?_) h,h.2.1⟩
 have h1:=hs.yd j o' hy
 rw [DS.ho_upd]
 simp only [Upd.app]
 rw [Ae2 _ _ (fun e=>by rw [← e,h1] at hid; cases hid)]
 exact h1
theorem ok_st {t T:TypeId} {k:Option Nat} {x y:Operand} {id off n:Nat} {cs:List DV} (ho:o.op=.store t x y) (hk:tkind C.P t=some k) (hkn:n=k.getD 1) (hs:HoldsB C U s β a w) (hx:s.ev x=.pt id off)
  (hid:s.ho id=some (.row T cs)) (hok:(s.ev y).okC=true) (hlen:(s.ev y).cells.length=n) (hfit:off+n≤cs.length) :
  OpOk C U a w o .any (s.upd nid (.wr id (.row T (cs.take off ++ (s.ev y).cells ++ cs.drop (off+n))))):=by
 have h1:=hs.ev x
 rw [hx] at h1
 obtain ⟨b,e1,hb⟩:=An6 h1
 obtain ⟨c,hw,hl,hex,hr⟩:=hs.row hb hid
 obtain ⟨g1,g2,g3⟩:=hs.cells y hok
 have hst:=run_storeCells_at C.P b off T (a.eval y).cells.toList 0 c w hw (by simp; omega) g2
 simp only [Nat.add_zero] at hst
 have hsz:(sizeOf t).run C.P w=.ok n w:=by
  cases k with
  | none=>rw [hkn]; exact (Ai1 hk w).2.1
  | some m=>rw [hkn]; exact (Ao6 hk w).2.1
 have hwr:HoldsB C U (s.upd nid (.wr id (.row T (cs.take off ++ (s.ev y).cells ++ cs.drop (off+n))))) β a (w.setRow b (c.toList.take off ++ (a.eval y).cells.toList ++ c.toList.drop (off+(a.eval y).cells.toList.length)).toArray):=by
  refine (hs.wrote nid id b _ hb (by rw [hid]; rfl) (fun b' hb'=>setRow_other w b b' _ hb') (by simp) rfl rfl rfl ?_ fun hrel=>?_).1
  ·intro c' T' hc'
   rw [hw] at hc'
   cases hc'
   refine ⟨_,setRow_heap w b c _ T _ hw,?_⟩
   simp; omega
  ·refine .inr ⟨b,_,hb,setRow_heap w b c _ T _ hw,by simp; omega,fun h=>(by have:=hex h; simp; omega),fun j u d hu hd=>?_⟩
   have hgs:(a.eval y).cells.toList.length=n:=by simp; omega
   have hu':(c.toList.take off ++ (a.eval y).cells.toList ++ c.toList.drop (off+n))[j]?=some u:=by rw [← hgs]; simpa using hu
   rw [List.append_assoc,List.getElem?_append] at hu' hd
   simp only [List.length_take,Array.length_toList] at hu' hd
   rw [show min off c.size=off by omega] at hu'
   rw [show min off cs.length=off by omega] at hd
   by_cases hj:j < off
   ·rw [if_pos hj] at hu' hd
    rw [List.getElem?_take_of_lt hj] at hu' hd
    have:=hr j u d (by simpa using hu') hd
    exact ⟨hrel _ _ this.1,this.2⟩
   ·rw [if_neg hj] at hu' hd
    rw [List.getElem?_append] at hu' hd
    rw [hgs] at hu'
    rw [hlen] at hd
    by_cases hj2:j - off < n
    ·rw [if_pos hj2] at hu' hd
     exact ⟨hrel _ _ (g3 _ u d (by simpa using hu') hd),g2 u (List.mem_of_getElem? hu')⟩
    ·rw [if_neg hj2] at hu' hd
     rw [List.getElem?_drop] at hu' hd
     have:=hr _ u d (by simpa using hu') hd
     exact ⟨hrel _ _ this.1,this.2⟩
 refine ⟨.skip,_,β,undef,?_,.inr ⟨rfl,rfl⟩,hwr,WV.any⟩
 have hcs:(a.eval y).cells.size=n:=by omega
 simp [execOp,ho,e1,Instr.storeAt,Instr.sureAddr,storeVar,hsz,hcs,hst]
theorem Ck4 {t e:TypeId} (hna:isArr C.P e=false) {x y:Operand} {z:List Value} {l c:Int} (ho:o.op=.makeSlice t x y) (ht:C.P.underlying t=some (.slice e)) (hz:zeroL C.P e=some z)
  (hzl:z.length=C.P.cellsOf e) (he:0 < C.P.cellsOf e) (hby:C.P.bytesOf e≤65536) (hs:HoldsB C U s β a w) (hnew:¬ U nid) (hx:intD (s.ev x)=some l) (hy:intD (s.ev y)=some c) (h0:0≤l) (hlc:l≤c) (hc:c≤2147483648) :
  OpOk C (Un U nid) a w o (.ms nid 0 l.toNat (C.P.cellsOf e)) (s.upd nid (.lay (.row e ((List.replicate l.toNat (z.map .v)).flatten)))):=by
 obtain ⟨i,v,hi,hv,rfl,h1⟩:=Ao9 hz
 obtain ⟨kl,hkl⟩:=Aq5 (hs.ev x) hx
 obtain ⟨kc,hkc⟩:=Aq5 (hs.ev y) hy
 have hsz:C.P.cellsOf e=i.size:=by simp [Program.cellsOf,hi]
 have hbs:C.P.bytesOf e=i.bytes:=by simp [Program.bytesOf,hi]
 simp only [hsz] at he hzl
 rw [hbs] at hby
 have hvs:v.cells.size=i.size:=by simpa using hzl
 have hrun:=run_make (P:=C.P) w t e i v ht hi hv kl kc l c h0 hlc (by
  have h2:(i.bytes:Int)*c≤65536*2147483648:=Int.mul_le_mul (by omega) hc (by omega) (by omega)
  omega) (by omega)
 have hinit:(madeCells v.cells (c.toNat*i.size)).toList=(List.replicate c.toNat v.cells.toList).flatten:=by
  rw [← hvs]; exact Au9 v.cells c.toNat (by omega)
 have hlenC:(madeCells v.cells (c.toNat*i.size)).size=c.toNat*i.size:=size_madeCells _ _
 have hpre:(List.replicate l.toNat v.cells.toList).flatten=((List.replicate c.toNat v.cells.toList).flatten).take (l.toNat*i.size):=by
  apply List.ext_getElem?
  intro j
  rw [List.getElem?_take,Ab3,Ab3]
  simp only [Array.length_toList,hvs]
  by_cases hj:j < l.toNat*i.size
  ·have:j < c.toNat*i.size:=Nat.lt_of_lt_of_le hj (Nat.mul_le_mul_right _ (by omega))
   simp [hj,this]
  ·simp [hj]
 have hll:((List.replicate l.toNat v.cells.toList).flatten).length=l.toNat*i.size:=by
  rw [hpre,List.length_take,← hinit,Array.length_toList,hlenC]
  exact Nat.min_eq_left (Nat.mul_le_mul_right _ (by omega))
 have hfr:=hs.fresh hnew e (madeCells v.cells (c.toNat*i.size)) ((List.replicate l.toNat (v.cells.toList.map .v)).flatten) w.heap.size (Ag6 w (.cells (madeCells v.cells (c.toNat*i.size)) e)) (Nat.le_refl _) (heap_alloc_new w _)
  (by rw [Ab7,List.length_map,hll,hlenC]; exact Nat.mul_le_mul_right _ (by omega)) (fun h=>by rw [hna] at h; cases h)
  (fun j u d hu hd=>by
   rw [Ab7] at hd
   have hjl:j < l.toNat*i.size:=by
    have:=(List.getElem?_eq_some_iff.1 hd).1
    rwa [List.length_map,hll] at this
   refine Ap0 (Ae7 h1 l.toNat) j u d ?_ hd
   rw [hpre,List.getElem?_take_of_lt hjl,← hinit,Array.getElem?_toList]
   exact hu)
 refine ⟨.value (.slice (some ⟨w.heap.size,0,none⟩) l.toNat c.toNat),_,_,_,?_,.inl rfl,hfr,Au7 (.ms nid 0 _ _ w.heap.size _ _ e (by simp) (heap_alloc_new w _) (by omega) (by simp only [maxLen]; omega) ?_) rfl⟩
 ·simp [execOp,ho,hkl,hkc,hrun]
 ·rw [hlenC,hsz]; omega
end ops
end Go.DD

/- Each operation on deep values is what the model's operation does (fourth part: append). -/
namespace Go.DD
open Go.RowKit (Below)
section ops
variable {C:Ctx} {U:Nat→Prop} {s:DS} {β:Nat→Option Nat} {a:Act} {w:World} {o:Oper} {d:DV} {s':DS} {nid:Nat}
theorem src_ok {T:TypeId} {es m:Nat} {x:Operand} {news:List DV} (hs:HoldsB C U s β a w) (h:srcD s T es (s.ev x)=some (news,m)) :
  ∃ us:List Value,us.length=news.length∧(∀ u∈us,u.oneCell'=true)∧(∀ (j:Nat) (u:Value) (d:DV),us[j]?=some u→news[j]?=some d→WV C U (s.vw C) β w u d)∧
   ((∃ ad cap,a.eval x=.slice (some ad) m cap∧∀ (j:Nat) (u:Value),us[j]?=some u→w.cell? (ad.add j)=some u)∨(∃ cap,a.eval x=.slice none 0 cap∧m=0∧us=[])):=by
 have h1:=hs.ev x
 unfold srcD at h
 split at h
 ·rename_i cs n hx
  cases h
  rw [hx] at h1
  rcases Ay3 h1 with ⟨ad,cap,e1,rfl,rfl⟩ | ⟨ad,cap,us,e1,hl,hn,ha,h1c,hc,hr⟩
  ·refine ⟨[],rfl,by simp,by simp,?_⟩
   cases ad with
   | none=>exact .inr ⟨cap,e1,rfl,rfl⟩
   | some ad=>exact .inl ⟨ad,cap,e1,by simp⟩
  ·exact ⟨us,hl,h1c,fun j u d hu hd=>Ao7 (hr j u d hu hd),.inl ⟨ad,cap,e1,hc⟩⟩
 ·rename_i cap hx
  cases h
  rw [hx] at h1
  exact ⟨[],rfl,by simp,by simp,.inr ⟨cap,rel_v h1,rfl,rfl⟩⟩
 ·rename_i ad cap hx
  cases h
  rw [hx] at h1
  exact ⟨[],rfl,by simp,by simp,.inl ⟨ad,cap,rel_v h1,by simp⟩⟩
 ·rename_i id off n es' hx
  rw [hx] at h1
  split at h
  ·rename_i T' cs hrow
   split at h
   ·rename_i hfit
    obtain ⟨rfl,rfl,hfit⟩:=hfit
    cases h
    rcases Ar5 h1 with ⟨e1,rfl,rfl⟩ | ⟨b,cap,c,T,e1,hb,hw,hn,hm,hcap⟩
    ·exact ⟨[],by simp,by simp,by simp,.inr ⟨0,e1,rfl,rfl⟩⟩
    ·obtain ⟨c',hw',hl,_,hr⟩:=hs.row hb hrow
     rw [hw] at hw'
     injection hw' with hw'
     injection hw' with hcc hT
     subst hT hcc
     refine ⟨(c.toList.drop off).take (m*es'),by simp; omega,fun u hu=>?_,fun j u d hu hd=>?_,.inl ⟨_,cap,e1,fun j u hu=>?_⟩⟩
     ·obtain ⟨j,hj,rfl⟩:=List.mem_iff_getElem.1 hu
      have hjl:off+j < cs.length:=by simp at hj; omega
      refine (hr (off+j) _ cs[off+j] ?_ (List.getElem?_eq_getElem hjl)).2
      rw [List.getElem_take,List.getElem_drop]
      simp
     ·rw [List.getElem?_take] at hu hd
      split at hu
      ·rename_i hj
       rw [if_pos hj] at hd
       exact (hr (off+j) u d (by simpa using hu) (by simpa using hd)).1
      ·cases hu
     ·rw [List.getElem?_take] at hu
      split at hu
      ·exact Ao8 hw j u hu
      ·cases hu
   ·cases h
  ·cases h
 ·cases h
theorem Ck5 {T:TypeId} {es n:Nat} {old:Option Nat} {x:Operand} {cs:List DV} (hes:es=C.P.cellsOf T) (hs:HoldsB C U s β a w) (h:dstD s T es (s.ev x)=some (old,cs,n)) :
  ∃ xs:List Value,w.ownsRow 0 T es (a.eval x) n xs∧xs.length=cs.length∧(∀ (j:Nat) (u:Value) (d:DV),xs[j]?=some u→cs[j]?=some d→WV C U (s.vw C) β w u d∧u.oneCell'=true)∧
   (∀ b,(a.eval x).ownBlock=some b→∃ id,old=some id∧β id=some b)∧∀ id,old=some id→(s.ho id).isSome=true:=by
 have h1:=hs.ev x
 unfold dstD at h
 split at h
 ·rename_i hx
  cases h
  rw [hx] at h1
  rw [rel_v h1]
  exact ⟨[],World.ownsRow_nil w _ _ _,rfl,by simp,by simp [Value.ownBlock],by simp⟩
 ·rename_i id' n' es' hx
  rw [hx] at h1
  split at h
  ·rename_i T' cs' hrow
   split at h
   ·rename_i hc
    obtain ⟨rfl,hes',hlen⟩:=hc
    cases h
    subst es'
    rcases Ar5 h1 with ⟨e1,_,rfl⟩ | ⟨b,cap,c,T,e1,hb,hw,hn,hm,hcap⟩
    ·have hcs:cs=[]:=List.eq_nil_of_length_eq_zero (by simpa using hlen)
     subst hcs
     rw [e1]
     exact ⟨[],World.ownsRow_nil w _ _ _,rfl,by simp,by simp [Value.ownBlock],fun i hi=>by cases hi; rw [hrow]; rfl⟩
    ·obtain ⟨c',hw',hl,_,hr⟩:=hs.row hb hrow
     rw [hw] at hw'
     injection hw' with hw'
     injection hw' with hcc hT
     subst hT hcc
     have hlc:(c.toList.take (n*es)).length=n*es:=by simp; omega
     refine ⟨c.toList.take (n*es),⟨hlc,.inr ⟨b,cap,c,e1,Nat.zero_le _,hw,hn,hm,by omega,rfl⟩⟩,by omega,fun j u d hu hd=>?_,fun b' hb'=>?_,fun i hi=>by cases hi; rw [hrow]; rfl⟩
     ·rw [List.getElem?_take] at hu
      split at hu
      ·exact hr j u d (by simpa using hu) hd
      ·cases hu
     ·rw [e1] at hb'
      simp [Value.ownBlock] at hb'
      exact ⟨_,rfl,by rw [← hb']; exact hb⟩
   ·cases h
  ·cases h
 ·cases h
theorem Ap1 {P:Program} (w:World) (base:Nat) (t ty e:TypeId) (i:TypeInfo) (size:Nat) (ht:P.underlying t=some (.slice e)) (hi:P.info? e=some i)
  (v:Value) (n:Nat) (xs:List Value) (hown:w.ownsRow base e size v n xs) (c:Nat):(Builtin.append_ #[t,t] ty #[v,.slice none 0 c]).run P w=.ok v w:=by
 rcases hown.2 with ⟨rfl,rfl⟩ | ⟨g,cap,cur,rfl,_,_,hnc,_⟩
 ·simp [Builtin.append_,run_underlying ht,sizeOf,typeInfo,hi,Builtin.lenOf,Builtin.firstCells]
 ·simp [Builtin.append_,run_underlying ht,sizeOf,typeInfo,hi,Builtin.lenOf,Builtin.firstCells,hnc,storeCells]
def Bk8 (β:Nat→Option Nat):Option Nat→Nat→Option Nat
 | none=>β
 | some i=>upd β i none
theorem Ck6 {t T:TypeId} (hna:isArr C.P T=false) {c:Call} {x y:Operand} {z:List Value} {es bytes n m:Nat} {old:Option Nat} {cs news:List DV} (ho:o.op=.call c) (hc:c.callee=.builtin .append) (hargs:c.args.toList=[x,y]) (hty:c.argTypes.toList=[t,t])
  (ht:C.P.underlying t=some (.slice T)) (hz:zeroL C.P T=some z) (hzl:z.length=C.P.cellsOf T) (hes:es=C.P.cellsOf T) (hby:bytes=C.P.bytesOf T) (hs:HoldsB C U s β a w) (hnew:¬ U nid) (hd:dstD s T es (s.ev x)=some (old,cs,n)) (hsr:srcD s T es (s.ev y)=some (news,m))
  (hnl:news.length=m*es) (he:0 < es) (hbd:n+m≤2147483648) (hb2:bytes≤65536):OpOk C (Un U nid) a w o (.ms nid 0 (n+m) es) (s.upd nid (.mv old (.row T (cs ++ news)))):=by
 obtain ⟨i,v,hi,hv,rfl,h1z⟩:=Ao9 hz
 have hsz:C.P.cellsOf T=i.size:=by simp [Program.cellsOf,hi]
 have hbs:C.P.bytesOf T=i.bytes:=by simp [Program.bytesOf,hi]
 have hA:c.args = #[x,y]:=by apply Array.ext'; simpa using hargs
 have hT:c.argTypes = #[t,t]:=by apply Array.ext'; simpa using hty
 obtain ⟨us,ul,u1,ur,usrc⟩:=src_ok hs hsr
 obtain ⟨xs,hown,xl,xr,hob,hlive⟩:=Ck5 hes hs hd
 have hul:us.length=m*es:=by omega
 have key:∃ v' w',(Builtin.append_ #[t,t] o.type #[a.eval x,a.eval y]).run C.P w=.ok v' w'∧w'.ownsRow 0 T es v' (n+m) (xs ++ us)∧w.grownBy w' (a.eval x).ownBlock∧
   (v'.ownBlock=(a.eval x).ownBlock∨v'.ownBlock=some w.heap.size):=by
  rcases usrc with ⟨ad,cap,e1,hcell⟩ | ⟨cap,e1,rfl,rfl⟩
  ·obtain ⟨v',w',r1,r2,r3,_,r5⟩:=run_append_own_at (P:=C.P) w 0 t o.type T i v es bytes ht hi hv (by omega) (by omega) (by have h:=hzl; rw [Array.length_toList] at h; omega) he (a.eval x) n xs hown ad m cap us hul hcell u1
    (by simp only [maxLen]; omega) (by have:=Nat.mul_le_mul hbd hb2; omega) (Nat.zero_le _)
   exact ⟨v',w',by rw [e1]; exact r1,r2,r3,r5⟩
  ·refine ⟨a.eval x,w,by rw [e1]; exact Ap1 w _ t _ T i es ht hi _ _ _ hown cap,by simpa using hown,⟨rfl,rfl,rfl,Nat.le_refl _,fun _ _ _=>rfl⟩,.inl rfl⟩
 obtain ⟨v',w',hrun,hown',hg,hat⟩:=key
 have hlt':∀ b,v'.ownBlock=some b→0≤b∧b < w'.heap.size:=hown'.lt
 have hne:∀ j,old=some j→j≠nid:=fun j hj e=>hnew (e ▸ hs.hh.used (Af4 (hlive j hj)))
 have hturn:=hs.turned (β':=upd (Bk8 β old) nid v'.ownBlock) (w':=w') hnew old hlive (.row T (cs ++ news))
  (fun b hb hne=>hg.block b hb (fun e=>by obtain ⟨j,h1,h2⟩:=hob b e.symm; exact hne j h1 h2))
  hg.os hg.tape hg.output hg.size
  (fun j hj hjo=>by
   rw [Ae9 _ _ hj]
   cases old with
   | none=>rfl
   | some i=>exact Ae9 β _ (fun e=>hjo (by rw [e])))
  (fun j hj=>by
   rw [Ae9 _ _ (hne j hj)]
   subst hj
   exact upd_same _ _ _)
  (fun b hb=>by
   rw [upd_same] at hb
   refine ⟨?_,(hlt' b hb).2⟩
   rcases hat with h | h
   ·exact .inl (hob b (by rw [← h]; exact hb))
   ·rw [h] at hb; cases hb; exact .inr (Nat.le_refl _))
  (fun hrel=>by
   have hkl:(cs ++ news).length=(n+m)*es:=by
    simp only [List.length_append]
    have h2:=hown.1
    rw [Nat.add_mul]; omega
   rcases hown'.2 with ⟨e1,e2⟩ | ⟨g,cap,cur,e1,hbg,hgw,hnc,hcm,hcs,htake⟩
   ·refine .inl ⟨by rw [upd_same,e1]; rfl,List.eq_nil_of_length_eq_zero (by rw [hkl,e2]; simp)⟩
   ·refine .inr ⟨g,cur,by rw [upd_same,e1]; rfl,hgw,by rw [hkl,hcs]; exact Nat.mul_le_mul_right _ hnc,fun h=>(by rw [hna] at h; cases h),fun j u d hu he'=>?_⟩
    have hj:j < (n+m)*es:=by
     have:=(List.getElem?_eq_some_iff.1 he').1
     omega
    have hu':(xs ++ us)[j]?=some u:=by
     rw [← htake,List.getElem?_take_of_lt hj]
     simpa using hu
    rw [List.getElem?_append] at hu' he'
    rw [xl] at hu'
    by_cases hjx:j < cs.length
    ·rw [if_pos hjx] at hu' he'
     have:=xr j u d hu' he'
     exact ⟨hrel _ _ this.1,this.2⟩
    ·rw [if_neg hjx] at hu' he'
     exact ⟨hrel _ _ (ur _ u d hu' he'),u1 u (List.mem_of_getElem? hu')⟩)
 refine ⟨.value v',w',_,_,?_,.inl rfl,hturn.1,?_⟩
 ·simp [execOp,ho,resolve,hc,hA,hT,invoke,builtin,hrun]
 ·refine Au7 ?_ rfl
  rcases hown'.2 with ⟨e1,e2⟩ | ⟨g,cap,cur,e1,hbg,hgw,hnc,hcm,hcs,htake⟩
  ·rw [e1,e2]; exact .ms0 nid es
  ·have h2:upd (Bk8 β old) nid v'.ownBlock nid=some g:=by rw [upd_same,e1]; rfl
   rw [e1] at h2 ⊢
   exact .ms nid 0 _ es g cap cur T h2 hgw hnc hcm (by rw [hcs]; omega)
end ops
end Go.DD

/- Maps among the own objects: made, read, written, counted. Keys: bools, integers, strings. -/
namespace Go.DD
open Go.RowKit (Below)
theorem Bk9 {d:TypeDesc} {v:Value} (h:A36 d v=true):MapKept.IsKey d v:=by
 cases d <;> cases v <;> simp_all [A36,MapKept.IsKey]
theorem bytes_beq (a b:ByteArray):(a == b)=(a.data.toList == b.data.toList):=by
 obtain ⟨x⟩:=a
 obtain ⟨y⟩:=b
 show (x == y)=(x.toList == y.toList)
 rw [Bool.eq_iff_iff]
 simp only [beq_iff_eq]
 exact ⟨fun h=>by rw [h],fun h=>Array.toList_inj.1 h⟩
theorem A03 (d:TypeDesc) (k x:Value):sameD d k x=Instr.sameNow d k x:=by
 cases d <;> cases k <;> cases x <;> simp [sameD,Instr.sameNow,bytes_beq]
theorem Bw5 {kd:TypeDesc} {k x:Value} (h:sameD kd k x=some true):x=k:=by
 unfold sameD at h
 split at h
 ·split at h
  ·rename_i e; subst e; simp at h; rw [h]
  ·cases h
 ·simp only [Option.some.injEq,beq_iff_eq] at h
  congr 1
  rename_i x y
  obtain ⟨x⟩:=x
  obtain ⟨y⟩:=y
  simp only at h
  rw [Array.toList_inj.1 h]
 ·simp at h; rw [h]
 ·cases h
theorem Bl0 {kd:TypeDesc} {k:Value} (h:A36 kd k=true):Instr.sameBits 10000 k k=true:=by
 unfold A36 at h
 split at h
 ·simp [Instr.sameBits]
 ·simp [Instr.sameBits]
 ·rw [Instr.sameBits,bytes_beq]; simp
 ·cases h
theorem bytes_inj {a b:ByteArray} (h:(a.toList == b.toList)=true):a=b:=by
 have e:a.toList=b.toList:=by simpa using h
 rw [ByteArray.toList_eq,ByteArray.toList_eq] at e
 obtain ⟨a⟩:=a
 obtain ⟨b⟩:=b
 congr 1
 exact Array.toList_inj.1 e
theorem Bl1 {ks:List Nat} {a b:Value} {r:Bool} (h:sameK (.f ks) a b=some r):∃ xs ys:Array Value,a=.agg xs∧b=.agg ys∧eqL ks (xs.toList.map .v) (ys.toList.map .v)=some r:=by
 cases a <;> cases b <;> simp only [sameK] at h <;> first | (cases h; done) | exact ⟨_,_,rfl,rfl,h⟩
theorem Ba4 {ks:List Nat} {a:Value} (h:Al3 (.f ks) a=true):∃ xs:Array Value,a=.agg xs∧cellsB ks xs.toList=true:=by
 cases a <;> simp only [Al3] at h <;> first | (cases h; done) | exact ⟨_,rfl,h⟩
theorem Bw6 {k:Nat} {x y:Value} (h:eqC k (.v x) (.v y)=some true):x=y:=by
 match k with
 | 0=>
  cases x <;> cases y <;> simp only [eqC] at h <;> first | (cases h; done) | skip
  split at h
  ·rename_i hk; subst hk; simp at h; rw [h]
  ·cases h
 | 1=>cases x <;> cases y <;> simp only [eqC] at h <;> first | (cases h; done) | (have:=(Option.some.inj h); simp at this; rw [this])
 | 2=>cases x <;> cases y <;> simp only [eqC] at h <;> first | (cases h; done) | exact congrArg Value.string (bytes_inj (by simpa using h))
 | k+3=>cases x <;> cases y <;> simp [eqC] at h
theorem Ba5:∀ {ks:List Nat} {xs ys:List Value},eqL ks (xs.map .v) (ys.map .v)=some true→xs=ys
 | [],[],[],_=>rfl
 | k :: ks,x :: xs,y :: ys,h=>by
  simp only [List.map_cons,eqL] at h
  split at h
  ·rename_i hc; rw [Bw6 hc,Ba5 h]
  ·cases h
  ·cases h
 | [],_ :: _,_,h=>by simp [eqL] at h
 | [],[],_ :: _,h=>by simp [eqL] at h
 | _ :: _,[],_,h=>by simp [eqL] at h
 | _ :: _,_ :: _,[],h=>by simp [eqL] at h
structure KLaw (P:Program) (kt:TypeId) (kd:KD):Prop where
 chk:∀ (w:World) (e:Bool) (kv:Value),Al3 kd kv=true→(Instr.checkKey e 10000 kt kv).run P w=.ok () w
 one:∀ (kv x:Value),sameK kd kv x=some true→x=kv
 bits:∀ kv,Al3 kd kv=true→Instr.sameBits 10000 kv kv=true
 find:∀ (w:World) (kv:Value) (ms:List MapEntry) (es:List ME) (i:Nat) (r:Option (Nat×ME)),ms.length=es.length→(∀ (j:Nat) (e:MapEntry) (p:ME),ms[j]?=some e→es[j]?=some p→e.key=p.k)→findD kd kv es i=some r→
  (r=none∧∀ f,i=0→f=ms→(Instr.findKey kt kv f).run P w=.ok none w)∨∃ j e p,r=some (i+j,p)∧ms[j]?=some e∧es[j]?=some p∧(∀ f,i=0→f=ms→(Instr.findKey kt kv f).run P w=.ok (some (i+j,e.val)) w)∧sameK kd kv e.key=some true
theorem Ba6 {d:TypeDesc} {k:Value} : ∀ (ms:List MapEntry) (es:List ME) (i:Nat) (r:Option (Nat×ME)),ms.length=es.length→(∀ (j:Nat) (e:MapEntry) (p:ME),ms[j]?=some e→es[j]?=some p→e.key=p.k)→
  findD (.p d) k es i=some r→(r=none∧Instr.findNow d k ms i=some none)∨
   ∃ j e p,r=some (i+j,p)∧ms[j]?=some e∧es[j]?=some p∧Instr.findNow d k ms i=some (some (i+j,e.val))∧sameD d k e.key=some true
 | [],[],i,r,_,_,h=>by simp [findD] at h; subst h; exact .inl ⟨rfl,rfl⟩
 | [],_ :: _,_,_,h,_,_=>by simp at h
 | _ :: _,[],_,_,h,_,_=>by simp at h
 | m :: ms,p :: ps,i,r,hl,hk,h=>by
  have hkey:m.key=p.k:=hk 0 m p rfl rfl
  simp only [findD,sameK] at h
  split at h
  ·rename_i hs
   cases h
   refine .inr ⟨0,m,p,rfl,rfl,rfl,?_,by rw [hkey]; exact hs⟩
   simp [Instr.findNow,← A03,hkey,hs]
  ·rename_i hs
   rcases Ba6 ms ps (i+1) r (by simpa using hl) (fun j e q he hq=>hk (j+1) e q (by simpa using he) (by simpa using hq)) h with ⟨h1,h2⟩ | ⟨j,e,v,h1,h2,h3,h4,h5⟩
   ·refine .inl ⟨h1,?_⟩
    simp [Instr.findNow,← A03,hkey,hs,h2]
   ·refine .inr ⟨j+1,e,v,by rw [h1]; congr 2; omega,by simpa using h2,by simpa using h3,?_,h5⟩
    simp [Instr.findNow,← A03,hkey,hs,h4]; omega
  ·cases h
theorem Ck7 {P:Program} {kt:TypeId} {d:TypeDesc} (hu:P.underlying kt=some d):KLaw P kt (.p d) where
 chk:=fun w e kv h=>MapKept.run_checkKey hu (Bk9 h) e 9999
 one:=fun kv x h=>Bw5 h
 bits:=fun kv h=>Bl0 h
 find:=fun w kv ms es i r hl hk h=>by
  rcases Ba6 ms es i r hl hk h with ⟨h1,h2⟩ | ⟨j,e,p,h1,h2,h3,h4,h5⟩
  ·exact .inl ⟨h1,fun f hi hf=>by subst hi hf; exact MapKept.run_findKey hu h2⟩
  ·exact .inr ⟨j,e,p,h1,h2,h3,fun f hi hf=>by subst hi hf; exact MapKept.run_findKey hu h4,h5⟩
theorem B27 {P:Program} {kt:TypeId} {ks:List Nat} (hwide:(match P.underlying kt with | some (.array _ _) | some (.struct _)=>true | _=>false)=true)
  (hchk:∀ (w:World) (e:Bool) (cs:Array Value),cellsB ks cs.toList=true→(Instr.checkKey e 10000 kt (.agg cs)).run P w=.ok () w)
  (heq:∀ (w:World) (xs ys:Array Value) (r:Bool),eqL ks (xs.toList.map .v) (ys.toList.map .v)=some r→(Op.equal kt (.agg xs) (.agg ys)).run P w=.ok r w):KLaw P kt (.f ks) where
 chk:=fun w e kv h=>by
  obtain ⟨cs,rfl,h⟩:=Ba4 h
  exact hchk w e _ h
 one:=fun kv x h=>by
  obtain ⟨xs,ys,rfl,rfl,h⟩:=Bl1 h
  have:=Ba5 h
  rw [Array.toList_inj.1 this]
 bits:=fun kv h=>by
  obtain ⟨cs,rfl,h⟩:=Ba4 h
  ·have key:∀ (ks:List Nat) (l:List Value),cellsB ks l=true→∀ p∈l.zip l,(Instr.sameBits 9999 p.1 p.2)=true:=by
    intro ks l
    induction l generalizing ks with
    | nil=>simp
    | cons a l ih=>
     intro h p hp
     simp only [List.zip_cons_cons,List.mem_cons] at hp
     unfold cellsB at h
     split at h
     ·rename_i e; cases e
     ·rename_i e; cases e
      rcases hp with rfl | hp
      ·simp [Instr.sameBits]
      ·exact ih _ h p hp
     ·rename_i e; cases e
      rcases hp with rfl | hp
      ·simp [Instr.sameBits]
      ·exact ih _ h p hp
     ·rename_i e; cases e
      rcases hp with rfl | hp
      ·rw [Instr.sameBits,bytes_beq]; simp
      ·exact ih _ h p hp
     ·cases h
   show Instr.sameBits (9999+1) (.agg cs) (.agg cs)=true
   simp only [Instr.sameBits,beq_self_eq_true,Bool.true_and,List.all_eq_true]
   exact key ks cs.toList h
 find:=fun w kv ms es i r hl hk h=>by
  have key:∀ (ms:List MapEntry) (es:List ME) (i:Nat) (r:Option (Nat×ME)),ms.length=es.length→(∀ (j:Nat) (e:MapEntry) (p:ME),ms[j]?=some e→es[j]?=some p→e.key=p.k)→findD (.f ks) kv es i=some r→
    (r=none∧(Instr.findAsking kt kv ms i).run P w=.ok none w)∨∃ j e p,r=some (i+j,p)∧ms[j]?=some e∧es[j]?=some p∧(Instr.findAsking kt kv ms i).run P w=.ok (some (i+j,e.val)) w∧sameK (.f ks) kv e.key=some true:=by
   intro ms
   induction ms with
   | nil=>
    intro es i r hl _ h
    cases es with
    | nil=>simp [findD] at h; subst h; exact .inl ⟨rfl,by simp [Instr.findAsking]⟩
    | cons _ _=>simp at hl
   | cons m ms ih=>
    intro es i r hl hk h
    cases es with
    | nil=>simp at hl
    | cons p ps=>
     have hkey:m.key=p.k:=hk 0 m p rfl rfl
     have hrun:∀ b,sameK (.f ks) kv p.k=some b→(Op.equal kt kv m.key).run P w=.ok b w:=by
      intro b hb
      rw [hkey]
      obtain ⟨xs,ys,e1,e2,hb⟩:=Bl1 hb
      rw [e1,e2]
      exact heq w _ _ b hb
     simp only [findD] at h
     split at h
     ·rename_i hs
      cases h
      refine .inr ⟨0,m,p,rfl,rfl,rfl,?_,by rw [hkey]; exact hs⟩
      simp [Instr.findAsking,hrun _ hs]
     ·rename_i hs
      rcases ih ps (i+1) r (by simpa using hl) (fun j e q he hq=>hk (j+1) e q (by simpa using he) (by simpa using hq)) h with ⟨h1,h2⟩ | ⟨j,e,v,h1,h2,h3,h4,h5⟩
      ·exact .inl ⟨h1,by simp [Instr.findAsking,hrun _ hs,h2]⟩
      ·refine .inr ⟨j+1,e,v,by rw [h1]; congr 2; omega,by simpa using h2,by simpa using h3,?_,h5⟩
       simp [Instr.findAsking,hrun _ hs,h4]; omega
     ·cases h
  rcases key ms es i r hl hk h with ⟨h1,h2⟩ | ⟨j,e,p,h1,h2,h3,h4,h5⟩
  ·exact .inl ⟨h1,fun f hi hf=>by subst hi hf; rw [run_findKey_eq w hwide]; exact h2⟩
  ·exact .inr ⟨j,e,p,h1,h2,h3,fun f hi hf=>by subst hi hf; rw [run_findKey_eq w hwide]; exact h4,h5⟩
theorem Ap2 {P:Program} {w:World} {t:TypeId} {k:Nat} {v:Value} (h:Aj8 P t=some k) (e:Bool) (n:Nat) (hv:cellsB [k] [v]=true):(Instr.checkKey e (n+1) t v).run P w=.ok () w:=by
 unfold Aj8 at h
 unfold Instr.checkKey
 split at h <;> first | (cases h; done) | skip
 all_goals
  rename_i hu
  simp only [Sem.run_bind,run_underlying hu,Result.andThen_ok]
  cases h
  cases v <;> first | (simp [cellsB] at hv; done) | rfl
theorem Av0 {k:Nat} {ks:List Nat} {l:List Value} (h:cellsB (k :: ks) l=true):∃ v l',l=v :: l'∧cellsB [k] [v]=true∧cellsB ks l'=true:=by
 cases l with
 | nil=>unfold cellsB at h; simp at h
 | cons v l=>
  refine ⟨v,l,rfl,?_⟩
  match k with
  | 0=>cases v <;> simp_all [cellsB]
  | 1=>cases v <;> simp_all [cellsB]
  | 2=>cases v <;> simp_all [cellsB]
  | k+3=>cases v <;> simp [cellsB] at h
theorem A40 {P:Program} {t:TypeId} {k:Nat} (h:Aj8 P t=some k) (w:World):(isAgg t).run P w=.ok false w:=by
 unfold Aj8 at h
 simp only [isAgg,Sem.run_bind]
 split at h <;> first | (rename_i hu; rw [run_underlying hu]; rfl) | cases h
theorem A04 {P:Program} {w:World} {t:TypeId} {k:Nat} {x y:Value} {b:Bool} (hp:Aj8 P t=some k) (h:eqC k (.v x) (.v y)=some b) (d:Nat):(Op.equalIn (d+1) t x y).run P w=.ok b w:=by
 unfold Aj8 at hp
 unfold eqC at h
 split at h
 ·rename_i e1 e2; cases e1; cases e2
  split at h
  ·cases h
   rename_i hk
   subst hk
   split at hp <;> cases hp
   rename_i hu; exact run_equalIn_int w d _ _ _ _ _ hu
  ·cases h
 ·rename_i e1 e2; cases e1; cases e2
  cases h
  split at hp <;> cases hp
  rename_i hu; exact run_equalIn_bool' w d _ _ _ hu
 ·rename_i e1 e2; cases e1; cases e2
  cases h
  split at hp <;> cases hp
  rename_i hu; exact run_equalIn_string w d _ _ _ hu
 ·cases h
theorem klaw {P:Program} {kt:TypeId} {kd:KD} (h:keyKd P kt=some kd):KLaw P kt kd:=by
 unfold keyKd at h
 split at h
 ·rename_i fs hu
  split at h
  rotate_left
  ·cases h
  rename_i hst
  obtain ⟨ks,hf,rfl⟩:=Option.map_eq_some_iff.1 h
  refine B27 (by rw [hu]) (fun w e cs hc=>?_) (fun w xs ys r hr=>?_)
  ·show (Instr.checkKey e (9999+1) kt (.agg cs)).run P w=.ok () w
   rw [Instr.checkKey]
   simp only [Sem.run_bind,run_underlying hu,Result.andThen_ok]
   rw [← Array.forIn_toList]
   have key:∀ (L:List Field) (ks:List Nat) (off:Nat),Al7 P off L=some ks→cellsB ks (cs.toList.drop off)=true→
     (forIn L PUnit.unit (fun (f:Field) (_:PUnit)=>(do
      if f.name ≠ "_" then
       Instr.checkKey e 9999 f.type (← part f.type cs f.offset)
       pure (ForInStep.yield PUnit.unit)
      else pure (ForInStep.yield PUnit.unit):Sem (ForInStep PUnit)))).run P w=.ok PUnit.unit w:=by
    intro L
    induction L with
    | nil=>intro ks off _ _; simp
    | cons f L ih=>
     intro ks off hk hc
     simp only [Al7] at hk
     split at hk
     rotate_left
     ·cases hk
     rename_i hno
     simp only [Bool.and_eq_true,bne_iff_ne,ne_eq,beq_iff_eq] at hno
     obtain ⟨hn,ho⟩:=hno
     obtain ⟨k,hp,hk⟩:=Option.bind_eq_some_iff.1 hk
     obtain ⟨ks',hrest,rfl⟩:=Option.map_eq_some_iff.1 hk
     obtain ⟨v,l',e1,hv,hl⟩:=Av0 hc
     have hlt:off < cs.toList.length:=by
      rcases Nat.lt_or_ge off cs.toList.length with h1 | h1
      ·exact h1
      ·rw [List.drop_eq_nil_of_le h1] at e1; cases e1
     rw [List.drop_eq_getElem_cons hlt] at e1
     injection e1 with e1 e2
     have px:(part f.type cs f.offset).run P w=.ok v w:=by
      subst ho
      simp at e1 hlt
      simp [part,A40 hp w,hlt,e1]
     have pc:=Ap2 (w:=w) hp e 9998 hv
     rw [← e2] at hl
     simp only [List.forIn_cons,Sem.run_bind,hn,ne_eq,not_false_eq_true,if_true,Result.andThen_ok,px,pc,Sem.run_pure]
     exact ih ks' (off+1) hrest hl
   have:=key fs.toList ks 0 hf (by simpa using hc)
   rw [this]; rfl
  ·have hfs:P.fieldsOf kt=fs:=by simp [Program.fieldsOf,hu]
   have he:=Bk5 (w:=w) (β:=fun _=>none) (P:=P) (al:=fun _=>True) 9998 fs.toList ks 0 xs.toList ys.toList (xs.toList.map .v) (ys.toList.map .v) r hf (by simpa using hr) (by simp) (by simp)
    (fun j u d hu hd=>by simp only [List.getElem?_map,hu,Option.map_some,Option.some.injEq] at hd; subst hd; exact .imm _ _ (.v u)) (fun j u d hu hd=>by simp only [List.getElem?_map,hu,Option.map_some,Option.some.injEq] at hd; subst hd; exact .imm _ _ (.v u))
   have h3:=run_equalIn_struct (P:=P) w 9999 kt xs ys (by rw [hfs]; exact hu) hst
   rw [hfs] at h3
   exact h3.trans (by simpa using he)
 ·rename_i n el hu
  split at h
  rotate_left
  ·cases h
  rename_i hone
  obtain ⟨k,hp,rfl⟩:=Option.map_eq_some_iff.1 h
  obtain ⟨_,hsz,inf,hi,hi1⟩:=Ai1 hone (default:World)
  have hsz:∀ w,(sizeOf el).run P w=.ok 1 w:=fun w=>(Ai1 hone w).2.1
  have px:∀ (w:World) (cs:Array Value) (off:Nat) (v:Value),cs[off]?=some v→(part el cs off).run P w=.ok v w:=fun w cs off v hv=>by simp [part,A40 hp w,hv]
  refine B27 (by rw [hu]) (fun w e cs hc=>?_) (fun w xs ys r hr=>?_)
  ·show (Instr.checkKey e (9999+1) kt (.agg cs)).run P w=.ok () w
   rw [Instr.checkKey]
   simp only [Sem.run_bind,run_underlying hu,Result.andThen_ok]
   simp only [Std.Legacy.Range.forIn_eq_forIn_range',Std.Legacy.Range.size,Nat.sub_zero,Nat.add_one_sub_one,Nat.div_one]
   have key:∀ (m off:Nat),cellsB (List.replicate m k) (cs.toList.drop off)=true→
     (forIn (List.range' off m) PUnit.unit (fun (i:Nat) (_:PUnit)=>(do
      Instr.checkKey e 9999 el (← part el cs (i*(← sizeOf el)))
      pure (ForInStep.yield PUnit.unit):Sem (ForInStep PUnit)))).run P w=.ok PUnit.unit w:=by
    intro m
    induction m with
    | zero=>intro off _; simp
    | succ m ih=>
     intro off hc
     rw [List.replicate_succ] at hc
     obtain ⟨v,l',e1,hv,hl⟩:=Av0 hc
     have hlt:off < cs.toList.length:=by
      rcases Nat.lt_or_ge off cs.toList.length with h1 | h1
      ·exact h1
      ·rw [List.drop_eq_nil_of_le h1] at e1; cases e1
     rw [List.drop_eq_getElem_cons hlt] at e1
     injection e1 with e1 e2
     have hcv:cs[off]?=some v:=by
      rw [← e1]; simp at hlt; simp [hlt]
     have pc:=Ap2 (w:=w) hp e 9998 hv
     rw [← e2] at hl
     rw [List.range'_succ]
     simp only [List.forIn_cons,Sem.run_bind,hsz,Result.andThen_ok,Nat.mul_one,px w cs off v hcv,pc,Sem.run_pure]
     exact ih (off+1) hl
   have:=key n 0 (by simpa using hc)
   rw [this]; rfl
  ·have hitems:∀ (m off:Nat),eqL (List.replicate m k) ((xs.toList.drop off).map .v) ((ys.toList.drop off).map .v)=some r→(Op.eqItems 9999 el 1 xs ys (List.range' off m)).run P w=.ok r w:=by
    intro m
    induction m with
    | zero=>
     intro off h
     simp only [List.replicate_zero] at h
     unfold eqL at h
     split at h <;> simp_all [Op.eqItems]
    | succ m ih=>
     intro off h
     rw [List.replicate_succ] at h
     have hc:off < xs.toList.length:=by
      rcases Nat.lt_or_ge off xs.toList.length with h1 | h1
      ·exact h1
      ·rw [List.drop_eq_nil_of_le h1] at h; simp [eqL] at h
     have hd:off < ys.toList.length:=by
      rcases Nat.lt_or_ge off ys.toList.length with h1 | h1
      ·exact h1
      ·rw [List.drop_eq_nil_of_le h1] at h; simp [eqL] at h
     rw [List.drop_eq_getElem_cons hc,List.drop_eq_getElem_cons hd] at h
     simp only [List.map_cons,eqL] at h
     have gx:=px w xs off xs.toList[off] (by simp at hc; simp [hc])
     have gy:=px w ys off ys.toList[off] (by simp at hd; simp [hd])
     rw [List.range'_succ]
     cases hq:eqC k (.v xs.toList[off]) (.v ys.toList[off]) with
     | none=>rw [hq] at h; cases h
     | some b=>
      rw [hq] at h
      have pe:=A04 (w:=w) hp hq 9998
      simp only [Op.eqItems,Sem.run_bind,Nat.mul_one,gx,gy,pe,Result.andThen_ok]
      cases b
      ·simp at h; subst h; simp
      ·simpa using ih (off+1) h
   show (Op.equalIn (9999+1) kt (.agg xs) (.agg ys)).run P w=.ok r w
   rw [run_equalIn_array w 9999 xs ys hu hi]
   have hce:P.cellsOf el=1:=by unfold Program.cellsOf; simp [hi,hi1]
   rw [hce,List.range_eq_range']
   exact hitems n 0 (by simpa using hr)
 ·rename_i d hn1 hn2 hu
  cases h
  exact Ck7 hu
 ·cases h
theorem Bl2 {P:Program} {w:World} {al:Nat→Prop} {β:Nat→Option Nat} : ∀ {us:List Value} {cs:List DV} {l:List Value},unvL cs=some l→us.length=cs.length→(∀ (j:Nat) (u:Value) (d:DV),us[j]?=some u→cs[j]?=some d→Rel P w al β u d)→us=l
 | us,[],l,h,hl,_=>by simp [unvL] at h; subst h; simpa using hl
 | [],_ :: _,_,_,hl,_=>by simp at hl
 | u :: us,c :: cs,l,h,hl,hr=>by
  unfold unvL at h
  split at h
  ·rename_i e; cases e
  ·rename_i x l' e; cases e
   split at h
   ·obtain ⟨r,hr',rfl⟩:=Option.map_eq_some_iff.1 h
    have e1:u=x:=rel_v (hr 0 u _ rfl rfl)
    have e2:us=r:=Bl2 hr' (by simpa using hl) fun j u d hu hd=>hr (j+1) u d (by simpa using hu) (by simpa using hd)
    rw [e1,e2]
   ·cases h
  ·cases h
theorem kv_ok {P:Program} {w:World} {al:Nat→Prop} {β:Nat→Option Nat} {x kv:Value} {d:DV} (h:Rel P w al β x d) (hk:kvOf d=some kv):x=kv:=by
 unfold kvOf at hk
 split at hk
 ·cases hk; exact rel_v h
 ·rename_i cs
  obtain ⟨l,hl,rfl⟩:=Option.map_eq_some_iff.1 hk
  obtain ⟨vs,rfl,h1,_,h2⟩:=Au3 h
  rw [Bl2 hl h1 h2]
 ·cases hk
section ops
variable {C:Ctx} {U:Nat→Prop} {s:DS} {β:Nat→Option Nat} {a:Act} {w:World} {o:Oper} {d:DV} {s':DS} {nid:Nat}
theorem HoldsB.mapo {id b ck:Nat} {es:List ME} (hs:HoldsB C U s β a w) (hb:β id=some b) (ho:s.ho id=some (.mapo ck es)) :
  ∃ ms,w.heap[b]?=some (.map ms ck)∧ms.size=es.length∧∀ (j:Nat) (e:MapEntry) (p:ME),ms[j]?=some e→es[j]?=some p→e.key=p.k∧e.born=p.b∧WV C U (s.vw C) β w e.val p.v:=by
 obtain ⟨b',ms,hb',h1,h2,h4⟩:=hs.hh.hp id _ (Ag7 ho)
 rw [hb] at hb'; cases hb'
 exact ⟨ms,h1,h2,h4⟩
theorem Ck8 {t:TypeId} (ho:o.op=.makeMap t none) (hs:HoldsB C U s β a w) (hn:¬ U nid):OpOk C (Un U nid) a w o (.mp nid) (s.upd nid (.lay (.mapo 0 []))):=by
 have hbl:=Ag6 w (.map #[] 0)
 have hf:=(hs.turned (β':=upd β nid (some w.heap.size)) (w':=w.alloc (.map #[] 0)) hn none (fun _ h=>by cases h) (.mapo 0 []) (fun b hb _=>hbl.block b hb) hbl.os hbl.tape hbl.output hbl.size (fun j hj _=>Ae9 β _ hj) (fun _ h=>by cases h)
  (fun b hb=>by rw [upd_same] at hb; cases hb; exact ⟨.inr (Nat.le_refl _),by simp⟩) (fun _=>⟨_,#[],upd_same _ _ _,heap_alloc_new w _,rfl,by simp⟩)).1
 refine ⟨.value (.map (some w.heap.size)),_,_,_,?_,.inl rfl,hf,Au7 (.mp nid _ (by simp)) rfl⟩
 simp [execOp,ho,Instr.makeMap]
theorem Av1 {V:Nat→Option DObj} {ok b:Bool} {x:Value} {v:DV} (h:WV C U V β w x v):WV C U V β w (if ok then .tuple #[x,.bool b] else x) (lkRes ok v b):=by
 unfold lkRes
 cases ok
 ·exact h
 ·refine ⟨fun id hi=>?_,fun ha=>.tup [x,.bool b] _ rfl fun j u d hu hd=>?_,TP.of_wv (C:=C) (U:=U) (V:=V) (β:=β) (w:=w) (us:=[x,.bool b]) rfl fun j u d hu hd=>?_⟩
  ·simp [DV.refs,DV.refsL] at hi; exact h.1 id hi
  ·match j with
   | 0=>simp at hu hd; subst hu hd; exact h.2.1 fun id hi=>ha id (by simp [DV.refs,DV.refsL,hi])
   | 1=>simp at hu hd; subst hu hd; exact .imm _ _ (.v _)
   | j+2=>simp at hu
  ·match j with
   | 0=>simp at hu hd; subst hu hd; exact h
   | 1=>simp at hu hd; subst hu hd; exact WV.v _
   | j+2=>simp at hu
theorem Bw7 {P:Program} {et:TypeId} {z:Value} (hz:(P.info? et).bind (·.zero)=some z) (w:World):(zeroValue et:Sem Value).run P w=.ok z w:=by
 obtain ⟨i,hi,hz'⟩:=Option.bind_eq_some_iff.1 hz
 simp [zeroValue,typeInfo,hi,hz']
theorem Ck9 {t kt et:TypeId} {kd:KD} {x k:Operand} {ok:Bool} {kv z:Value} (ho:o.op=.lookup t x k ok) (ht:C.P.underlying t=some (.map kt et)) (hkd:keyKd C.P kt=some kd)
  (hz:(C.P.info? et).bind (·.zero)=some z) (hs:HoldsB C U s β a w) (hk:kvOf (s.ev k)=some kv) (hkey:Al3 kd kv=true) :
  (s.ev x=.v (.map none)→OpOk C U a w o (lkRes ok (.v z) false) s)∧
  (∀ id ck es r,s.ev x=.mp id→s.ho id=some (.mapo ck es)→findD kd kv es 0=some r→OpOk C U a w o (match r with | some p=>lkRes ok p.2.v true | none=>lkRes ok (.v z) false) s):=by
 have hke:a.eval k=kv:=kv_ok (hs.ev k) hk
 have L:=klaw hkd
 have hzero:=Bw7 hz w
 have hck:∀ e,(Instr.checkKey e 10000 kt kv).run C.P w=.ok () w:=fun e=>L.chk w e kv hkey
 refine ⟨fun hx=>?_,fun id ck es r hx hid hf=>?_⟩
 ·have hxe:a.eval x=.map none:=by have:=hs.ev x; rw [hx] at this; exact rel_v this
  refine .same hs (x:=if ok then .tuple #[z,.bool false] else z) ?_ (Av1 (WV.v z))
  rcases L.find w kv [] [] 0 none rfl (by simp) rfl with ⟨_,h2⟩ | ⟨j,e,p,h1,_⟩
  ·have hfk:=h2 [] rfl rfl
   simp [execOp,ho,Instr.lookup,run_underlying ht,hxe,hke,hck,hfk,hzero,Result.andThen]
  ·cases h1
 ·have h1:=hs.ev x
  rw [hx] at h1
  obtain ⟨b,hxe,hb⟩:=A38 h1
  obtain ⟨ms,hm,hsz,hrel⟩:=hs.mapo hb hid
  have hg:(getObj b).run C.P w=.ok (.map ms ck) w:=MapKept.run_getObj_map hm
  rcases L.find w kv ms.toList es 0 r (by simpa using hsz) (fun j e p he hp=>(hrel j e p (by simpa using he) hp).1) hf with ⟨rfl,h2⟩ | ⟨j,e,v,rfl,h2,h3,h4,_⟩
  ·refine .same hs (x:=if ok then .tuple #[z,.bool false] else z) ?_ (Av1 (WV.v z))
   have hfk:=h2 _ rfl rfl
   simp [execOp,ho,Instr.lookup,run_underlying ht,hxe,hke,hck,hg,hfk,hzero,Result.andThen]
  ·refine .same hs (x:=if ok then .tuple #[e.val,.bool true] else e.val) ?_ (Av1 (hrel j e _ (by simpa using h2) h3).2.2)
   have hfk:=h4 _ rfl rfl
   simp [execOp,ho,Instr.lookup,run_underlying ht,hxe,hke,hck,hg,hfk,Result.andThen]
theorem Cl0 {t kt et:TypeId} {c:Call} {x:Operand} (ho:o.op=.call c) (hc:c.callee=.builtin .len) (hargs:c.args.toList=[x]) (ht:c.argTypes[0]?=some t) (hu:C.P.underlying t=some (.map kt et)) (hs:HoldsB C U s β a w) :
  (s.ev x=.v (.map none)→OpOk C U a w o (.v (.int .i64 0)) s)∧(∀ id ck es,s.ev x=.mp id→s.ho id=some (.mapo ck es)→OpOk C U a w o (.v (.int .i64 es.length)) s):=by
 have hA:c.args = #[x]:=by apply Array.ext'; simpa using hargs
 refine ⟨fun hx=>?_,fun id ck es hx hid=>?_⟩
 ·have hxe:a.eval x=.map none:=by have:=hs.ev x; rw [hx] at this; exact rel_v this
  refine .same hs (x:=.int .i64 0) ?_ (WV.v _)
  simp [execOp,ho,resolve,hc,hA,invoke,builtin,Builtin.len_,ht,hxe,run_underlying hu,goInt]
 ·have h1:=hs.ev x
  rw [hx] at h1
  obtain ⟨b,hxe,hb⟩:=A38 h1
  obtain ⟨ms,hm,hsz,_⟩:=hs.mapo hb hid
  have hg:(getObj b).run C.P w=.ok (.map ms ck) w:=MapKept.run_getObj_map hm
  refine .same hs (x:=.int .i64 es.length) ?_ (WV.v _)
  simp [execOp,ho,resolve,hc,hA,invoke,builtin,Builtin.len_,ht,hxe,run_underlying hu,hg,goInt,hsz,Result.andThen]
theorem Bl3 {id b ck ck':Nat} {ms ms':Array MapEntry} {es es':List ME} {nx:Next} {x:Value} (hs:HoldsB C U s β a w) (hb:β id=some b) (hid:s.ho id=some (.mapo ck es)) (hm:w.heap[b]?=some (.map ms ck))
  (h1:ms'.size=es'.length)
  (h3:∀ (V':Nat→Option DObj) (w':World),(∀ x d,WV C U (s.vw C) β w x d→WV C U V' β w' x d)→∀ (j:Nat) (e:MapEntry) (p:ME),ms'[j]?=some e→es'[j]?=some p→e.key=p.k∧e.born=p.b∧WV C U V' β w' e.val p.v)
  (hrun:(execOp a.eval o).run C.P w=.ok nx { w with heap:=w.heap.setIfInBounds b (.map ms' ck') }) (hnx:nx=.value x∨(nx=.skip∧x=undef)) (hd:WV C U (s.vw C) β w x d):OpOk C U a w o d (s.upd nid (.wr id (.mapo ck' es'))):=by
 have hblt:b < w.heap.size:=(Array.getElem?_eq_some_iff.1 hm).1
 have hw:=hs.wrote nid id b (.mapo ck' es') (w':={ w with heap:=w.heap.setIfInBounds b (.map ms' ck') }) hb (by rw [hid]; rfl) (fun k hk=>by simp [Array.getElem?_setIfInBounds_ne (Ne.symm hk)]) (by simp) rfl rfl rfl
  (fun c T hc=>by rw [hm] at hc; cases hc) (fun hrel'=>⟨b,ms',hb,by simp [hblt],h1,h3 _ _ hrel'⟩)
 exact ⟨nx,_,β,x,hrun,hnx,hw.1,hw.2 _ _ hd⟩
theorem Cl1 {t kt et:TypeId} {kd:KD} {x k y:Operand} {kv:Value} {id ck ck':Nat} {es es':List ME} (ho:o.op=.mapUpdate t x k y∨o.op=.insert t x k y) (ht:C.P.underlying t=some (.map kt et)) (hkd:keyKd C.P kt=some kd)
  (hs:HoldsB C U s β a w) (hk:kvOf (s.ev k)=some kv) (hkey:Al3 kd kv=true) (hx:s.ev x=.mp id) (hid:s.ho id=some (.mapo ck es)) (hp:putD kd kv (s.ev y) ck es=some (ck',es')):OpOk C U a w o .any (s.upd nid (.wr id (.mapo ck' es'))):=by
 have hke:a.eval k=kv:=kv_ok (hs.ev k) hk
 have L:=klaw hkd
 have hck:∀ e,(Instr.checkKey e 10000 kt kv).run C.P w=.ok () w:=fun e=>L.chk w e kv hkey
 have h1:=hs.ev x
 rw [hx] at h1
 obtain ⟨b,hxe,hb⟩:=A38 h1
 obtain ⟨ms,hm,hsz,hrel⟩:=hs.mapo hb hid
 have hg:(getObj b).run C.P w=.ok (.map ms ck) w:=MapKept.run_getObj_map hm
 have hset:∀ o',(setObj b o').run C.P w=.ok () { w with heap:=w.heap.setIfInBounds b o' }:=fun o'=>MapKept.run_setObj_map o' hm
 have hrunU:∀ w',(Instr.mapUpdate t (a.eval x) (a.eval k) (a.eval y)).run C.P w=.ok () w'→(execOp a.eval o).run C.P w=.ok .skip w':=fun w' h=>by
  rcases ho with ho | ho <;> simp [execOp,ho,h]
 unfold putD at hp
 split at hp
 ·rename_i i e hf
  cases hp
  rcases L.find w kv ms.toList es 0 _ (by simpa using hsz) (fun j e p he hp=>(hrel j e p (by simpa using he) hp).1) hf with ⟨h2,_⟩ | ⟨j,e0,v',h2,h3,h4,h5,h6⟩
  ·cases h2
  ·simp only [Nat.zero_add,Option.some.injEq,Prod.mk.injEq] at h2
   obtain ⟨rfl,rfl⟩:=h2
   have hek:e0.key=kv:=L.one _ _ h6
   have hje:ms[i]?=some e0:=by simpa using h3
   have hilt:i < ms.size:=(Array.getElem?_eq_some_iff.1 hje).1
   refine Bl3 (ms':=ms.modify i fun e=>{ e with key:=kv,val:=a.eval y }) (x:=undef) hs hb hid hm (by simpa using hsz) (fun V' w' hmono j e' p he' hp'=>?_) (hrunU _ ?_) (.inr ⟨rfl,rfl⟩) WV.any
   ·rw [Array.getElem?_modify] at he'
    rw [List.getElem?_set] at hp'
    by_cases hij:i=j
    ·subst hij
     rw [if_pos rfl] at he' hp'
     split at hp'
     ·cases hp'
      rw [hje] at he'
      simp only [Option.map_some,Option.some.injEq] at he'
      subst he'
      exact ⟨rfl,(hrel i e0 e hje h4).2.1,hmono _ _ (hs.evw y)⟩
     ·cases hp'
    ·rw [if_neg hij] at he' hp'
     have:=hrel j e' p he' hp'
     exact ⟨this.1,this.2.1,hmono _ _ this.2.2⟩
   ·have hfk:=h5 _ rfl rfl
    simp [Instr.mapUpdate,run_underlying ht,hxe,hke,hck,hg,hfk,hje,hek,Instr.keyThatStays,L.bits kv hkey,hset,Result.andThen]
 ·rename_i hf
  cases hp
  rcases L.find w kv ms.toList es 0 _ (by simpa using hsz) (fun j e p he hp=>(hrel j e p (by simpa using he) hp).1) hf with ⟨_,h2⟩ | ⟨j,e,v',h2,_⟩
  ·refine Bl3 (ms':=ms.push { key:=kv,val:=a.eval y,born:=ck }) (x:=undef) hs hb hid hm (by simp [hsz]) (fun V' w' hmono j e' p he' hp'=>?_) (hrunU _ ?_) (.inr ⟨rfl,rfl⟩) WV.any
   ·rw [Array.getElem?_push] at he'
    by_cases hj:j=ms.size
    ·subst hj
     rw [if_pos rfl] at he'
     cases he'
     rw [hsz] at hp'
     simp at hp'
     subst hp'
     exact ⟨rfl,rfl,hmono _ _ (hs.evw y)⟩
    ·rw [if_neg hj] at he'
     have hjl:j < ms.size:=(Array.getElem?_eq_some_iff.1 he').1
     rw [List.getElem?_append_left (by omega)] at hp'
     have:=hrel j e' p he' hp'
     exact ⟨this.1,this.2.1,hmono _ _ this.2.2⟩
   ·have hfk:=h2 _ rfl rfl
    simp [Instr.mapUpdate,run_underlying ht,hxe,hke,hck,hg,hfk,hset,Result.andThen]
  ·cases h2
 ·cases hp
end ops
end Go.DD

/- Iterators of maps, interface values, slices of arrays, copies. -/
namespace Go.DD
open Go.RowKit (Below)
section ops
variable {C:Ctx} {U:Nat→Prop} {s:DS} {β:Nat→Option Nat} {a:Act} {w:World} {o:Oper} {d:DV} {s':DS} {nid:Nat}
theorem Cc7 {V:Nat→Option DObj} : WV C U V β w (.tuple #[.bool false]) (.tup [.v (.bool false)]):=
 WV.flat (.tup [.bool false] _ rfl fun j u d hu hd=>by
  match j with
  | 0=>simp at hu hd; subst hu hd; exact .imm _ _ (.v _)
  | j+1=>simp at hu) rfl
theorem Cl2 {k:Bool} {x:Operand} {l:List (DV×Upd)} (_:o.op=if k then .entry x else .next x false) (_:HoldsB C U s β a w) (h:nxmL s k x=some l):∃ p∈l,OpOk C U a w o p.1 (s.upd nid p.2):=by cases h
theorem Cl3 {t:TypeId} {x:Operand} {b:ByteArray} (ho:o.op=.range t x) (ht:C.P.underlying t=some .string) (hs:HoldsB C U s β a w) (hn:¬ U nid) (hx:s.ev x=.v (.string b)):OpOk C (Un U nid) a w o (.pt nid 0) (s.upd nid (.lay (.siter b 0))):=by
 have hxe:a.eval x=.string b:=by have:=hs.ev x; rw [hx] at this; exact rel_v this
 have hbl:=Ag6 w (.stringIter b 0)
 have hf:=(hs.turned (β':=upd β nid (some w.heap.size)) (w':=w.alloc (.stringIter b 0)) hn none (fun _ h=>by cases h) (.siter b 0) (fun b hb _=>hbl.block b hb) hbl.os hbl.tape hbl.output hbl.size (fun j hj _=>Ae9 β _ hj) (fun _ h=>by cases h)
  (fun b hb=>by rw [upd_same] at hb; cases hb; exact ⟨.inr (Nat.le_refl _),by simp⟩) (fun hrel=>⟨_,upd_same _ _ _,heap_alloc_new w _⟩)).1
 refine ⟨.value (.pointer (some ⟨w.heap.size,0,none⟩)),_,_,_,?_,.inl rfl,hf,Au7 (.pt nid 0 _ (by simp)) rfl⟩
 simp [execOp,ho,hxe,Instr.range,run_underlying ht]
theorem Bw8 {V:Nat→Option DObj} (x y z:Value):WV C U V β w (.tuple #[x,y,z]) (.tup [.v x,.v y,.v z]):=
 WV.flat (.tup [x,y,z] _ rfl fun j u d hu hd=>by
  match j with
  | 0=>simp at hu hd; subst hu hd; exact .imm _ _ (.v _)
  | 1=>simp at hu hd; subst hu hd; exact .imm _ _ (.v _)
  | 2=>simp at hu hd; subst hu hd; exact .imm _ _ (.v _)
  | j+3=>simp at hu) rfl
theorem B28 {x:Operand} {id pos:Nat} {t:ByteArray} (ho:o.op=.next x true) (hs:HoldsB C U s β a w) (hx:s.ev x=.pt id 0) (hid:s.ho id=some (.siter t pos)) :
  (pos < t.size→OpOk C U a w o (.tup [.v (.bool true),.v (.int .i64 (pos:Nat)),.v (.int .i32 ((Utf8.decode t pos).1:Nat))]) (s.upd nid (.wr id (.siter t (pos+(Utf8.decode t pos).2)))))∧
  (¬ pos < t.size→OpOk C U a w o (.tup [.v (.bool false)]) s):=by
 have h1:=hs.ev x
 rw [hx] at h1
 obtain ⟨b,hxe,hb⟩:=An6 h1
 obtain ⟨b',hb',hit⟩:=hs.hh.hp id _ (Ag7 hid)
 rw [hb] at hb'; cases hb'
 have hgi:(getObj b).run C.P w=.ok (.stringIter t pos) w:=by simp [getObj,Sem.run,hit]
 have hset:∀ o',(setObj b o').run C.P w=.ok () { w with heap:=w.heap.setIfInBounds b o' }:=fun o'=>by simp [setObj,Sem.run,hit]
 have hblt:b < w.heap.size:=(Array.getElem?_eq_some_iff.1 hit).1
 refine ⟨fun hp=>?_,fun hp=>?_⟩
 ·have hw:=hs.wrote nid id b (.siter t (pos+(Utf8.decode t pos).2)) (w':={ w with heap:=w.heap.setIfInBounds b (.stringIter t (pos+(Utf8.decode t pos).2)) }) hb (by rw [hid]; rfl)
   (fun k hk=>by simp [Array.getElem?_setIfInBounds_ne (Ne.symm hk)]) (by simp) rfl rfl rfl (fun c T hc=>by rw [hit] at hc; cases hc)
   (fun hrel'=>⟨b,hb,by simp [hblt]⟩)
  refine ⟨.value (.tuple #[.bool true,.int .i64 (pos:Nat),.int .i32 ((Utf8.decode t pos).1:Nat)]),_,β,_,?_,.inl rfl,hw.1,Bw8 _ _ _⟩
  simp [execOp,ho,hxe,Instr.next,hgi,hp,hset,goInt,Result.andThen]
 ·exact .same hs (x:=.tuple #[.bool false]) (by simp [execOp,ho,hxe,Instr.next,hgi,hp,Result.andThen]) Cc7
end ops
end Go.DD

/- All operations that are no calls, in one. -/
namespace Go.DD
open Go.RowKit (Below)
theorem A05 {C:Ctx} {U:Nat→Prop} {s:DS} {β:Nat→Option Nat} {a:Act} {w:World} {o:Oper} {d:DV} {u:Upd} {nid:Nat} {op:DOp} (hs:HoldsB C U s β a w) (hn:¬ U nid)
  (hc:Aj3 C.P o.op=some op) (he:execU nid s op=some (d,u)):OpOk C (Ux U nid u) a w o d (s.upd nid u):=by
 have hmup:∀ t x k y kd,o.op=.mapUpdate t x k y∨o.op=.insert t x k y→mapKd C.P t=some kd→op=.mup kd x k y→OpOk C (Ux U nid u) a w o d (s.upd nid u):=by
  rintro t x k y kd ho hkd rfl
  unfold mapKd at hkd
  split at hkd
  ·rename_i kt et ht
   simp only [execU] at he
   split at he
   ·rename_i kv hk
    split at he
    ·rename_i hkey
     split at he
     ·rename_i id hx
      split at he
      ·rename_i ck es hid
       split at he
       ·rename_i p hp; cases he; exact Cl1 ho ht hkd hs hk hkey hx hid (ck':=p.1) (es':=p.2) hp
       ·cases he
      ·cases he
     ·cases he
    ·cases he
   ·cases he
  ·cases hkd
 unfold Aj3 at hc
 split at hc
 case h_1 x ho=>cases hc; simp [execU] at he; obtain ⟨rfl,rfl⟩:=he; exact ok_mv (.inl ho) hs
 case h_2 x ho=>cases hc; simp [execU] at he; obtain ⟨rfl,rfl⟩:=he; exact ok_mv (.inr ho) hs
 case h_3 c x y ho=>
  cases hc
  simp only [execU] at he
  split at he
  ·rename_i t ht; cases he; exact Cc3 ho hs ht
  ·cases he
 case h_4 T ho=>
  obtain ⟨z,hz,rfl⟩:=Option.map_eq_some_iff.1 hc
  simp [execU] at he; obtain ⟨rfl,rfl⟩:=he
  exact ok_al ho hz hs hn
 case h_5 T x ho=>
  cases hc
  simp only [execU] at he
  split at he
  ·rename_i hx; cases he; exact ok_bx ho hs hn hx
  ·cases he
 case h_6 t ps ho=>
  split at hc
  ·rename_i fs z ht hz
   split at hc
   ·cases hc
   ·rename_i hpos
    obtain ⟨l,hl,rfl⟩:=Option.map_eq_some_iff.1 hc
    simp only [execU] at he
    split at he
    ·rename_i cs hf
     cases he
     exact Ck2 ho ht hz (by
      have h2:(fs.toList.all fun f=>C.P.cellsOf f.type != 0)=true:=by simpa using hpos
      intro f hf'
      have:=List.all_eq_true.1 h2 f hf'
      simpa using this) hl hs hf
    ·cases he
  ·cases hc
 case h_7 t n ps ho=>
  split at hc
  ·rename_i e ht
   obtain ⟨z,hz,hc⟩:=Option.bind_eq_some_iff.1 hc
   split at hc
   ·rename_i hn'
    cases hc
    simp only [execU] at he
    split at he
    ·rename_i cs hf
     split at he
     ·rename_i hzl
      cases he
      exact Ck3 hn'.1 ho ht hz hn'.2.1 hn'.2.2 hzl hs hn hf
     ·cases he
    ·cases he
   ·cases hc
  ·cases hc
 case h_8 t x ho=>
  obtain ⟨k,hk,rfl⟩:=Option.map_eq_some_iff.1 hc
  simp only [execU] at he
  split at he
  ·rename_i cs hx
   obtain ⟨d',hp,he⟩:=Option.map_eq_some_iff.1 he
   cases he
   exact Bw2 ho hk hs hx hp
  ·rename_i id off hx
   split at he
   ·rename_i T cs hid
    obtain ⟨d',hp,he⟩:=Option.map_eq_some_iff.1 he
    cases he
    exact Bw3 ho hk hs hx hid hp
   ·cases he
  ·cases he
 case h_9 t x y ho=>
  obtain ⟨k,hk,rfl⟩:=Option.map_eq_some_iff.1 hc
  simp only [execU] at he
  split at he
  ·rename_i id off hx
   split at he
   ·rename_i T cs hid
    split at he
    ·rename_i hcond
     cases he
     exact ok_st ho hk rfl hs hx hid hcond.1 hcond.2.1 hcond.2.2
    ·cases he
   ·cases he
  ·cases he
 case h_10 x ho=>
  cases hc
  simp only [execU] at he
  have key:(d,u)=(s.ev x,Upd.keep)∧((∃ cs,s.ev x=.ia cs)∨(∃ id off,s.ev x=.pt id off)∨(∃ f cs,s.ev x=.fn (.func f) cs)∨∃ T d,s.ev x=.ifc T d):=by
   split at he
   ·rename_i cs hx; cases he; exact ⟨by rw [hx],.inl ⟨_,hx⟩⟩
   ·rename_i id off hx; cases he; exact ⟨by rw [hx],.inr (.inl ⟨_,_,hx⟩)⟩
   ·rename_i f cs hx; cases he; exact ⟨by rw [hx],.inr (.inr (.inl ⟨_,_,hx⟩))⟩
   ·rename_i T d hx; cases he; exact ⟨by rw [hx],.inr (.inr (.inr ⟨_,_,hx⟩))⟩
   ·cases he
  obtain ⟨h1,h2⟩:=key
  cases h1
  exact Cj6 ho hs h2
 case h_11 op' t x y yt ho=>
  have hbin:op=.bin op' x y→OpOk C (Ux U nid u) a w o d (s.upd nid u):=by
   rintro rfl
   simp only [execU] at he
   obtain ⟨v,hv,he⟩:=Option.map_eq_some_iff.1 he
   cases he
   exact Cj3 ho hs hv
  have hnil:∀ k neg,(op'=if neg then .neq else .eql)→nilT C.P k t→(k=4→isCst x=true∨isCst y=true)→op=.nilq k neg x y→OpOk C (Ux U nid u) a w o d (s.upd nid u):=by
   rintro k neg hop hnt hcst rfl
   simp only [execU] at he
   split at he
   ·rename_i b hx hy
    cases he
    exact Bk6 hop ho hnt hcst hs hx hy (.inl rfl)
   ·rename_i b hx hy hh
    cases he
    have:=Bk6 (b:=b) (c:=true) hop ho hnt hcst hs hy hh (.inr rfl)
    cases b <;> exact this
   ·cases he
  split at hc
  ·cases hc; exact hbin rfl
  ·cases hc; exact hbin rfl
  ·rename_i ht
   have hbb:∀ neg,(op'=if neg then .neq else .eql)→op=.bb neg x y→OpOk C (Ux U nid u) a w o d (s.upd nid u):=by
    rintro neg hop rfl
    simp only [execU] at he
    split at he
    ·rename_i p q hx hy
     cases he
     exact ok_bb hop ho ht hs hx hy
    ·cases he
   split at hc
   ·cases hc; exact hbb false rfl rfl
   ·cases hc; exact hbb true rfl rfl
   ·cases hc
  ·rename_i fs ht
   split at hc
   ·rename_i hg
    have hst:∀ neg ks,(op'=if neg then .neq else .eql)→Al7 C.P 0 fs.toList=some ks→op=.eqs neg ks x y→OpOk C (Ux U nid u) a w o d (s.upd nid u):=by
     rintro neg ks hop hk rfl
     simp only [execU] at he
     split at he
     ·rename_i xs ys hx hy
      obtain ⟨r,hr,he⟩:=Option.map_eq_some_iff.1 he
      cases he
      exact Cj4 hop ho ht hg.1 hg.2 hk hs hx hy hr
     ·cases he
    split at hc
    ·obtain ⟨ks,hk,rfl⟩:=Option.map_eq_some_iff.1 hc; exact hst false ks rfl hk rfl
    ·obtain ⟨ks,hk,rfl⟩:=Option.map_eq_some_iff.1 hc; exact hst true ks rfl hk rfl
    ·cases hc
   ·cases hc
  ·rename_i e ht
   split at hc
   ·cases hc; exact hnil 0 false rfl ⟨e,ht⟩ (fun h=>by cases h) rfl
   ·cases hc; exact hnil 0 true rfl ⟨e,ht⟩ (fun h=>by cases h) rfl
   ·cases hc
  ·rename_i e ht
   split at hc
   ·cases hc; exact hnil 1 false rfl ⟨e,ht⟩ (fun h=>by cases h) rfl
   ·cases hc; exact hnil 1 true rfl ⟨e,ht⟩ (fun h=>by cases h) rfl
   ·cases hc
  ·rename_i e f ht
   split at hc
   ·cases hc; exact hnil 2 false rfl ⟨e,f,ht⟩ (fun h=>by cases h) rfl
   ·cases hc; exact hnil 2 true rfl ⟨e,f,ht⟩ (fun h=>by cases h) rfl
   ·cases hc
  ·rename_i e f g ht
   split at hc
   ·cases hc; exact hnil 3 false rfl ⟨e,f,g,ht⟩ (fun h=>by cases h) rfl
   ·cases hc; exact hnil 3 true rfl ⟨e,f,g,ht⟩ (fun h=>by cases h) rfl
   ·cases hc
  ·rename_i e ht
   split at hc
   ·rename_i hcst
    have hcst':isCst x=true∨isCst y=true:=by simpa using hcst
    split at hc
    ·cases hc; exact hnil 4 false rfl ⟨e,ht⟩ (fun _=>hcst') rfl
    ·cases hc; exact hnil 4 true rfl ⟨e,ht⟩ (fun _=>hcst') rfl
    ·cases hc
   ·cases hc
  ·cases hc
 case h_12 op' t x ho=>
  cases hc
  simp only [execU] at he
  obtain ⟨v,hv,he⟩:=Option.map_eq_some_iff.1 he
  cases he
  exact ok_un ho hs hv
 case h_13 src dst x ho=>
  split at hc
  ·rename_i k' k h1 h2
   cases hc
   simp only [execU] at he
   split at he
   ·rename_i kk n hx; cases he; exact Cj5 ho h1 h2 hs hx
   ·cases he
  ·rename_i e h1 h2
   split at hc
   ·rename_i h3
    cases hc
    simp only [execU] at he
    split at he
    ·rename_i b hx; cases he; exact Cj7 ho h1 h2 h3 hs hx
    ·cases he
   ·cases hc
  ·cases hc
 case h_14 f first cap ho=>
  cases hc
  simp only [execU,Option.some.injEq,Prod.mk.injEq] at he; obtain ⟨rfl,rfl⟩:=he
  exact B26 ho hs
 case h_15 t l c ho=>
  split at hc
  ·rename_i e ht
   split at hc
   rotate_left
   ·cases hc
   rename_i hna
   obtain ⟨z,hz,rfl⟩:=Option.map_eq_some_iff.1 hc
   simp only [execU] at he
   split at he
   ·rename_i l' c' hl hc'
    split at he
    ·rename_i h
     cases he
     exact Ck4 hna ho ht hz h.2.2.2.2.1 (by have:=h.2.2.2.2.2; omega) h.2.2.2.1 hs hn hl hc' h.1 h.2.1 h.2.2.1
    ·cases he
   ·cases he
  ·cases hc
 case h_16 t x lo hi mx ho=>
  split at hc
  ·rename_i e ht
   split at hc
   ·rename_i hinfo
    cases hc
    simp only [execU] at he
    split at he
    ·rename_i cs n hx
     split at he
     ·rename_i l h hlo hhi
      split at he
      ·rename_i hb
       cases he
       exact (Bk7 ho ht hinfo hs).1 cs n hx hlo hhi hb.1 hb.2.1 hb.2.2
      ·cases he
     ·cases he
    ·rename_i id off n es' hx
     split at he
     ·rename_i l h hlo hhi
      split at he
      ·rename_i hb
       obtain ⟨rfl,hb⟩:=hb
       cases he
       exact (Bk7 ho ht hinfo hs).2.1 id off n hx hlo hhi hb.1 hb.2.1 hb.2.2
      ·cases he
     ·cases he
    ·rename_i hx
     split at he
     ·rename_i l h hlo hhi
      split at he
      ·rename_i hb
       cases he
       exact (Bk7 ho ht hinfo hs).2.2 hx hlo hhi hb.1 hb.2
      ·cases he
     ·cases he
    ·cases he
   ·cases hc
  ·cases hc
 case h_17 t x f ho=>
  split at hc
  ·rename_i fs ht
   obtain ⟨fd,hf,hc⟩:=Option.bind_eq_some_iff.1 hc
   split at hc
   ·cases hc
   ·rename_i hz
    cases hc
    simp only [execU] at he
    split at he
    ·rename_i cs hx; cases he; exact (ok_fa ho ht hf hz hs).1 cs hx
    ·rename_i id off hx; cases he; exact (ok_fa ho ht hf hz hs).2 id off hx
    ·cases he
  ·cases hc
 case h_18=>cases hc
 case h_19 t x i ho=>
  split at hc
  ·rename_i e ht
   split at hc
   ·cases hc
   ·rename_i hz
    cases hc
    simp only [execU] at he
    split at he
    ·rename_i j cs n hi hx
     split at he
     ·rename_i hj; cases he; exact (ok_ia ho ht hz hs hi hj.1).1 cs n hx hj.2
     ·cases he
    ·rename_i j id off n es' hi hx
     split at he
     ·rename_i hj; cases he; exact (ok_ia ho ht hz hs hi hj.1).2 id off n es' hx hj.2
     ·cases he
    ·cases he
  ·rename_i n e ht
   split at hc
   ·cases hc
   ·rename_i hz
    cases hc
    simp only [execU] at he
    split at he
    ·rename_i j id off hi hx
     split at he
     ·rename_i hj; cases he; exact (ok_fx ho ht hz hs hi hj.1 hj.2).2 id off hx
     ·cases he
    ·rename_i j cs hi hx
     split at he
     ·rename_i hj; cases he; exact (ok_fx ho ht hz hs hi hj.1 hj.2).1 cs hx
     ·cases he
    ·cases he
  ·cases hc
 case h_20 t x i ho=>
  split at hc
  ·rename_i ht
   cases hc
   simp only [execU] at he
   split at he
   ·rename_i j b hi hx
    split at he
    ·rename_i h0
     obtain ⟨c,hcc,he⟩:=Option.map_eq_some_iff.1 he
     cases he
     exact Cj8 ho ht hs hi h0 hx hcc
    ·cases he
   ·cases he
  ·cases hc
 case h_21 x i ho=>
  cases hc
  simp only [execU] at he
  split at he
  ·rename_i v hv
   cases he
   obtain ⟨ds,hx,hd⟩:=Bk4 hv
   exact Cc5 ho hs hx hd
  ·split at he
   ·rename_i ds hx
    obtain ⟨d',hd,he⟩:=Option.map_eq_some_iff.1 he
    cases he
    exact Cj9 ho hs hx hd
   ·cases he
 case h_22 c ho=>
  split at hc
  ·cases hc; simp [execU] at he
  ·cases hc; simp [execU] at he
  ·rename_i hcal
   split at hc
   ·rename_i x t hargs ht
    split at hc
    ·rename_i e hu
     cases hc
     have h1:=(B25 ho hcal hargs ht hs).1 ⟨e,hu⟩
     simp only [execU] at he
     split at he
     ·rename_i cs n hx; cases he; exact h1.1 cs n hx
     ·rename_i id off n es' hx; cases he; exact h1.2.1 id off n es' hx
     ·rename_i n c' hx; cases he; exact h1.2.2 n c' hx
     ·cases he
    ·rename_i hu
     cases hc
     simp only [execU] at he
     split at he
     ·rename_i b hx; cases he; exact (B25 ho hcal hargs ht hs).2 hu b hx
     ·cases he
    ·rename_i kt et hu
     cases hc
     have h1:=Cl0 ho hcal hargs ht hu hs
     simp only [execU] at he
     split at he
     ·rename_i hx; cases he; exact h1.1 hx
     ·rename_i id hx
      split at he
      ·rename_i ck es hid; cases he; exact h1.2 id ck es hx hid
      ·cases he
     ·cases he
    ·cases hc
   ·cases hc
  ·rename_i hcal
   split at hc
   ·rename_i x y t t' hargs hty
    split at hc
    ·rename_i htt
     subst htt
     split at hc
     ·rename_i e ht
      obtain ⟨z,hz,hc⟩:=Option.bind_eq_some_iff.1 hc
      split at hc
      ·rename_i hzl
       cases hc
       simp only [execU] at he
       split at he
       ·rename_i old cs n news m hd hsr
        split at he
        ·rename_i h
         cases he
         exact Ck6 hzl.1 ho hcal hargs hty ht hz hzl.2 rfl rfl hs hn hd hsr h.1 h.2.1 h.2.2.1 h.2.2.2
        ·cases he
       ·cases he
      ·cases hc
     ·cases hc
    ·cases hc
   ·cases hc
  ·rename_i hcal
   split at hc
   ·rename_i x y hargs
    cases hc
    simp only [execU] at he
    split at he
    ·rename_i k p k' q hx hy; cases he; exact ok_mm (mx:=false) ho hcal hargs hs hx hy
    ·cases he
   ·cases hc
  ·rename_i hcal
   split at hc
   ·rename_i x y hargs
    cases hc
    simp only [execU] at he
    split at he
    ·rename_i k p k' q hx hy; cases he; exact ok_mm (mx:=true) ho hcal hargs hs hx hy
    ·cases he
   ·cases hc
  ·cases hc
 case h_23 t r ho=>
  split at hc
  ·cases hc
   simp [execU] at he
   obtain ⟨rfl,rfl⟩:=he
   exact Ck8 ho hs hn
  ·cases hc
 case h_24 t x k ok ho=>
  split at hc
  ·rename_i kt et ht
   split at hc
   ·rename_i kd z hkd hz
    cases hc
    simp only [execU] at he
    split at he
    ·rename_i kv hk
     split at he
     ·rename_i hkey
      have h1:=Ck9 ho ht hkd hz hs hk hkey
      split at he
      ·rename_i hx; cases he; exact h1.1 hx
      ·rename_i id hx
       split at he
       ·rename_i ck es hid
        split at he
        ·rename_i p hf; cases he; exact h1.2 id ck es _ hx hid hf
        ·rename_i hf; cases he; exact h1.2 id ck es _ hx hid hf
        ·cases he
       ·cases he
      ·cases he
     ·cases he
    ·cases he
   ·cases hc
  ·cases hc
 case h_25=>cases hc
 case h_26=>cases hc
 case h_27 t x ho=>
  split at hc
  ·rename_i ht
   cases hc
   simp only [execU] at he
   split at he
   ·rename_i b hx; cases he; exact Cl3 ho ht hs hn hx
   ·cases he
  ·cases hc
 case h_28 x isS ho=>
  split at hc
  ·cases hc
  ·rename_i hS
   have hS':isS=true:=by simpa using hS
   subst hS'
   cases hc
   simp only [execU] at he
   split at he
   ·rename_i id hx
    split at he
    ·rename_i t pos hid
     split at he
     ·rename_i hp; cases he; exact (B28 (nid:=nid) ho hs hx hid).1 hp
     ·rename_i hp; cases he; exact (B28 (nid:=nid) ho hs hx hid).2 hp
    ·cases he
   ·cases he
 case h_29=>cases hc
 case h_30=>cases hc
 case h_31=>cases hc
 case h_32 t x k y ho=>
  obtain ⟨kd,hkd,rfl⟩:=Option.map_eq_some_iff.1 hc
  exact hmup t x k y kd (.inl ho) hkd rfl
 case h_33 t x k y ho=>
  obtain ⟨kd,hkd,rfl⟩:=Option.map_eq_some_iff.1 hc
  exact hmup t x k y kd (.inr ho) hkd rfl
 case h_34=>cases hc
end Go.DD

/- What a function's body starts from, and what holds at its end. -/
namespace Go.DD
open Go.RowKit (Below)
def liftQ (C:Ctx) (Q:Exit→DS→Prop):Exit→Act→World→Prop:=fun e a w=>∃ s,Q e s∧Holds C s a w
def Ctx.F (C:Ctx):Fence:={ Fence.wide with round:=C.rd }
theorem A06 {C:Ctx} {f:FuncId} {args:Array Value} {w:World} {R:Ending→World→Prop} (h:Calls C.P f args w R):CallsIn C.F 0 C.P f args w R:=by
 have h1:CallsIn Fence.wide 0 C.P f args w R:=callsIn_wide.2 h
 cases hr:C.rd with
 | none=>
  have:C.F=Fence.wide:=by unfold Ctx.F; rw [hr]; rfl
  rw [this]; exact h1
 | some l=>
  have:C.F=Fence.wide.inRound l:=by unfold Ctx.F; rw [hr]; rfl
  rw [this]; exact CallsIn.inRound l h1
def DW (C:Ctx) (c:DC) (Q:Exit→DS→Prop) (s:DS):Prop:=
 ∀ code,compC C.P C.nt code=some c→∀ a w,Holds C s a w→code.wpIn C.F 0 C.P (liftQ C Q) a w
structure DF where
 code:DC
 res:List (Nat×Option (Option Nat))
 nt:Nat
 deriving Inhabited
def Aq6 (P:Program):ResultVar→Option (Nat×Option (Option Nat))
 | .tmp t=>some (t,none)
 | .cell a T=>(tkind P T).map fun k=>(a,some k)
def Ay4 (P:Program) (fn:Func):Option DF:=
 match fn.body with
 | some b=>match compC P fn.ntmps b,fn.results.toList.mapM (Aq6 P) with
  | some c,some r=>some { code:=c,res:=r,nt:=fn.ntmps }
  | _,_=>none
 | none=>none
def resD (s:DS):Nat×Option (Option Nat)→Option DV
 | (t,none)=>some (s.ev (.tmp t))
 | (t,some k)=>match s.ev (.tmp t) with
  | .pt id off=>match s.ho id with
   | some (.row _ cs)=>partD k (cs.drop off)
   | _=>none
  | _=>none
def resV (s:DS) (rs:List (Nat×Option (Option Nat))):Option DV:=
 match rs.mapM (resD s) with
 | some [d]=>some d
 | some ds=>some (.tup ds)
 | none=>none
def argF (ds:List DV) (t:Nat):DV:=(ds[t]?).getD .any
theorem B29 {C:Ctx} {U:Nat→Prop} {V:Nat→Option DObj} {β:Nat→Option Nat} {w:World} {us:List Value} {cs:List DV} (hl:us.length=cs.length)
  (hr:∀ (j:Nat) (u:Value) (d:DV),us[j]?=some u→cs[j]?=some d→WV C U V β w u d):WV C U V β w (.tuple us.toArray) (.tup cs):=by
 refine ⟨fun id hi=>?_,fun ha=>.tup us cs hl fun j u d hu hd=>(hr j u d hu hd).2.1 fun id hi=>ha id (by rw [DV.refs]; exact DV.refsL_mem (List.mem_of_getElem? hd) hi),TP.of_wv hl hr⟩
 rw [DV.refs] at hi
 obtain ⟨d,hd,hi⟩:=DV.mem_refsL hi
 obtain ⟨j,hj,rfl⟩:=List.mem_iff_getElem.1 hd
 exact (hr j us[j] _ (List.getElem?_eq_getElem (by omega)) (List.getElem?_eq_getElem hj)).1 id hi
section
variable {C:Ctx} {U:Nat→Prop} {s:DS} {β:Nat→Option Nat} {a:Act} {w:World}
theorem Bh9 (hs:HoldsB C U s β a w) {rv:ResultVar} {q:Nat×Option (Option Nat)} {d:DV} (hq:Aq6 C.P rv=some q) (hd:resD s q=some d) :
  ∃ x,(match rv with
   | .tmp t=>(pure (a.tmps.getD t undef):Sem Value)
   | .cell p t=>do loadVar t (← asAddr (a.tmps.getD p undef))).run C.P w=.ok x w∧WV C U (s.vw C) β w x d:=by
 cases rv with
 | tmp t=>
  simp [Aq6] at hq
  subst hq
  simp only [resD,Option.some.injEq] at hd
  subst hd
  exact ⟨_,rfl,hs.evw (.tmp t)⟩
 | cell p T=>
  obtain ⟨k,hk,rfl⟩:=Option.map_eq_some_iff.1 hq
  simp only [resD] at hd
  split at hd
  ·rename_i id off hp
   split at hd
   ·rename_i T' cs hrow
    have h1:Rel C.P w (alw C w β) β (a.tmps.getD p undef) (s.ev (.tmp p)):=hs.ev (.tmp p)
    rw [hp] at h1
    obtain ⟨b,e1,hb⟩:=An6 h1
    obtain ⟨c,hw,hl,_,hr⟩:=hs.row hb hrow
    obtain ⟨g1,g2⟩:=Ah2 hk ⟨b,off,none⟩ (c.toList.drop off) (Ao8 hw)
    obtain ⟨p1,p2⟩:=A02 (C:=C) (U:=U) (V:=s.vw C) (w:=w) (β:=β) (us:=c.toList.drop off) (cs:=cs.drop off) (by simp; omega)
     (fun j u hu hj=>by
      have hj':off+j < cs.length:=by simp at hj; omega
      exact (hr (off+j) u _ (by simpa using hu) (List.getElem?_eq_getElem hj')).2)
     (fun j u d hu hd=>(hr (off+j) u d (by simpa using hu) (by simpa using hd)).1) hd
    cases k with
    | none=>
     obtain ⟨u,hu,hrel⟩:=p1 rfl
     exact ⟨u,by simp only [Sem.run_bind,e1,asAddr,Sem.run_pure,Result.andThen_ok]; exact g1 rfl u hu,hrel⟩
    | some n=>
     obtain ⟨hn,hrel⟩:=p2 n rfl
     exact ⟨_,by simp only [Sem.run_bind,e1,asAddr,Sem.run_pure,Result.andThen_ok]; exact g2 n rfl hn,hrel⟩
   ·cases hd
  ·cases hd
theorem Ba7 (hs:HoldsB C U s β a w):∀ (rvs:List ResultVar) (qs:List (Nat×Option (Option Nat))) (ds:List DV),rvs.mapM (Aq6 C.P)=some qs→qs.mapM (resD s)=some ds→
  ∃ vs:List Value,(rvs.mapM fun (rv:ResultVar)=>(match rv with
   | .tmp t=>(pure (a.tmps.getD t undef):Sem Value)
   | .cell p t=>do loadVar t (← asAddr (a.tmps.getD p undef)))).run C.P w=.ok vs w∧vs.length=ds.length∧∀ (j:Nat) (v:Value) (d:DV),vs[j]?=some v→ds[j]?=some d→WV C U (s.vw C) β w v d
 | [],qs,ds,h1,h2=>by
  simp at h1; subst h1; simp at h2; subst h2
  exact ⟨[],by simp,rfl,by simp⟩
 | rv :: rvs,qs,ds,h1,h2=>by
  simp only [List.mapM_cons,Option.bind_eq_bind,Option.bind_eq_some_iff,Option.pure_def] at h1
  obtain ⟨q,hq,qt,hqt,h1⟩:=h1
  cases h1
  simp only [List.mapM_cons,Option.bind_eq_bind,Option.bind_eq_some_iff,Option.pure_def] at h2
  obtain ⟨d,hd,dt,hdt,h2⟩:=h2
  cases h2
  obtain ⟨x,hx,hrel⟩:=Bh9 hs hq hd
  obtain ⟨vs,hvs,hl,hr⟩:=Ba7 hs rvs qt dt hqt hdt
  refine ⟨x :: vs,?_,by simp [hl],fun j v e hv he=>?_⟩
  ·simp only [List.mapM_cons,Sem.run_bind,hx,Result.andThen_ok,hvs,Sem.run_pure]
  ·cases j with
   | zero=>simp at hv he; subst hv he; exact hrel
   | succ j=>exact hr j v e (by simpa using hv) (by simpa using he)
theorem A75 (hs:HoldsB C U s β a w) {fn:Func} {qs:List (Nat×Option (Option Nat))} {d:DV} (hq:fn.results.toList.mapM (Aq6 C.P)=some qs) (hd:resV s qs=some d) :
  ∃ x,(results fn a.tmps).run C.P w=.ok x w∧WV C U (s.vw C) β w x d:=by
 unfold resV at hd
 cases hm:qs.mapM (resD s) with
 | none=>rw [hm] at hd; cases hd
 | some ds=>
  rw [hm] at hd
  obtain ⟨vs,hvs,hl,hr⟩:=Ba7 hs fn.results.toList qs ds hq hm
  have hrun:(results fn a.tmps).run C.P w=.ok (if h:vs.toArray.size=1 then vs.toArray[0] else .tuple vs.toArray) w:=by
   unfold results
   rw [Array.mapM_eq_mapM_toList]
   simp only [Sem.run_bind,Sem.run_map]
   erw [hvs]
   simp only [Result.andThen_ok,Sem.run_pure]
  refine ⟨_,hrun,?_⟩
  clear hm hvs hrun
  match ds,hl,hd,hr with
  | [e],hl,hd,hr=>
   simp at hd
   subst hd
   match vs,hl with
   | [v],_=>exact hr 0 v e rfl rfl
  | [],hl,hd,hr=>
   simp at hd; subst hd
   rw [dif_neg (by simp at hl; simp [hl])]
   exact B29 hl hr
  | e :: e' :: es,hl,hd,hr=>
   simp at hd; subst hd
   rw [dif_neg (by simp; simp at hl; omega)]
   exact B29 hl hr
theorem HoldsB.shut {tmps:Array Value} {d:Deferred} {l:List Deferred} {D:Nat} (hs:HoldsB C U s β ⟨tmps,d :: l⟩ w) (hd:d = { target:=.collected D,args:=#[] })
  (hD:w.heap[D]?=some (.deferred (some []))) (h0:C.w0.heap.size≤D) (hn:∀ id,β id≠some D):HoldsB C U s β ⟨tmps,l⟩ (w.putObj D (.deferred none)):=by
 have hDlt:D < w.heap.size:=(Array.getElem?_eq_some_iff.1 hD).1
 have hoth:∀ b,b≠D→(w.putObj D (.deferred none)).heap[b]?=w.heap[b]?:=fun b hb=>World.putObj_heap_other hb
 have hcell:∀ (b:Nat),(∃ c T r,w.heap[b]?=some (Obj.cells c T r))→(w.putObj D (.deferred none)).heap[b]?=w.heap[b]?:=fun b ⟨c,T,r,hc⟩=>hoth b (fun e=>by rw [e,hD] at hc; cases hc)
 have hown:∀ id b,β id=some b→(w.putObj D (.deferred none)).heap[b]?=w.heap[b]?:=fun id b hb=>hoth b (fun e=>hn id (e ▸ hb))
 have hrel:∀ x d,WV C U (s.vw C) β w x d→WV C U (s.vw C) β (w.putObj D (.deferred none)) x d:=fun x d ⟨g1,g2,g3⟩=>
  ⟨g1,fun ha=>(g2 ha).mono (fun b ⟨h1,h2,h3⟩=>⟨⟨h1,by simpa using h2,h3⟩,hcell b⟩) fun id _ b hb=>⟨hb,SameShape.of_eq (hown id b hb)⟩,g3⟩
 have hbel:=hs.hh.bel
 have hnd:d∉l.filter A35∧(l.filter A35).Nodup:=by
  have:=hs.df.nodup
  rw [List.filter_cons_of_pos (by rw [hd]; rfl)] at this
  exact List.nodup_cons.1 this
 refine ⟨⟨hs.hh.ok,⟨hbel.os,hbel.tape,hbel.output,by simpa using hbel.size,fun k hk1 hk2=>(hoth k (by omega)).trans (hbel.block k hk1 hk2)⟩,fun id b hb=>⟨(hs.hh.bge id b hb).1,by simpa using hs.hh.lt hb⟩,hs.hh.inj,hs.hh.fr,fun id o ho=>?_⟩,
  ⟨hnd.2,fun d' hd'=>?_,fun D' hD'=>?_,fun D' hD'=>hs.df.apart D' (by simp [hD'])⟩,hs.sz,fun t=>hrel _ _ (hs.sl t),fun x d hx=>hrel _ _ (hs.gh x d hx),hs.yd⟩
 ·exact (hs.hh.hp id o ho).keep rfl (hown id) hrel
 ·rcases hs.df.own d' (by simp [hd']) with ⟨D',e,h1,h2,h3⟩ | hq
  ·refine .inl ⟨D',e,(hoth D' fun he=>?_).trans h1,h2,h3⟩
   subst he
   exact hnd.1 (List.mem_filter.2 ⟨by rw [hd,← e]; exact hd',by rw [hd]; rfl⟩)
  ·exact .inr hq
 ·obtain ⟨D2,e,h1,h2,h3⟩:=hs.df.out D' hD'
  refine ⟨D2,e,(hoth D2 fun he=>?_).trans h1,h2,h3⟩
  subst he
  simp only [Deferred.mk.injEq,Target.collected.injEq,and_true] at e
  subst e
  exact hs.df.apart D' (by rw [hd]; simp) hD'
theorem A07 {fn:Func} {qs:List (Nat×Option (Option Nat))} {d:DV} {R:Ending→World→Prop} (hq:fn.results.toList.mapM (Aq6 C.P)=some qs) (hd:resV s qs=some d) (tmps:Array Value)
  (hR:∀ v w',HoldsB C U s β ⟨tmps,[]⟩ w'→WV C U (s.vw C) β w' v d→R (.returned v) w'):∀ (l:List Deferred) (w:World),HoldsB C U s β ⟨tmps,l⟩ w→LeavesInM Fence.wide 0 C.P fn tmps R l .returning w
 | [],w,hs=>by
  obtain ⟨x,hx,hr⟩:=A75 hs hq hd
  exact ⟨x,hx,hR x w hs hr⟩
 | d' :: l,w,hs=>by
  rcases hs.df.own d' (by simp) with ⟨D,e,h1,h2,h3⟩ | ⟨g,caps,hqf,rfl⟩
  ·exact ⟨by simp,.inl ⟨D,_,by rw [e],run_takeDeferred h1,A07 hq hd tmps hR l _ (hs.shut e h1 h2 h3)⟩⟩
  ·obtain ⟨k1,k2⟩:=Bv9 hqf caps w
   refine ⟨by simp,.inr ⟨fun h=>by simp [Fence.wide] at h,.func g,caps,g,caps,rfl,k1,fun _ _=>trivial,k2.mono ?_⟩⟩
   rintro e u' w' ⟨rfl,⟨v,rfl⟩,rfl⟩
   exact A07 hq hd tmps hR l _ ⟨hs.hh,hs.df.tail rfl,hs.sz,hs.sl,hs.gh,hs.yd⟩
theorem A41 {ho:Nat→Option DObj} {nx:Nat} {args:List DV} {vs:List Value}
  (hh:HH C U (vwF C.Y ho) β w) (hX:∀ x d,C.X x d∨GLV x d→WV C U (vwF C.Y ho) β w x d) (hy:∀ id o,C.Y id=some o→ho id=none) (hM:∀ D,C.M D→Mark C β w { target:=.collected D,args:=#[] }) (hn:args.length≤C.nt) (hl:vs.length=args.length)
  (hrel:∀ (j:Nat) (v:Value) (d:DV),vs[j]?=some v→args[j]?=some d→WV C U (vwF C.Y ho) β w v d) :
  HoldsB C U ⟨argF args,ho,nx⟩ β { tmps:=vs.toArray ++ Array.replicate (C.nt - vs.toArray.size) undef,defers:=[] } w:=by
 refine ⟨hh,⟨List.nodup_nil,(fun d hd=>by cases hd),hM,(fun D hd=>by cases hd)⟩,by simp; omega,fun t=>?_,hX,hy⟩
 simp only [argF]
 cases hd:args[t]? with
 | none=>exact WV.any
 | some d=>
  have htl:t < vs.length:=by have:=(List.getElem?_eq_some_iff.1 hd).1; omega
  have hv:(vs.toArray ++ Array.replicate (C.nt - vs.toArray.size) undef).getD t undef=vs[t]:=by
   simp [Array.getElem?_append,htl]
  rw [hv]
  simp only [Option.getD_some]
  exact hrel t vs[t] d (List.getElem?_eq_getElem htl) hd
end
end Go.DD

/- Calls: where they stand, in the caller's own memory; or by contract, on immutable arguments. -/
namespace Go.DD
open Go.RowKit (Below)
theorem Av2 {cs:List DV} (h:DV.refsL cs=[]) {d:DV} (hd:d∈cs):d.refs=[]:=by
 cases hr:d.refs with
 | nil=>rfl
 | cons i l=>have:=DV.refsL_mem hd (id:=i) (by rw [hr]; simp); rw [h] at this; cases this
theorem A08 {P:Program} {w:World} {al:Nat→Prop} {β:Nat→Option Nat} {x:Value} {d:DV} (h:Rel P w al β x d) (hd:d.refs=[]):RelI w al x d:=by
 induction h with
 | imm x d h=>exact h
 | agg vs cs hl ho _ ih=>exact .agg vs cs hl ho fun j u d hu he=>ih j u d hu he (Av2 (by simpa [DV.refs] using hd) (List.mem_of_getElem? he))
 | tup vs cs hl _ ih=>exact .tup vs cs hl fun j u d hu he=>ih j u d hu he (Av2 (by simpa [DV.refs] using hd) (List.mem_of_getElem? he))
 | fn f us vs cs hl _ ih=>exact .fn f us vs cs hl fun j u d hu he=>ih j u d hu he (Av2 (by simpa [DV.refs] using hd) (List.mem_of_getElem? he))
 | ifc T u d _ ih=>exact .ifc T u d (ih (by simpa [DV.refs] using hd))
 | ms0 id es=>simp [DV.refs] at hd
 | ms id off n es b cap c T hβ hw hn hm hcap=>simp [DV.refs] at hd
 | pt id off b hβ=>simp [DV.refs] at hd
 | mp id b hβ=>simp [DV.refs] at hd
 | yl id b hβ=>simp [DV.refs] at hd
inductive Plain:DV→Prop
 | any:Plain .any
 | v (x:Value):Plain (.v x)
 | agg (cs:List DV) (h:∀ d∈cs,Plain d):Plain (.agg cs)
 | tup (cs:List DV) (h:∀ d∈cs,Plain d):Plain (.tup cs)
theorem Bi0 {w w':World} {al al':Nat→Prop} {x:Value} {d:DV} (h:RelI w al x d) (hp:Plain d):RelI w' al' x d:=by
 induction h with
 | any x=>exact .any x
 | v x=>exact .v x
 | agg vs cs hl ho _ ih=>cases hp with | agg _ hp=>exact .agg vs cs hl ho fun j u d hu hd=>ih j u d hu hd (hp d (List.mem_of_getElem? hd))
 | tup vs cs hl _ ih=>cases hp with | tup _ hp=>exact .tup vs cs hl fun j u d hu hd=>ih j u d hu hd (hp d (List.mem_of_getElem? hd))
 | sl0 a cap=>cases hp
 | sl ad n cap us cs hl hn ha ho hc _ ih=>cases hp
 | ia ad us cs hl ha ho hc _ ih=>cases hp
 | fn f us vs cs hl _ ih=>cases hp
 | ifc T u d _ ih=>cases hp
def DV.flat:DV→Bool
 | .any=>true
 | .v _=>true
 | .sl _ _=>true
 | .ia _=>true
 | _=>false
theorem Ap3 {d:DV} (h:d.flat=true):d.refs=[]:=by
 cases d <;> first | rfl | (simp [DV.flat] at h)
def rzL (f:DV→Option DV) (cs:List DV):Option (List DV):=if cs.all DV.flat then some cs else cs.mapM f
def rz (ho:Nat→Option DObj):Nat→DV→Option DV
 | 0,d=>if d.flat then some d else none
 | k+1,d=>match d with
  | .agg cs=>(rzL (rz ho k) cs).map .agg
  | .tup cs=>(rzL (rz ho k) cs).map .tup
  | .fn f cs=>(rzL (rz ho k) cs).map (.fn f)
  | .ifc T d=>(rz ho k d).map (.ifc T)
  | .ms id off n es=>match ho id with
   | some (.row _ cs)=>if off+n*es≤cs.length then (rzL (rz ho k) ((cs.drop off).take (n*es))).map fun l=>.sl l n else none
   | _=>none
  | .pt id off=>match ho id with
   | some (.row _ cs)=>(rzL (rz ho k) (cs.drop off)).map .ia
   | _=>none
  | .mp _=>none
  | .yl _=>none
  | d=>some d
theorem As4 {f:DV→Option DV} {cs l:List DV} (h:rzL f cs=some l):l.length=cs.length∧∀ (j:Nat) (c d:DV),cs[j]?=some c→l[j]?=some d→(c.flat=true∧d=c)∨f c=some d:=by
 unfold rzL at h
 split at h
 ·rename_i hall
  cases h
  refine ⟨rfl,fun j c d hc hd=>.inl ?_⟩
  rw [hc] at hd
  cases hd
  exact ⟨List.all_eq_true.1 hall c (List.mem_of_getElem? hc),rfl⟩
 ·obtain ⟨h1,h2⟩:=mapM_some h
  exact ⟨h1,fun j c d hc hd=>.inr (h2 j c d hc hd)⟩
theorem Bw9 {ho:Nat→Option DObj} : ∀ (k:Nat) (d d':DV),rz ho k d=some d'→∀ id∈d.refs,(ho id).isSome=true:=by
 intro k
 induction k with
 | zero=>
  intro d d' h id hi
  simp only [rz] at h
  split at h
  ·rename_i hf; rw [Ap3 hf] at hi; cases hi
  ·cases h
 | succ k ih=>
  intro d d' h id hi
  have hlist:∀ cs l,rzL (rz ho k) cs=some l→∀ id∈DV.refsL cs,(ho id).isSome=true:=by
   intro cs l hz id hi
   obtain ⟨c,hc,hi⟩:=DV.mem_refsL hi
   obtain ⟨j,hj,rfl⟩:=List.mem_iff_getElem.1 hc
   obtain ⟨h1,h2⟩:=As4 hz
   rcases h2 j cs[j] (l[j]'(by omega)) (List.getElem?_eq_getElem hj) (List.getElem?_eq_getElem (by omega)) with ⟨hf,_⟩ | hr
   ·rw [Ap3 hf] at hi; cases hi
   ·exact ih _ _ hr id hi
  cases d with
  | agg cs=>obtain ⟨l,hz,_⟩:=Option.map_eq_some_iff.1 h; exact hlist cs l hz id (by simpa [DV.refs] using hi)
  | tup cs=>obtain ⟨l,hz,_⟩:=Option.map_eq_some_iff.1 h; exact hlist cs l hz id (by simpa [DV.refs] using hi)
  | fn f cs=>obtain ⟨l,hz,_⟩:=Option.map_eq_some_iff.1 h; exact hlist cs l hz id (by simpa [DV.refs] using hi)
  | ifc T d=>obtain ⟨e,hz,_⟩:=Option.map_eq_some_iff.1 h; exact ih _ _ hz id (by simpa [DV.refs] using hi)
  | ms id' off n es=>
   simp only [rz] at h
   obtain rfl:id=id':=by simpa [DV.refs] using hi
   split at h
   ·rename_i hrow; rw [hrow]; rfl
   ·cases h
  | pt id' off=>
   simp only [rz] at h
   obtain rfl:id=id':=by simpa [DV.refs] using hi
   split at h
   ·rename_i hrow; rw [hrow]; rfl
   ·cases h
  | mp id=>simp [rz] at h
  | yl id=>simp [rz] at h
  | any=>simp [DV.refs] at hi
  | v x=>simp [DV.refs] at hi
  | sl cs n=>simp [DV.refs] at hi
  | ia cs=>simp [DV.refs] at hi
def frz (C:Ctx) (w:World) (b:Nat):Prop:=(C.S b∨C.w0.heap.size≤b∨C.G b)∧b < w.heap.size
section
variable {C:Ctx} {U:Nat→Prop} {V ho:Nat→Option DObj} {β:Nat→Option Nat} {w:World}
theorem B30 (hh:HH C U V β w) (hV:∀ id o,ho id=some o→V id=some o) (A I:Nat→Prop) (hA:∀ b,alw C w β b→A b) (hI:∀ id b,I id→(ho id).isSome=true→β id=some b→A b)
  (hcl:∀ id T cs,I id→ho id=some (.row T cs)→∀ j∈DV.refsL cs,I j):∀ (k:Nat) (x:Value) (d d':DV),(∀ id∈d.refs,I id)→WV C U V β w x d→rz ho k d=some d'→RelI w A x d':=by
 have hflat:∀ (x:Value) (d:DV),d.flat=true→WV C U V β w x d→RelI w A x d:=fun x d hf hr=>
  (A08 (hr.2.1 fun id hi=>by rw [Ap3 hf] at hi; cases hi) (Ap3 hf)).mono fun b hb=>⟨hA b hb,rfl⟩
 intro k
 induction k with
 | zero=>
  intro x d d' _ hr h
  simp only [rz] at h
  split at h
  ·cases h; exact hflat x d (by assumption) hr
  ·cases h
 | succ k ih=>
  have hall:∀ (x:Value) (c d:DV),(∀ id∈c.refs,I id)→WV C U V β w x c→((c.flat=true∧d=c)∨rz ho k c=some d)→RelI w A x d:=by
   intro x c d hc hr h
   rcases h with ⟨h1,rfl⟩ | h
   ·exact hflat x d h1 hr
   ·exact ih x c d hc hr h
  intro x d d' hid hw h
  have hal:=Bw9 _ _ _ h
  have hr:Rel C.P w (alw C w β) β x d:=hw.2.1 fun id hi=>by
   obtain ⟨o,ho'⟩:=Option.isSome_iff_exists.1 (hal id hi)
   rw [hV id o ho']; rfl
  have hpart:∀ {u:Value} {e:DV},Rel C.P w (alw C w β) β u e→(∀ id∈e.refs,id∈d.refs)→WV C U V β w u e:=fun hr he=>
   hh.wv hr fun id hi=>by
    obtain ⟨o,ho'⟩:=Option.isSome_iff_exists.1 (hal id (he id hi))
    rw [hV id o ho']; rfl
  have hlist:∀ (us:List Value) (cs l:List DV),(∀ c∈cs,∀ id∈c.refs,I id)→us.length=cs.length→(∀ (j:Nat) (u:Value) (d:DV),us[j]?=some u→cs[j]?=some d→WV C U V β w u d)→rzL (rz ho k) cs=some l→
    us.length=l.length∧∀ (j:Nat) (u:Value) (d:DV),us[j]?=some u→l[j]?=some d→RelI w A u d:=by
   intro us cs l hci hl hrel hz
   obtain ⟨h1,h2⟩:=As4 hz
   refine ⟨by omega,fun j u d hu hd=>?_⟩
   have hj:j < cs.length:=by have:=(List.getElem?_eq_some_iff.1 hd).1; omega
   exact hall u cs[j] d (hci _ (List.getElem_mem hj)) (hrel j u _ hu (List.getElem?_eq_getElem hj)) (h2 j _ d (List.getElem?_eq_getElem hj) hd)
  cases d with
  | agg cs=>
   simp only [rz] at h
   obtain ⟨l,hz,rfl⟩:=Option.map_eq_some_iff.1 h
   obtain ⟨vs,rfl,hl,h1,h2⟩:=Au3 hr
   obtain ⟨h3,h4⟩:=hlist vs cs l (fun c hc id hi=>hid id (by simp only [DV.refs]; exact DV.refsL_mem hc hi)) hl (fun j u d hu hd=>hpart (h2 j u d hu hd) fun id hi=>by simp only [DV.refs]; exact DV.refsL_mem (List.mem_of_getElem? hd) hi) hz
   exact .agg vs l h3 h1 h4
  | tup cs=>
   simp only [rz] at h
   obtain ⟨l,hz,rfl⟩:=Option.map_eq_some_iff.1 h
   obtain ⟨vs,rfl,hl,h2⟩:=A72 hr
   obtain ⟨h3,h4⟩:=hlist vs cs l (fun c hc id hi=>hid id (by simp only [DV.refs]; exact DV.refsL_mem hc hi)) hl (fun j u d hu hd=>hpart (h2 j u d hu hd) fun id hi=>by simp only [DV.refs]; exact DV.refsL_mem (List.mem_of_getElem? hd) hi) hz
   exact .tup vs l h3 h4
  | fn f cs=>
   simp only [rz] at h
   obtain ⟨l,hz,rfl⟩:=Option.map_eq_some_iff.1 h
   obtain ⟨us,vs,rfl,hl,h2⟩:=A37 hr
   obtain ⟨h3,h4⟩:=hlist (Value.tuple us.toArray :: vs) cs l (fun c hc id hi=>hid id (by simp only [DV.refs]; exact DV.refsL_mem hc hi)) hl (fun j u d hu hd=>hpart (h2 j u d hu hd) fun id hi=>by simp only [DV.refs]; exact DV.refsL_mem (List.mem_of_getElem? hd) hi) hz
   exact .fn f us vs l h3 h4
  | ifc T d=>
   simp only [rz] at h
   obtain ⟨e,hz,rfl⟩:=Option.map_eq_some_iff.1 h
   obtain ⟨u,rfl,h2⟩:=Aq4 hr
   exact .ifc T u e (ih u d e (fun id hi=>hid id (by simpa [DV.refs] using hi)) (hpart h2 fun id hi=>by simpa [DV.refs] using hi) hz)
  | ms id off n es=>
   simp only [rz] at h
   split at h
   ·rename_i T cs hrow
    split at h
    ·rename_i hfit
     obtain ⟨l,hz,rfl⟩:=Option.map_eq_some_iff.1 h
     rcases Ar5 hr with ⟨rfl,rfl,rfl⟩ | ⟨b,cap,c,T',rfl,hb,hw,hn,hm,hcap⟩
     ·have:l=[]:=by
       have:=(As4 hz).1
       simpa using this
      subst this
      exact .sl0 _ _
     ·rcases hh.hp id _ (hV _ _ hrow) with ⟨h1,_⟩ | ⟨b',c',hb',hc',hl,_,hrel⟩
      ·rw [hb] at h1; cases h1
      ·rw [hb] at hb'; cases hb'
       rw [hw] at hc'
       injection hc' with hc'
       injection hc' with hcc _
       subst hcc
       have hI1:=hid id (by simp [DV.refs])
       obtain ⟨h3,h4⟩:=hlist ((c.toList.drop off).take (n*es)) _ l (fun e he i hi=>hcl id _ _ hI1 hrow i (DV.refsL_mem (List.mem_of_mem_drop (List.mem_of_mem_take he)) hi)) (by simp; omega) (fun j u d hu hd=>by
        rw [List.getElem?_take] at hu hd
        split at hu
        ·rename_i hj
         rw [if_pos hj] at hd
         exact (hrel (off+j) u d (by simpa using hu) (by simpa using hd)).1
        ·cases hu) hz
       refine .sl _ n cap ((c.toList.drop off).take (n*es)) l h3 hn (hI id b hI1 (by rw [hrow]; rfl) hb) (fun u hu=>?_) (fun j u hu=>?_) h4
       ·obtain ⟨j,hj,rfl⟩:=List.mem_iff_getElem.1 hu
        have hjl:off+j < cs.length:=by simp at hj; omega
        refine (hrel (off+j) _ cs[off+j] ?_ (List.getElem?_eq_getElem hjl)).2
        rw [List.getElem_take,List.getElem_drop]
        simp
       ·rw [List.getElem?_take] at hu
        split at hu
        ·exact Ao8 hw j u hu
        ·cases hu
    ·cases h
   ·cases h
  | pt id off=>
   simp only [rz] at h
   split at h
   ·rename_i T cs hrow
    obtain ⟨l,hz,rfl⟩:=Option.map_eq_some_iff.1 h
    obtain ⟨b,rfl,hb⟩:=An6 hr
    rcases hh.hp id _ (hV _ _ hrow) with ⟨h1,_⟩ | ⟨b',c,hb',hw,hl,_,hrel⟩
    ·rw [hb] at h1; cases h1
    ·rw [hb] at hb'; cases hb'
     have hI1:=hid id (by simp [DV.refs])
     obtain ⟨h3,h4⟩:=hlist ((c.toList.drop off).take (cs.length - off)) (cs.drop off) l (fun e he i hi=>hcl id _ _ hI1 hrow i (DV.refsL_mem (List.mem_of_mem_drop he) hi)) (by simp; omega) (fun j u d hu hd=>by
      rw [List.getElem?_take] at hu
      split at hu
      ·exact (hrel (off+j) u d (by simpa using hu) (by simpa using hd)).1
      ·cases hu) hz
     refine .ia _ ((c.toList.drop off).take (cs.length - off)) l h3 (hI id b hI1 (by rw [hrow]; rfl) hb) (fun u hu=>?_) (fun j u hu=>?_) h4
     ·obtain ⟨j,hj,rfl⟩:=List.mem_iff_getElem.1 hu
      have hjl:off+j < cs.length:=by simp at hj; omega
      refine (hrel (off+j) _ cs[off+j] ?_ (List.getElem?_eq_getElem hjl)).2
      rw [List.getElem_take,List.getElem_drop]
      simp
     ·rw [List.getElem?_take] at hu
      split at hu
      ·exact Ao8 hw j u hu
      ·cases hu
   ·cases h
  | mp id=>simp [rz] at h
  | yl id=>simp [rz] at h
  | any=>simp [rz] at h; subst h; exact .any x
  | v y=>simp [rz] at h; subst h; exact hflat _ _ rfl hw
  | sl cs n=>simp [rz] at h; subst h; exact hflat _ _ rfl hw
  | ia cs=>simp [rz] at h; subst h; exact hflat _ _ rfl hw
theorem rz_ok (hh:HH C U V β w) (hV:∀ id o,ho id=some o→V id=some o) (k:Nat) (x:Value) (d d':DV) (hr:WV C U V β w x d) (h:rz ho k d=some d'):RelI w (frz C w) x d':=
 B30 hh hV (frz C w) (fun _=>True) (fun _ hb=>⟨hb.1,hb.2.1⟩) (fun id b _ _ hb=>⟨.inr (hh.bge id b hb).1,(hh.bge id b hb).2⟩) (fun _ _ _ _ _ _ _=>trivial) k x d d' (fun _ _=>trivial) hr h
end
def DCall (P:Program) (f:FuncId) (args:List DV) (R:DV→Prop):Prop:=
 ∀ (w:World) (S:Nat→Prop) (vs:List Value),(∀ b,S b→b < w.heap.size)→vs.length=args.length→(∀ (j:Nat) (v:Value) (d:DV),vs[j]?=some v→args[j]?=some d→RelI w S v d)→(∀ x d,GLV x d→RelI w S x d)→
  Calls P f vs.toArray w fun e w'=>∃ v r,e=.returned v∧R r∧Below w.heap.size w w'∧RelI w' (fun b=>(S b∨w.heap.size≤b)∧b < w'.heap.size) v r
theorem DCall.mono {P:Program} {f:FuncId} {args:List DV} {R R':DV→Prop} (h:DCall P f args R) (hr:∀ d,R d→R' d):DCall P f args R':=
 fun w S vs h1 h2 h3 hg=>(h w S vs h1 h2 h3 hg).mono fun _ _ ⟨v,r,h4,h5,h6⟩=>⟨v,r,h4,hr r h5,h6⟩
def callI (P:Program) (f:FuncId) (ds:List DV) (s:DS) (K:DS→DV→Prop):Prop:=
 ∃ fn df,P.funcs[f]?=some fn∧Ay4 P fn=some df∧ds.length≤df.nt∧∀ (S G:Nat→Prop) (w0:World) (X:Value→DV→Prop) (M:Nat→Prop) (Y:Nat→Option DObj) (R:Nat→Prop),
  DW ⟨P,S,G,w0,df.nt,X,M,none,Y,R⟩ df.code (fun e s'=>(e=.normal∨e=.ret)∧∃ d,resV s' df.res=some d∧K ⟨s.sv,s'.ho,s'.nx⟩ d) ⟨argF ds,s.ho,s.nx⟩
def Ctx.inner (C:Ctx) (U:Nat→Prop) (V:Nat→Option DObj) (β:Nat→Option Nat) (l:List Deferred) (w:World) (nt:Nat) (rd:Option Nat) (hid:Nat→Option DObj) (R:Nat→Prop):Ctx:=
 ⟨C.P,C.S,C.G,C.w0,nt,fun x d=>WV C U V β w x d,fun D=>C.M D∨({ target:=.collected D,args:=#[] } : Deferred)∈l,rd,vwF C.Y hid,R⟩
theorem HH.ctx {C C':Ctx} {U:Nat→Prop} {V:Nat→Option DObj} {β:Nat→Option Nat} {w:World} (hP:C'.P=C.P) (hS:C'.S=C.S) (hG:C'.G=C.G) (h0:C'.w0=C.w0) (h:HH C U V β w) :
  HH C' U V β w∧∀ x d,WV C' U V β w x d↔WV C U V β w x d:=by
 obtain ⟨P,S,G,w0,nt,X,M,rd,Y,R⟩:=C
 obtain ⟨P',S',G',w0',nt',X',M',rd',Y',R'⟩:=C'
 simp only at hP hS hG h0
 subst hP hS hG h0
 have hw:∀ x d,WV ⟨P',S',G',w0',nt',X',M',rd',Y',R'⟩ U V β w x d↔WV ⟨P',S',G',w0',nt,X,M,rd,Y,R⟩ U V β w x d:=fun x d=>Iff.rfl
 refine ⟨⟨h.ok,⟨h.bel.os,h.bel.tape,h.bel.output,h.bel.size,h.bel.block⟩,h.bge,h.inj,h.fr,fun id o ho=>?_⟩,hw⟩
 have h1:=h.hp id o ho
 cases o <;> exact h1
theorem Bl4 (Y hid ho:Nat→Option DObj):vwF (vwF Y hid) ho=vwF Y (vwF hid ho):=by
 funext id
 unfold vwF
 cases ho id <;> rfl
section
variable {C:Ctx} {U:Nat→Prop} {s:DS} {β:Nat→Option Nat} {a:Act} {w:World}
theorem Ba8 {f:FuncId} {ds:List DV} {vs:List Value} {vis hid:Nat→Option DObj} {R:Nat→Prop} {K:DS→DV→Prop} (hs:HoldsB C U s β a w) (hU:∀ id,U id↔id < s.nx∧¬ R id) (hR:∀ id,R id→id < s.nx)
  (hsplit:s.ho=vwF hid vis) (hdis:∀ id o,hid id=some o→vis id=none) (hl:vs.length=ds.length)
  (hr:∀ (j:Nat) (v:Value) (d:DV),vs[j]?=some v→ds[j]?=some d→WV C U (s.vw C) β w v d) (hk:callI C.P f ds ⟨s.sv,vis,s.nx⟩ K) :
  Calls C.P f vs.toArray w fun e w'=>∃ v d ho' nx' β',e=.returned v∧K ⟨s.sv,ho',nx'⟩ d∧(∀ id o,hid id=some o→ho' id=none)∧(∀ id,R id→id < nx')∧
   HoldsB C (fun id=>id < nx'∧¬ R id) ⟨s.sv,vwF hid ho',nx'⟩ β' a w'∧WV C (fun id=>id < nx'∧¬ R id) ((⟨s.sv,vwF hid ho',nx'⟩:DS).vw C) β' w' v d:=by
 obtain ⟨fn,df,hf,hc,hn,h⟩:=hk
 have hUe:U=fun id=>id < s.nx∧¬ R id:=funext fun id=>propext (hU id)
 unfold Ay4 at hc
 split at hc
 rotate_left
 ·cases hc
 rename_i body hb
 split at hc
 rotate_left
 ·cases hc
 rename_i c r hcc hcr
 cases hc
 refine callsIn_wide.1 (callsIn_of_wp_marks (n:=0) hf hb trivial ?_)
 obtain ⟨C',hC'⟩:∃ C',C'=C.inner U (s.vw C) β a.defers w fn.ntmps none hid R:=⟨_,rfl⟩
 have hP:C'.P=C.P:=by rw [hC']; rfl
 have hview:∀ ho',vwF C'.Y ho'=vwF C.Y (vwF hid ho'):=fun ho'=>by rw [hC']; exact Bl4 _ _ _
 have hv0:vwF C'.Y vis=s.vw C:=by rw [hview,← hsplit]; rfl
 obtain ⟨hh1,hw1⟩:=HH.ctx (C':=C') (by rw [hC']; rfl) (by rw [hC']; rfl) (by rw [hC']; rfl) (by rw [hC']; rfl) hs.hh
 have hYs:∀ id o,C'.Y id=some o→vis id=none:=fun id o hy=>by
  rw [hC'] at hy
  simp only [Ctx.inner,vwF] at hy
  split at hy
  ·rename_i o' ho'; exact hdis id o' ho'
  ·have h1:=hs.yd id o hy
   rw [hsplit] at h1
   simp only [vwF] at h1
   split at h1
   ·cases h1
   ·assumption
 have hMk:∀ D,C'.M D→Mark C β w { target:=.collected D,args:=#[] }:=fun D hD=>by
  rw [hC'] at hD
  exact hD.elim (hs.df.out D) hs.df.ownC
 have hent:HoldsB C' (Us C' s.nx) ⟨argF ds,vis,s.nx⟩ β { tmps:=vs.toArray ++ Array.replicate (C'.nt - vs.toArray.size) undef,defers:=[] } w:=by
  have e1:Us C' s.nx=U:=by rw [hUe,hC']; rfl
  rw [e1]
  refine A41 (nx:=s.nx) (ho:=vis) (by rw [hv0]; exact hh1) (fun x d hx=>?_) hYs (fun D hD=>?_) (by rw [hC']; exact hn) hl (fun j v d hv hd=>by rw [hv0]; exact (hw1 _ _).2 (hr j v d hv hd))
  ·rw [hv0]
   rw [hC'] at hx
   rcases hx with hx | hx
   ·exact (hw1 _ _).2 hx
   ·exact (hw1 _ _).2 (hs.gh x d (.inr hx))
  ·obtain ⟨D',g1,g2,g3,g4⟩:=hMk D hD
   exact ⟨D',g1,g2,by rw [hC']; exact g3,g4⟩
 have hC2:C'=⟨C.P,C.S,C.G,C.w0,fn.ntmps,C'.X,C'.M,none,C'.Y,R⟩:=by rw [hC']; rfl
 have hrun:=h C.S C.G C.w0 C'.X C'.M C'.Y R
 rw [← hC2] at hrun
 have hnt:C'.nt=fn.ntmps:=by rw [hC']; rfl
 have hbody:=hrun body (by rw [hP,hnt]; exact hcc) _ w ⟨by rw [hC']; exact hR,β,hent⟩
 have hF:C'.F=Fence.wide:=by rw [hC']; rfl
 rw [hF,hP] at hbody
 rw [hnt] at hbody
 refine wpIn_mono hbody ?_
 have hfin:∀ (s':DS) (a':Act) (w':World),Holds C' s' a' w'→(∃ d,resV s' r=some d∧K ⟨s.sv,s'.ho,s'.nx⟩ d)→
   LeavesInM Fence.wide 0 C.P fn a'.tmps (fun e w'=>∃ v d ho' nx' β',e=.returned v∧K ⟨s.sv,ho',nx'⟩ d∧(∀ id o,hid id=some o→ho' id=none)∧(∀ id,R id→id < nx')∧
    HoldsB C (fun id=>id < nx'∧¬ R id) ⟨s.sv,vwF hid ho',nx'⟩ β' a w'∧WV C (fun id=>id < nx'∧¬ R id) ((⟨s.sv,vwF hid ho',nx'⟩:DS).vw C) β' w' v d) a'.defers .returning w':=by
  rintro s' ⟨tmps,l⟩ w' ⟨hR',β',hs'⟩ ⟨d,hd,hK⟩
  have:=A07 (C:=C') (R:=fun e w'=>∃ v d ho' nx' β',e=.returned v∧K ⟨s.sv,ho',nx'⟩ d∧(∀ id o,hid id=some o→ho' id=none)∧(∀ id,R id→id < nx')∧
    HoldsB C (fun id=>id < nx'∧¬ R id) ⟨s.sv,vwF hid ho',nx'⟩ β' a w'∧WV C (fun id=>id < nx'∧¬ R id) ((⟨s.sv,vwF hid ho',nx'⟩:DS).vw C) β' w' v d) (by rw [hP]; exact hcr) hd tmps (fun v w'' hs'' hrel=>by
   have eU:Us C' s'.nx=fun id=>id < s'.nx∧¬ R id:=by rw [hC']; rfl
   have eV:s'.vw C'=(⟨s.sv,vwF hid s'.ho,s'.nx⟩:DS).vw C:=hview s'.ho
   obtain ⟨hh2,hw2⟩:=HH.ctx (C:=C') (C':=C) (by rw [hC']; rfl) (by rw [hC']; rfl) (by rw [hC']; rfl) (by rw [hC']; rfl) hs''.hh
   rw [eU,eV] at hh2
   have hw3:∀ x d,WV C' (Us C' s'.nx) (s'.vw C') β' w'' x d→WV C (fun id=>id < s'.nx∧¬ R id) ((⟨s.sv,vwF hid s'.ho,s'.nx⟩:DS).vw C) β' w'' x d:=fun x d hx=>by
    have:=(hw2 x d).2 hx
    rwa [eU,eV] at this
   refine ⟨v,d,s'.ho,s'.nx,β',rfl,hK,fun id o ho'=>hs''.yd id o (by rw [hC']; simp only [Ctx.inner,vwF,ho']),fun id hid=>hR' id (by rw [hC']; exact hid),⟨hh2,⟨hs.df.nodup,fun d hd=>?_,fun D hD=>?_,hs.df.apart⟩,hs.sz,fun t=>?_,fun x d hx=>?_,fun id o hy=>?_⟩,hw3 _ _ hrel⟩
   ·rcases hs.df.own d hd with ⟨D,e,_⟩ | hq
    ·subst e
     obtain ⟨D',g1,g2,g3,g4⟩:=hs''.df.out D (by rw [hC']; exact .inr hd)
     exact .inl ⟨D',g1,g2,by rw [hC'] at g3; exact g3,g4⟩
    ·exact .inr hq
   ·obtain ⟨D',g1,g2,g3,g4⟩:=hs''.df.out D (by rw [hC']; exact .inl hD)
    exact ⟨D',g1,g2,by rw [hC'] at g3; exact g3,g4⟩
   ·exact hw3 _ _ (hs''.gh _ _ (.inl (by rw [hC']; exact hs.sl t)))
   ·exact hw3 _ _ (hs''.gh _ _ (.inl (by rw [hC']; exact hs.gh x d hx)))
   ·have h1:=hs.yd id o hy
    rw [hsplit] at h1
    have hhid:hid id=none:=by
     simp only [vwF] at h1
     split at h1
     ·cases h1
     ·exact h1
    have h2:=hs''.yd id o (by rw [hC']; simp only [Ctx.inner,vwF,hhid]; exact hy)
    simp only [vwF,h2,hhid]) l w' hs'
  rw [hP] at this
  exact this
 rintro e a' w' ⟨s',⟨h1,h2⟩,hs'⟩
 rcases h1 with rfl | rfl
 ·exact hfin s' a' w' hs' h2
 ·exact hfin s' a' w' hs' h2
theorem Ba9 (ho:Nat→Option DObj):vwF (fun _=>none) ho=ho:=by
 funext id; unfold vwF; cases ho id <;> rfl
theorem Bb0 {f:FuncId} {ds:List DV} {vs:List Value} {K:DS→DV→Prop} (hs:HoldsB C (Us C s.nx) s β a w) (hR:∀ id,C.R id→id < s.nx) (hl:vs.length=ds.length)
  (hr:∀ (j:Nat) (v:Value) (d:DV),vs[j]?=some v→ds[j]?=some d→WV C (Us C s.nx) (s.vw C) β w v d) (hk:callI C.P f ds s K) :
  Calls C.P f vs.toArray w fun e w'=>∃ v d s' β',e=.returned v∧K s' d∧(∀ id,C.R id→id < s'.nx)∧HoldsB C (Us C s'.nx) s' β' a w'∧WV C (Us C s'.nx) (s'.vw C) β' w' v d:=by
 refine (Ba8 (vis:=s.ho) (hid:=fun _=>none) (R:=C.R) hs (fun _=>Iff.rfl) hR (Ba9 _).symm (fun _ _ h=>by cases h) hl hr hk).mono ?_
 rintro e w' ⟨v,d,ho',nx',β',h1,h2,_,h3,h4,h5⟩
 rw [Ba9] at h4 h5
 exact ⟨v,d,⟨s.sv,ho',nx'⟩,β',h1,h2,h3,h4,h5⟩
def DS.drops (s:DS) (ids:List Nat):DS:={ s with ho:=fun id=>if ids.contains id then none else s.ho id }
def B31 (s:DS) (ids:List Nat) (ds:List DV):Bool:=
 (ids.all fun id=>match s.ho id with | some (.row _ cs)=>(DV.refsL cs).all ids.contains | _=>true) && (DV.refsL ds).all ids.contains
def callK (P:Program) (f:FuncId) (ds:List DV) (s:DS) (K:DS→DV→Prop):Prop:=
 (∃ R,(∀ x∈ds,x.refs=[])∧DCall P f ds R∧∀ d,R d→K s d)∨
 (∃ ds' R,ds.mapM (rz s.ho 5)=some ds'∧DCall P f ds' R∧∀ d,R d→Plain d∧K s d)∨
 (∃ ids ds' R,B31 s ids ds=true∧ds.mapM (rz s.ho 5)=some ds'∧DCall P f ds' R∧∀ d,R d→K (s.drops ids) d)∨
 callI P f ds s K
theorem Bx0 {V:Nat→Option DObj} {w':World} (hh:HH C U V β w) {x:Value} {d:DV} {S:Nat→Prop} (hS:∀ b,S b→alw C w β b) (h:RelI w' (fun b=>(S b∨w.heap.size≤b)∧b < w'.heap.size) x d):RelI w' (alw C w' β) x d:=by
 refine h.mono fun b hb=>⟨?_,rfl⟩
 rcases hb.1 with h1 | h1
 ·obtain ⟨h2,h3,h4⟩:=hS b h1
  exact ⟨h2,hb.2,h4⟩
 ·refine ⟨.inr (.inl (Nat.le_trans hh.bel.size h1)),hb.2,fun id hid=>?_⟩
  have:=hh.lt hid
  omega
theorem B32 (hs:HoldsB C U s β a w) (x:Value) (d:DV) (h:GLV x d):RelI w (alw C w β) x d:=by
 have h1:=hs.gh x d (.inr h)
 obtain ⟨g,cs,hg,rfl,rfl⟩:=h
 exact A08 (h1.2.1 fun id hi=>(by simp [DV.refs] at hi)) (by simp [DV.refs])
theorem A76 {f:FuncId} {ds:List DV} {vs:List Value} {R:DV→Prop} (hs:HoldsB C U s β a w) (hl:vs.length=ds.length)
  (hr:∀ (j:Nat) (v:Value) (d:DV),vs[j]?=some v→ds[j]?=some d→RelI w (alw C w β) v d) (hc:DCall C.P f ds R) :
  Calls C.P f vs.toArray w fun e w'=>∃ v d,e=.returned v∧R d∧HoldsB C U s β a w'∧WV C U (s.vw C) β w' v d:=by
 refine (hc w (alw C w β) vs (fun b hb=>hb.2.1) hl hr (B32 hs)).mono ?_
 rintro e w' ⟨v,r,rfl,hR,hb,hrel⟩
 exact ⟨v,r,rfl,hR,hs.keep hb,Ao7 (Bx0 hs.hh (fun b hb=>hb) hrel)⟩
theorem HoldsB.drops (hs:HoldsB C U s β a w) (ids:List Nat) :
  ∃ β',HoldsB C U (s.drops ids) β' a w∧(∀ b,alw C w β b→alw C w β' b)∧∀ id∈ids,(s.ho id).isSome=true→∀ b,β id=some b→alw C w β' b:=by
 let β':Nat→Option Nat:=fun id=>if id∈ids∧(s.ho id).isSome=true then none else β id
 have hsome:∀ j b,β' j=some b→β j=some b∧¬ (j∈ids∧(s.ho j).isSome=true):=fun j b hb=>by
  by_cases hj:j∈ids∧(s.ho j).isSome=true
  ·simp only [β',if_pos hj] at hb; cases hb
  ·simp only [β',if_neg hj] at hb; exact ⟨hb,hj⟩
 refine ⟨β',?_,fun b ⟨h1,h2,h3⟩=>⟨h1,h2,fun j hj=>h3 j (hsome j b hj).1⟩,fun id hi ha b hb=>⟨.inr (hs.hh.bge id b hb).1,hs.hh.lt hb,fun j hj=>?_⟩⟩
 ·have hl:=hs.hh.less (U':=U) (β':=β') (V':=(s.drops ids).vw C) (fun _ h=>h) (fun id=>?_) (fun id=>?_)
  ·exact hs.carry rfl (fun id o hy=>by simp only [DS.drops]; rw [hs.yd id o hy]; simp) hl
  ·by_cases hi:id∈ids∧(s.ho id).isSome=true
   ·refine .inr ⟨by simp [β',hi],?_⟩
    have:=hs.apart hi.2
    simp [DS.vw,vwF,DS.drops,hi.1,this]
   ·exact .inl (by simp [β',hi])
  ·by_cases hi:id∈ids
   ·cases ho:s.ho id with
    | none=>exact .inl (by simp [DS.vw,vwF,DS.drops,ho])
    | some o=>
     have:=hs.apart (i:=id) (by rw [ho]; rfl)
     exact .inr (by simp [DS.vw,vwF,DS.drops,hi,this])
   ·exact .inl (by simp [DS.vw,vwF,DS.drops,hi])
 ·obtain ⟨h1,h2⟩:=hsome j b hj
  have:=hs.hh.inj j id b h1 hb
  subst this
  exact h2 ⟨hi,ha⟩
theorem Cc8 {f:FuncId} {ds:List DV} {vs:List Value} {K:DS→DV→Prop} (hs:HoldsB C (Us C s.nx) s β a w) (hR:∀ id,C.R id→id < s.nx) (hl:vs.length=ds.length)
  (hr:∀ (j:Nat) (v:Value) (d:DV),vs[j]?=some v→ds[j]?=some d→WV C (Us C s.nx) (s.vw C) β w v d) (hk:callK C.P f ds s K) :
  Calls C.P f vs.toArray w fun e w'=>∃ v d s' β',e=.returned v∧K s' d∧(∀ id,C.R id→id < s'.nx)∧HoldsB C (Us C s'.nx) s' β' a w'∧WV C (Us C s'.nx) (s'.vw C) β' w' v d:=by
 rcases hk with ⟨R,himm,hcall,hK⟩ | ⟨ds',R,hm,hcall,hK⟩ | ⟨ids,ds',R,hg,hm,hcall,hK⟩ | hcallI
 ·refine (A76 hs hl (fun j v d hv hd=>?_) hcall).mono ?_
  ·have h0:=himm d (List.mem_of_getElem? hd)
   exact A08 ((hr j v d hv hd).2.1 fun id hi=>by rw [h0] at hi; cases hi) h0
  ·rintro e w' ⟨v,d,rfl,hR',h1,h2⟩
   exact ⟨v,d,s,β,rfl,hK d hR',hR,h1,h2⟩
 ·obtain ⟨hml,hmr⟩:=mapM_some hm
  refine (hcall w (frz C w) vs (fun b hb=>hb.2) (by omega) (fun j v d hv hd=>?_) (fun x d hx=>(B32 hs x d hx).mono fun b hb=>⟨⟨hb.1,hb.2.1⟩,rfl⟩)).mono ?_
  ·have hj:j < ds.length:=by have:=(List.getElem?_eq_some_iff.1 hd).1; omega
   exact rz_ok hs.hh (fun _ _=>Ag7) 5 v ds[j] d (hr j v _ hv (List.getElem?_eq_getElem hj)) (hmr j _ d (List.getElem?_eq_getElem hj) hd)
  ·rintro e w' ⟨v,r,rfl,hR',hb,hrel⟩
   exact ⟨v,r,s,β,rfl,(hK r hR').2,hR,hs.keep hb,Ao7 (Bi0 hrel (hK r hR').1)⟩
 ·obtain ⟨hml,hmr⟩:=mapM_some hm
  simp only [B31,Bool.and_eq_true,List.all_eq_true] at hg
  obtain ⟨hg1,hg2⟩:=hg
  obtain ⟨β',h1,h2,h3⟩:=hs.drops ids
  refine (A76 h1 (by omega) (fun j v d hv hd=>?_) hcall).mono ?_
  ·have hj:j < ds.length:=by have:=(List.getElem?_eq_some_iff.1 hd).1; omega
   have hz:=hmr j _ d (List.getElem?_eq_getElem hj) hd
   refine B30 hs.hh (fun _ _=>Ag7) (alw C w β') (fun id=>id∈ids) h2 (fun id b hi ha hb=>h3 id hi ha b hb) (fun id T cs hi ho k hk=>?_) 5 v ds[j] d (fun id hi=>?_) (hr j v _ hv (List.getElem?_eq_getElem hj)) hz
   ·have:=hg1 id hi
    rw [ho] at this
    have:=List.all_eq_true.1 this k hk
    simpa using this
   ·have:=hg2 id (DV.refsL_mem (List.getElem_mem hj) hi)
    simpa using this
  ·rintro e w' ⟨v,d,rfl,hR',h4,h5⟩
   exact ⟨v,d,s.drops ids,β',rfl,hK d hR',hR,h4,h5⟩
 ·exact Bb0 hs hR hl hr hcallI
end
end Go.DD

/- Rounds of a range over a function. -/
namespace Go.DD
open Go.RowKit (Below)
def zipF:List Nat→List DV→(Nat→DV)→Nat→DV
 | p :: ps,d :: ds,f=>zipF ps ds (fun u=>if p=u then d else f u)
 | _,_,f=>f
theorem Bl5 {W:Value→DV→Prop} {nt:Nat} : ∀ (ps:List Nat) (vs:List Value) (ds:List DV) (tmps:Array Value) (f:Nat→DV),vs.length=ps.length→ds.length=ps.length→
  (∀ t∈ps,t < nt)→tmps.size=nt→(∀ (j:Nat) (v:Value) (d:DV),vs[j]?=some v→ds[j]?=some d→W v d)→(∀ t,W (tmps.getD t undef) (f t))→
  ((ps.zip vs).foldl (fun (t:Array Value) (p:Nat×Value)=>t.setIfInBounds p.1 p.2) tmps).size=nt∧∀ t,W (((ps.zip vs).foldl (fun (t:Array Value) (p:Nat×Value)=>t.setIfInBounds p.1 p.2) tmps).getD t undef) (zipF ps ds f t)
 | [],_,_,tmps,f,_,_,_,hsz,_,hr=>⟨hsz,hr⟩
 | p :: ps,[],_,_,_,h,_,_,_,_,_=>by simp at h
 | p :: ps,_ :: _,[],_,_,_,h,_,_,_,_=>by simp at h
 | p :: ps,v :: vs,d :: ds,tmps,f,h1,h2,h3,hsz,hvd,hr=>by
  simp only [List.zip_cons_cons,List.foldl_cons,zipF]
  refine Bl5 ps vs ds _ _ (by simpa using h1) (by simpa using h2) (fun t ht=>h3 t (by simp [ht])) (by simpa using hsz) (fun j u e hu he=>hvd (j+1) u e (by simpa using hu) (by simpa using he)) fun t=>?_
  by_cases hpt:p=t
  ·subst hpt
   simp only [if_true]
   have hlt:p < tmps.size:=by rw [hsz]; exact h3 p (by simp)
   have:(tmps.setIfInBounds p v).getD p undef=v:=by simp [hlt]
   rw [this]; exact hvd 0 v d rfl rfl
  ·simp only [hpt,if_false]
   have:(tmps.setIfInBounds p v).getD t undef=tmps.getD t undef:=by simp [Array.getElem?_setIfInBounds_ne hpt]
   rw [this]; exact hr t
def A42 (P:Program) (id:Nat) (ds:List DV) (s:DS) (K:DS→DV→Prop):Prop:=
 ∃ lp,s.ho id=some (.loop lp)∧lp.st=.ready∧ds.length=lp.ps.length∧(∀ t∈lp.ps,t < lp.nt)∧∀ (S G:Nat→Prop) (w0:World) (X:Value→DV→Prop) (M:Nat→Prop) (Y:Nat→Option DObj) (R:Nat→Prop) (l:Nat),
  DW ⟨P,S,G,w0,lp.nt,X,M,some l,Y,R⟩ lp.asg (fun e s1=>e=.normal∧∃ lp1,s1.ho id=some (.loop lp1)∧lp1.st=.ready∧
   DW ⟨P,S,G,w0,lp.nt,X,M,some l,Y,R⟩ lp.body (fun e s2=>∃ lp2,s2.ho id=some (.loop lp2)∧match e with
    | .normal=>K ⟨s.sv,setH s2.ho id (some (.loop { lp2 with st:=.ready,pend:=none })),s2.nx⟩ (.v (.bool true))
    | .ret=>K ⟨s.sv,setH s2.ho id (some (.loop { lp2 with st:=.done,pend:=some .ret })),s2.nx⟩ (.v (.bool false))
    | .exit i=>K ⟨s.sv,setH s2.ho id (some (.loop { lp2 with st:=.done,pend:=some (.exit i) })),s2.nx⟩ (.v (.bool false))
    | _=>False) (s1.lay id (some (.loop { lp1 with st:=.busy })))) ⟨zipF lp.ps ds lp.sl.get,s.ho,s.nx⟩
section
variable {C:Ctx} {U:Nat→Prop} {s:DS} {β:Nat→Option Nat} {a:Act} {w:World}
theorem HoldsB.mark (hs:HoldsB C U s β a w) {id b:Nat} {lp:DLoop} {r:Loop} (hb:β id=some b) (ho:s.ho id=some (.loop lp)) (hr:w.heap[b]?=some (.loop r))
  (st:LoopState) (pend:Option Code):HoldsB C U (s.lay id (some (.loop { lp with st:=st,pend:=pend }))) β a (w.putObj b (.loop { r with state:=st,pending:=pend })):=by
 have hlt:b < w.heap.size:=(Array.getElem?_eq_some_iff.1 hr).1
 obtain ⟨b',r',hb',hr',q1,q2,q3,q4,q5,q6,hrel⟩:=hs.hh.hp id _ (Ag7 ho)
 rw [hb] at hb'; cases hb'
 rw [hr] at hr'
 cases hr'
 exact (hs.wrote (w':=w.putObj b (.loop { r with state:=st,pending:=pend })) 0 id b (.loop { lp with st:=st,pend:=pend }) hb (by rw [ho]; rfl) (fun k hk=>World.putObj_heap_other hk) (by simp) rfl rfl rfl
  (fun c T hc=>by rw [hr] at hc; cases hc) fun hrel'=>⟨b,_,hb,World.putObj_heap_same hlt,q1,q2,q3,q4,rfl,rfl,fun t=>hrel' _ _ (hrel t)⟩).1
theorem Bx1 {id b:Nat} {ds:List DV} {vs:List Value} {K:DS→DV→Prop} (hs:HoldsB C (Us C s.nx) s β a w) (hR:∀ id,C.R id→id < s.nx) (hb:β id=some b) (hl:vs.length=ds.length)
  (hr:∀ (j:Nat) (v:Value) (d:DV),vs[j]?=some v→ds[j]?=some d→WV C (Us C s.nx) (s.vw C) β w v d) (hk:A42 C.P id ds s K) :
  ∃ fn tmps assign body,(Instr.yield b vs.toArray).run C.P w=.ok (.round b fn tmps assign body) w∧
   RoundIn C.F 0 C.P b fn tmps assign body w fun e w'=>∃ v d s' β',e=.returned v∧K s' d∧(∀ id,C.R id→id < s'.nx)∧HoldsB C (Us C s'.nx) s' β' a w'∧WV C (Us C s'.nx) (s'.vw C) β' w' v d:=by
 obtain ⟨lp,ho,hst,hlen,hps,h⟩:=hk
 obtain ⟨b',r,hb',hrb,q1,q2,q3,q4,q5,q6,hrel⟩:=hs.hh.hp id _ (Ag7 ho)
 rw [hb] at hb'; cases hb'
 have hsz:vs.toArray.size=r.params.size:=by rw [List.size_toArray,hl,hlen,← q1,Array.length_toList]
 refine ⟨r.fn,_,r.assign,r.body,run_yield hrb hsz,roundIn_of_wpIn trivial ?_⟩
 obtain ⟨hz1,hz2⟩:=Bl5 (W:=WV C (Us C s.nx) (s.vw C) β w) lp.ps vs ds r.tmps lp.sl.get (by omega) hlen hps q2 hr hrel
 have htm:(r.params.zip vs.toArray).foldl (fun tmps (x:Nat×Value)=>tmps.setIfInBounds x.1 x.2) r.tmps=(lp.ps.zip vs).foldl (fun (t:Array Value) (p:Nat×Value)=>t.setIfInBounds p.1 p.2) r.tmps:=by
  rw [← Array.foldl_toList,Array.toList_zip,q1]
 obtain ⟨C',hC'⟩:∃ C',C'=C.inner (Us C s.nx) (s.vw C) β a.defers w lp.nt (some b) (fun _=>none) C.R:=⟨_,rfl⟩
 have hY:C'.Y=C.Y:=by rw [hC']; rfl
 have hP:C'.P=C.P:=by rw [hC']; rfl
 have hnt:C'.nt=lp.nt:=by rw [hC']; rfl
 have hUs:∀ nx,Us C' nx=Us C nx:=fun nx=>by rw [hC']; rfl
 have hvw:∀ s:DS,s.vw C'=s.vw C:=fun s=>by unfold DS.vw; rw [hY]
 have hto:∀ {U:Nat→Prop} {V:Nat→Option DObj} {β:Nat→Option Nat} {w:World},HH C U V β w→HH C' U V β w∧∀ x d,WV C' U V β w x d↔WV C U V β w x d:=fun h=>HH.ctx (by rw [hC']; rfl) (by rw [hC']; rfl) (by rw [hC']; rfl) (by rw [hC']; rfl) h
 have hfrom:∀ {U:Nat→Prop} {V:Nat→Option DObj} {β:Nat→Option Nat} {w:World},HH C' U V β w→HH C U V β w∧∀ x d,WV C U V β w x d↔WV C' U V β w x d:=fun h=>HH.ctx (by rw [hC']; rfl) (by rw [hC']; rfl) (by rw [hC']; rfl) (by rw [hC']; rfl) h
 have hmk:∀ {β:Nat→Option Nat} {w:World} {d:Deferred},Mark C' β w d↔Mark C β w d:=by rw [hC']; exact Iff.rfl
 have hent:HoldsB C' (Us C' s.nx) ⟨zipF lp.ps ds lp.sl.get,s.ho,s.nx⟩ β { tmps:=(lp.ps.zip vs).foldl (fun (t:Array Value) (p:Nat×Value)=>t.setIfInBounds p.1 p.2) r.tmps,defers:=[] } w:=by
  obtain ⟨g1,g2⟩:=hto hs.hh
  have e:(⟨zipF lp.ps ds lp.sl.get,s.ho,s.nx⟩:DS).vw C'=s.vw C:=hvw s
  refine ⟨by rw [hUs,e]; exact g1,⟨List.nodup_nil,(fun d hd=>by cases hd),(fun D hD=>?_),(fun D hD=>by cases hD)⟩,by rw [hnt]; exact hz1,fun t=>by rw [hUs,e]; exact (g2 _ _).2 (hz2 t),fun x d hx=>?_,by rw [hY]; exact hs.yd⟩
  ·rw [hC'] at hD
   exact hmk.2 (hD.elim (hs.df.out D) hs.df.ownC)
  ·rw [hUs,e]
   rw [hC'] at hx
   rcases hx with hx | hx
   ·exact (g2 _ _).2 hx
   ·exact (g2 _ _).2 (hs.gh x d (.inr hx))
 have hyl:WV C (Us C s.nx) (s.vw C) β w (.func (.yield b) #[] #[]) (.yl id):=hs.hh.wv (.yl id b hb) fun i hi=>by
  obtain rfl:i=id:=by simpa [DV.refs] using hi
  exact Af4 (by rw [ho]; rfl)
 have hC2:C'=⟨C.P,C.S,C.G,C.w0,lp.nt,C'.X,C'.M,some b,C'.Y,C'.R⟩:=by rw [hC']; rfl
 have hX:∀ x d,WV C (Us C s.nx) (s.vw C) β w x d→C'.X x d:=fun x d hx=>by rw [hC']; exact hx
 have hRR:C'.R=C.R:=by rw [hC']; rfl
 have hrun:=h C.S C.G C.w0 C'.X C'.M C'.Y C'.R b
 rw [← hC2] at hrun
 have hasg:=hrun r.assign (by rw [hP,hnt]; exact q3) _ w ⟨by rw [hRR]; exact hR,β,hent⟩
 rw [← htm] at hasg
 have hF:C'.F=C.F.inRound b:=by rw [hC']; rfl
 rw [hF,hP] at hasg
 -- the record's block is where it was
 have hblock:∀ {s1:DS} {β1:Nat→Option Nat} {a1:Act} {w1:World} {o:DObj},HoldsB C' (Us C' s1.nx) s1 β1 a1 w1→s1.ho id=some o→β1 id=some b:=fun {s1 β1 a1 w1 o} hs1 ho1=>by
  have h1:=(hs1.gh _ _ (.inl (hX _ _ hyl))).2.1 fun i hi=>by
   obtain rfl:i=id:=by simpa [DV.refs] using hi
   exact Af4 (by rw [ho1]; rfl)
  obtain ⟨b2,e,hb2⟩:=A99 h1
  cases e; exact hb2
 refine wpIn_mono (F:=C.F.inRound b) hasg ?_
 rintro e a1 w1 ⟨s1,⟨rfl,lp1,ho1,hst1,hbody⟩,hR1,β1,hs1⟩
 have hb1:=hblock hs1 ho1
 obtain ⟨b1',r1,hb1',hrb1,_,_,_,_,q51,q61,_⟩:=hs1.hh.hp id _ (Ag7 ho1)
 rw [hb1] at hb1'; cases hb1'
 refine ⟨_,run_beginRound hrb1 (by rw [q51,hst1]),?_⟩
 have hs1':=hs1.mark hb1 ho1 hrb1 .busy lp1.pend
 rw [← q61] at hs1'
 have hw1':({ lp1 with st:=LoopState.busy,pend:=r1.pending } : DLoop) = { lp1 with st:=.busy }:=by rw [q61]
 rw [hw1'] at hs1'
 have hbw:=hbody r.body (by rw [hP,hnt]; exact q4) a1 _ ⟨hR1,β1,hs1'⟩
 rw [hF,hP] at hbw
 refine wpIn_mono (F:=C.F.inRound b) hbw ?_
 rintro e a2 w2 ⟨s2,⟨lp2,ho2,hpost⟩,hR2,β2,hs2⟩
 have hb2:=hblock hs2 ho2
 obtain ⟨b2',r2,hb2',hrb2,_⟩:=hs2.hh.hp id _ (Ag7 ho2)
 rw [hb2] at hb2'; cases hb2'
 have fin:∀ (jump:Option Code) ,K ⟨s.sv,setH s2.ho id (some (.loop { lp2 with st:=if jump.isNone then .ready else .done,pend:=jump })),s2.nx⟩ (.v (.bool jump.isNone))→
   ∃ v w',(Instr.endRound b jump).run C.P w2=.ok v w'∧∃ v' d s' β',Ending.returned v=.returned v'∧K s' d∧(∀ id,C.R id→id < s'.nx)∧HoldsB C (Us C s'.nx) s' β' a w'∧WV C (Us C s'.nx) (s'.vw C) β' w' v' d:=fun jump hK=>by
  have hs3:=hs2.mark hb2 ho2 hrb2 (if jump.isNone then .ready else .done) jump
  obtain ⟨s3,hs3e⟩:∃ s3,s2.lay id (some (.loop { lp2 with st:=if jump.isNone then .ready else .done,pend:=jump }))=s3:=⟨_,rfl⟩
  rw [hs3e] at hs3
  have hn3:s3.nx=s2.nx:=by rw [← hs3e]; rfl
  have hK':K ⟨s.sv,s3.ho,s3.nx⟩ (.v (.bool jump.isNone)):=by rw [← hs3e]; exact hK
  obtain ⟨g1,g2⟩:=hfrom hs3.hh
  have e:s3.vw C'=(⟨s.sv,s3.ho,s3.nx⟩:DS).vw C:=hvw s3
  rw [hUs,e] at g1 g2
  have g3:∀ x d,WV C' (Us C' s2.nx) (s3.vw C') β2 _ x d→WV C (Us C s2.nx) ((⟨s.sv,s3.ho,s3.nx⟩:DS).vw C) β2 _ x d:=fun x d hx=>by
   rw [hUs,e] at hx; exact (g2 x d).2 hx
  refine ⟨_,_,run_endRound jump hrb2,_,_,⟨s.sv,s3.ho,s3.nx⟩,β2,rfl,hK',fun id hid=>by simp only [hn3]; exact hR2 id (by rw [hRR]; exact hid),?_,WV.v _⟩
  simp only [hn3]
  refine ⟨by rw [← hn3]; simpa only [hn3] using g1,⟨hs.df.nodup,fun d hd=>?_,fun D hD=>?_,hs.df.apart⟩,hs.sz,fun t=>?_,fun x d hx=>?_,fun i o hy=>?_⟩
  ·rcases hs.df.own d hd with ⟨D,e,_⟩ | hq
   ·subst e
    exact .inl (hmk.1 (hs3.df.out D (by rw [hC']; exact .inr hd)))
   ·exact .inr hq
  ·exact hmk.1 (hs3.df.out D (by rw [hC']; exact .inl hD))
  ·have:=g3 _ _ (hs3.gh _ _ (.inl (hX _ _ (hs.sl t))))
   simpa only [hn3] using this
  ·have:=g3 _ _ (hs3.gh _ _ (.inl (hX _ _ (hs.gh x d hx))))
   simpa only [hn3] using this
  ·exact hs3.yd i o (by rw [hY]; exact hy)
 cases e with
 | normal=>exact fin none hpost
 | ret=>exact fin (some .ret) hpost
 | exit i=>exact fin (some (.exit i)) hpost
 | _=>exact hpost.elim
end
end Go.DD
