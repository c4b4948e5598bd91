/- A part. -/
import Derived.Test.YtnphfnhhpcelbaaGreatYa
import Derived.Laws.OwnMore
import Derived.Laws.MakeOwn
import Derived.Maps.AppendAt
import Derived.MapKept
import Derived.ChangeKeysEq
import Derived.WideKeyRuns
import Derived.Tactics
import Derived.OrdersIn
import Derived.OwnWalkIn
import Derived.RangeFuncNested
import Derived.RangeFuncLeaves
namespace Go.DD
open Go.RowKit (Below)
theorem DS.ho_upd(s:DS)(nid:Nat)(u:Upd):(s.upd nid u).ho=u.app nid s.ho:=rfl
@[simp] theorem DS.sv_upd(s:DS)(nid:Nat)(u:Upd):(s.upd nid u).sv=s.sv:=rfl
theorem Ck1{C:Ctx}{s:DS}{nid:Nat}{Iy:Option Nat}{o:DObj}(hold:∀ i,Iy=some i->C.Y i=none)(j:Nat)(hj:j≠nid):(s.upd nid (.mv Iy o)).vw C j=if Iy=some j then none else s.vw C j:=by
 unfold DS.vw Ll
 rw [DS.ho_upd]
 simp only [Upd.app]
 rw [tL _ _ hj]
 cases Iy with
 | none=>simp [SB]
 | some i=>
  simp only [SB]
  by_cases Nm:j=i
  .subst Nm;simp [hold j rfl]
  .rw [tL _ _ Nm]
   have:¬ i=j:=λe=>Nm e.symm
   simp [this]
theorem Cs1{C:Ctx}{s:DS}{nid:Nat}{Iy:Option Nat}{o:DObj} : (s.upd nid (.mv Iy o)).vw C nid=some o:=by
 simp [DS.vw,Ll,DS.ho_upd,Upd.app]
theorem HoldsB.apart{C:Ctx}{U:Nat->Prop}{s:DS}{β:Nat->Option Nat}{a:Act}{w:World}(hs:HoldsB C U s β a w){i:Nat}(h:(s.ho i).isSome=true):C.Y i=none:=by
 cases hy:C.Y i with
 | none=>rfl
 | some o=>rw [hs.yd i o hy] at h;cases h
theorem HoldsB.turned{C:Ctx}{U:Nat->Prop}{s:DS}{β β':Nat->Option Nat}{a:Act}{w w':World}{nid:Nat}(hs:HoldsB C U s β a w)(hn:¬ U nid)(Iy:Option Nat)(hold:∀ i,Iy=some i->(s.ho i).isSome=true)(o:DObj)
  (Hm:∀ b,b<w.heap.size->(∀ i,Iy=some i->β i≠some b)->w'.heap[b]?=w.heap[b]?)
  (Q9:w'.os=w.os) (Ww:w'.tape=w.tape) (Ni:w'.output=w.output) (Hq:w.heap.size<=w'.heap.size)
  (hβ:∀ j,j≠nid->Iy≠some j->β' j=β j) (lr:∀ i,Iy=some i->β' i=none)
  (Qd:∀ b,β' nid=some b->((∃ i,Iy=some i/\β i=some b)\/w.heap.size<=b)/\b<w'.heap.size)
  (gJ:(∀ x d,WV C U (s.vw C) β w x d->WV C (Un U nid) ((s.upd nid (.mv Iy o)).vw C) β' w' x d)->RelO C (Un U nid) ((s.upd nid (.mv Iy o)).vw C) β' w' nid o) :
  HoldsB C (Un U nid) (s.upd nid (.mv Iy o)) β' a w'/\∀ x d,WV C U (s.vw C) β w x d->WV C (Un U nid) ((s.upd nid (.mv Iy o)).vw C) β' w' x d:=by
 have ht:=hs.hh.turn (U':=Un U nid) (V':=(s.upd nid (.mv Iy o)).vw C) (β':=β') (w':=w') nid Iy hn (λ_=>Dp) (λi hi=>hs.hh.used (sK (hold i hi))) Hm Q9 Ww Ni Hq hβ lr Qd
  (λj hj=>Ck1 (λi hi=>hs.apart (hold i hi)) j hj) (λo' Nj Ct=>by rw [Cs1] at Nj;cases Nj;exact gJ Ct)
 refine ⟨hs.carry rfl (λid o' hy=>?_) ht,ht.2.1⟩
 have h1:=hs.yd id o' hy
 have hu:id≠nid:=λe=>hn (e ▸ hs.hh.used (by unfold DS.vw Ll;rw [h1];simp [hy]))
 rw [DS.ho_upd]
 simp only [Upd.app]
 rw [tL _ _ hu]
 cases Iy with
 | none=>exact h1
 | some i=>
  simp only [SB]
  by_cases Nm:id=i
  .subst Nm;simp
  .rw [tL _ _ Nm];exact h1
theorem HoldsB.fresh{C:Ctx}{U:Nat->Prop}{s:DS}{β:Nat->Option Nat}{a:Act}{w w':World}{nid:Nat}(hs:HoldsB C U s β a w)(hn:¬ U nid)(T:TypeId)(c:Array Value)(cs:List DV)(b:Nat)
  (hk:Below w.heap.size w w') (hb:w.heap.size<=b) (hc:w'.heap[b]?=some (.cells c T (0,0))) (hl:cs.length<=c.size) (hx:Sp C.P T=true->c.size=cs.length)
  (hr:∀ (j:Nat) (u:Value) (d:DV),c[j]?=some u->cs[j]?=some d->WV C U (s.vw C) β w u d/\u.oneCell'=true) :
  HoldsB C (Un U nid) (s.upd nid (.lay (.row T cs))) (upd β nid (some b)) a w':=by
 have Oh:b<w'.heap.size:=by
  rcases Cj b w'.heap.size with h | h
  .exact h
  .rw [Wl h] at hc;cases hc
 refine (hs.turned (β':=upd β nid (some b)) hn none (λ_ h=>by cases h) _ (λb' Kj _=>hk.block b' Kj) hk.os hk.tape hk.output hk.size (λj hj _=>tK β _ hj) (λ_ h=>by cases h) (λb' Kj=>?_) λCt=>?_).1
 .rw [Fl] at Kj
  cases Kj
  exact ⟨.inr hb,Oh⟩
 .exact .inr ⟨b,c,by simp,hc,hl,hx,λj u d hu hd=>⟨Ct _ _ (hr j u d hu hd).1,(hr j u d hu hd).2⟩⟩
theorem Y1{C:Ctx}{U:Nat->Prop}{V:Nat->Option DObj}{β:Nat->Option Nat}{w:World}{nid:Nat}{x:Value}{d:DV}(hr:Rel C.P w (Sc C w β) β x d)(hd:d.refs=[nid]):WV C (Un U nid) V β w x d:=
 ⟨λid hi=>by rw [hd] at hi;exact .inr (by simpa using hi),λ_=>hr,TP.of_rel hr⟩
theorem Cs2{C:Ctx}{U:Nat->Prop}{V:Nat->Option DObj}{β:Nat->Option Nat}{w:World}{us:List Value}{cs:List DV}(hl:us.length=cs.length)(ho:∀ u∈us,u.oneCell'=true)
  (hr:∀ (j:Nat) (u:Value) (d:DV),us[j]?=some u->cs[j]?=some d->WV C U V β w u d):WV C U V β w (.agg us.toArray) (.agg cs):=by
 refine ⟨λid hi=>?_,λha=>.agg us cs hl ho λj u d hu hd=>(hr j u d hu hd).2.1 λid hi=>ha id (by rw [DV.refs];exact DV.refsL_mem (Aw hd) hi),TP.nt λ_ h=>by cases h⟩
 rw [DV.refs] at hi
 obtain ⟨d,hd,hi⟩:=DV.mem_refsL hi
 obtain ⟨j,hj,rfl⟩:=Bx.1 hd
 exact (hr j us[j] _ (Aa (by omega)) (Aa hj)).1 id hi
section ops
variable {C:Ctx} {U:Nat->Prop} {s:DS} {β:Nat->Option Nat} {a:Act} {w:World} {o:Oper} {d:DV} {s':DS} {nid:Nat}
theorem SI{P:Program}{t:TypeId}{z:List Value}(h:Oy P t=some z):∃ i v,P.info? t=some i/\i.zero=some v/\v.cells.toList=z/\∀ u∈z,u.oneCell'=true:=by
 unfold Oy at h
 obtain ⟨v,hv,h⟩:=Bg.1 h
 obtain ⟨i,hi,hv⟩:=Bg.1 hv
 split at h
 .rename_i Qe
  cases h
  exact ⟨i,v,hi,hv,rfl,λu hu=>Ay.1 Qe u hu⟩
 .cases h
theorem YO{V:Nat->Option DObj}{z:List Value}(h1:∀ u∈z,u.oneCell'=true)(j:Nat)(u:Value)(d:DV)(hu:z[j]?=some u)(hd:(z.map DV.v)[j]?=some d):WV C U V β w u d/\u.oneCell'=true:=by
 simp only [Df,hu,Cb,Eg] at hd
 subst hd
 exact ⟨WV.v u,h1 u (Aw hu)⟩
theorem IT{T:TypeId}{z:List Value}(ho:o.op=.alloc T)(hz:Oy C.P T=some z)(hs:HoldsB C U s β a w)(hn:¬ U nid):OpOk C (Un U nid) a w o (.pt nid 0) (s.upd nid (.lay (.row T (z.map .v)))):=by
 obtain ⟨i,v,hi,hv,rfl,h1⟩:=SI hz
 have hf:=hs.fresh hn T v.cells (v.cells.toList.map .v) w.heap.size (CL w (.cells v.cells T)) (Af _) (heap_alloc_new w _) (by simp) (λ_=>by simp)
  (λj u d hu hd=>YO h1 j u d (by simpa using hu) hd)
 refine ⟨.value (.pointer (some ⟨w.heap.size,0,none⟩)),_,_,_,?_,.inl rfl,hf,Y1 (.pt nid 0 _ (by simp)) rfl⟩
 simp [execOp,ho,Instr.alloc,zeroValue,typeInfo,hi,hv,newVar,newRow]
theorem IQ{T:TypeId}{x:Operand}(ho:o.op=.box T x)(hs:HoldsB C U s β a w)(hn:¬ U nid)(hx:(s.ev x).okC=true):OpOk C (Un U nid) a w o (.pt nid 0) (s.upd nid (.lay (.row T (s.ev x).cells))):=by
 obtain ⟨hl,h1,hr⟩:=hs.cells x hx
 have hf:=hs.fresh hn T (a.eval x).cells (s.ev x).cells w.heap.size (CL w (.cells (a.eval x).cells T)) (Af _) (heap_alloc_new w _) (by omega) (λ_=>hl)
  (λj u d hu hd=>⟨hr j u d hu hd,h1 u (by simpa using Array.mem_of_getElem? hu)⟩)
 refine ⟨.value (.pointer (some ⟨w.heap.size,0,none⟩)),_,_,_,?_,.inl rfl,hf,Y1 (.pt nid 0 _ (by simp)) rfl⟩
 simp [execOp,ho,Instr.box,newVar,newRow]
theorem Bn4(xs:List Value):∀ (off i:Nat) (cells:Array Value),off+i+xs.length<=cells.size->
  ((xs.zipIdx i).foldl (λcs (c,j)=>cs.setIfInBounds (off+j) c) cells).toList=cells.toList.take (off+i)++xs++cells.toList.drop (off+i+xs.length):=by
 induction xs with
 | nil=>intro off i cells _;simp
 | cons x xs ih=>
  intro off i cells h
  simp only [List.zipIdx_cons,List.foldl_cons]
  rw [ih off (i+1) _ (by simp at h ⊢;omega)]
  have Fb:off+i<cells.toList.length:=by simp at h ⊢;omega
  simp only [Kp,Fi]
  rw [show off+(i+1)=off+i+1 by omega,Eh (by simpa using Fb),List.take_set_of_le (by omega),List.drop_set_of_lt (by omega)]
  simp [Nat.add_assoc,Nat.add_comm 1]
theorem Bd0{W:Value->DV->Prop}(place:Nat->Option (Nat×Nat))(ρ:Operand->Value)(η:Operand->DV)(hρ:∀ x,(η x).okC=true->(ρ x).cells.size=(η x).cells.length/\(∀ u∈(ρ x).cells.toList,u.oneCell'=true)/\∀ (j:Nat) (u:Value) (e:DV),(ρ x).cells[j]?=some u->(η x).cells[j]?=some e->W u e) :
  ∀ (ps:List (Nat×Operand)) (qs:List (Nat×Nat×Operand)) (cells:Array Value) (cs:List DV) (G1:List DV),
   qs.length=ps.length->(∀ (j:Nat) (p:Nat×Operand) (q:Nat×Nat×Operand),ps[j]?=some p->qs[j]?=some q->place p.1=some (q.1,q.2.1)/\p.2=q.2.2)->
   cells.size=cs.length->(∀ u∈cells.toList,u.oneCell'=true)->(∀ (j:Nat) (u:Value) (d:DV),cells[j]?=some u->cs[j]?=some d->W u d)->
   Hi cs (qs.map λq=>(q.1,q.2.1,η q.2.2))=some G1->
   ∃ Jt,Instr.fill place cells (ps.map λp=>(p.1,ρ p.2))=some Jt/\Jt.size=G1.length/\G1.length=cs.length/\(∀ u∈Jt.toList,u.oneCell'=true)/\
    ∀ (j:Nat) (u:Value) (d:DV),Jt[j]?=some u->G1[j]?=some d->W u d
 | [],[],cells,cs,G1,_,_,hl,h1,hr,h=>by
  simp [Hi] at h
  subst h
  exact ⟨cells,by simp [Instr.fill],hl,rfl,h1,hr⟩
 | p::ps,q::qs,cells,cs,G1,hlen,uV,hl,h1,hr,h=>by
  obtain ⟨hp,My⟩:=uV 0 p q rfl rfl
  simp only [Ao,Hi] at h
  split at h
  rotate_left
  .cases h
  rename_i hc
  obtain ⟨Vl,Hq,qR⟩:=hc
  obtain ⟨g1,g2,g3⟩:=hρ q.2.2 Vl
  have kC:=Bn4 (ρ q.2.2).cells.toList q.1 0 cells (by simp;omega)
  simp only [Nat.add_zero] at kC
  have key:=Bd0 (W:=W) place ρ η hρ ps qs ((ρ q.2.2).cells.toList.zipIdx.foldl (λcs (c,j)=>cs.setIfInBounds (q.1+j) c) cells) (cs.take q.1++(η q.2.2).cells++cs.drop (q.1+q.2.1)) G1
   (by simpa using hlen) (λj p' q' h1 h2=>uV (j+1) p' q' (by simpa using h1) (by simpa using h2)) ?_ ?_ ?_ h
  .obtain ⟨Jt,k1,k2,k3,k4,k5⟩:=key
   refine ⟨Jt,?_,k2,?_,k4,k5⟩
   .simp only [Ao,Instr.fill,hp,My]
    rw [Ae (by simp;omega),<- k1]
    congr 1
    rw [<- Array.foldl_toList]
    simp
   .rw [k3];simp;omega
  .rw [<- Ef,kC];simp;omega
  .rw [kC]
   intro u hu
   simp only [Bo] at hu
   rcases hu with (hu | hu) | hu
   .exact h1 u (Kn hu)
   .exact g2 u hu
   .exact h1 u (De hu)
  .intro j u d hu hd
   have Pe:(cells.toList.take q.1++(ρ q.2.2).cells.toList++cells.toList.drop (q.1+(ρ q.2.2).cells.toList.length))[j]?=some u:=by
    rw [<- kC];simpa using hu
   have NO:(ρ q.2.2).cells.toList.length=q.2.1:=by simp;omega
   rw [NO] at Pe
   rw [Ce,Hc] at Pe hd
   simp only [Ca,Ef,hl] at Pe hd
   by_cases hj:j<min q.1 cs.length
   .rw [Ah hj] at Pe hd
    rw [Lz (by omega)] at Pe hd
    exact hr j u d (by simpa using Pe) hd
   .rw [Ae hj] at Pe hd
    rw [Hc] at Pe hd
    rw [NO] at Pe
    rw [Hq] at hd
    by_cases mE:j-min q.1 cs.length<q.2.1
    .rw [Ah mE] at Pe hd
     exact g3 _ u d (by simpa using Pe) hd
    .rw [Ae mE] at Pe hd
     rw [List.getElem?_drop] at Pe hd
     exact hr _ u d (by simpa using Pe) hd
 | [],_::_,_,_,_,h,_,_,_,_,_=>by simp at h
 | _::_,[],_,_,_,h,_,_,_,_,_=>by simp at h
theorem mapM_some{α β:Type}{f:α->Option β} : ∀ {l:List α} {r:List β},l.mapM f=some r->r.length=l.length/\∀ (j:Nat) (x:α) (y:β),l[j]?=some x->r[j]?=some y->f x=some y
 | [],r,h=>by simp at h;subst h;simp
 | x::l,r,h=>by
  simp only [Ez,Ee,Bg,Fc] at h
  obtain ⟨y,hy,t,ht,h⟩:=h
  cases h
  obtain ⟨h1,h2⟩:=mapM_some ht
  refine ⟨by simp [h1],λj u v hu hv=>?_⟩
  cases j with
  | zero=>simp at hu hv;subst hu hv;exact hy
  | succ j=>exact h2 j u v (by simpa using hu) (by simpa using hv)
theorem Ax1{P:Program} : ∀ (fs:List Field),(∀ f∈fs,P.cellsOf f.type≠0)->∀ (w:World),(fs.mapM (λf=>do pure (f.offset,<- sizeOf f.type):Field->Sem (Nat×Nat))).run P w=.ok (fs.map λf=>(f.offset,P.cellsOf f.type)) w
 | [],_,w=>by simp
 | f::fs,h,w=>by
  have ih:=Ax1 fs (λg hg=>h g (by simp [hg])) w
  simp only [Ez,Sem.run_bind,Z3 (h f (by simp)),Result.andThen_ok,Sem.run_pure,Ao]
  rw [ih]
  rfl
theorem Cs3{t:TypeId}{ps:Array (Nat×Operand)}{fs:Array Field}{z:List Value}{l:List (Nat×Nat×Operand)}{cs:List DV}(ho:o.op=.build t ps)(ht:C.P.underlying t=some (.struct fs))(hz:Oy C.P t=some z)
  (Ks:∀ f∈fs.toList,C.P.cellsOf f.type≠0)
  (hl:ps.toList.mapM (λp=>(fs[p.1]?).map λf=>(f.offset,C.P.cellsOf f.type,p.2))=some l) (hs:HoldsB C U s β a w)
  (hf:Hi (z.map .v) (l.map λp=>(p.1,p.2.1,s.ev p.2.2))=some cs):OpOk C U a w o (.agg cs) s:=by
 obtain ⟨i,v,hi,hv,rfl,h1⟩:=SI hz
 obtain ⟨m1,m2⟩:=mapM_some hl
 obtain ⟨Jt,k1,k2,k3,k4,k5⟩:=Bd0 (W:=WV C U (s.vw C) β w) ((fs.toList.map λf=>(f.offset,C.P.cellsOf f.type))[·]?) a.eval s.ev (λx hx=>hs.cells x hx) ps.toList l v.cells (v.cells.toList.map .v) cs m1
  (λj p q hp hq=>by
   have:=m2 j p q hp hq
   obtain ⟨f,hf,rfl⟩:=Ag.1 this
   simp [hf])
  (by simp) h1 (λj u d hu hd=>(YO h1 j u d (by simpa using hu) hd).1) hf
 have Hl:(fs.mapM (λf=>do pure (f.offset,<- sizeOf f.type):Field->Sem (Nat×Nat))).run C.P w=.ok (fs.toList.map λf=>(f.offset,C.P.cellsOf f.type)).toArray w:=by
  rw [Array.mapM_eq_mapM_toList]
  simp only [Sem.run_map,Ax1 fs.toList Ks w,Result.andThen_ok]
 refine .same hs (x:=.agg Jt.toList.toArray) ?_ (Cs2 (by simpa using k2) k4 λj u d hu hd=>k5 j u d (by simpa using hu) hd)
 have kr:Instr.fill ((fs.toList.map λf=>(f.offset,C.P.cellsOf f.type)).toArray[·]?) v.cells (ps.map λp=>(p.1,a.eval p.2)).toList=some Jt:=by
  rw [<- k1]
  congr 1
  .funext j;simp
  .simp
 simp only [execOp,ho,Instr.build,Sem.run_bind,zeroValue,typeInfo,run_program,Result.andThen_ok,hi,hv,Sem.run_pure,run_underlying ht,Hl]
 simp only [kr]
 simp
theorem YS{α:Type}(z:List α):∀ (n j:Nat),((List.replicate n z).flatten)[j]?=if j<n*z.length then z[j % z.length]? else none
 | 0,j=>by simp
 | n+1,j=>by
  rw [Ja,List.flatten_cons,Hc,YS z n]
  by_cases hj:j<z.length
  .have h1:j<(n+1)*z.length:=by rw [Gg];omega
   rw [Ah hj,Ah h1,Nat.mod_eq_of_lt hj]
  .rw [Ae hj]
   have hm:(j-z.length) % z.length=j % z.length:=by
    conv=>rhs;rw [show j=(j-z.length)+z.length by omega]
    rw [Nat.add_mod_right]
   have h2:(j-z.length<n*z.length)↔(j<(n+1)*z.length):=by rw [Gg];omega
   rw [hm]
   simp only [h2]
theorem Ax2(z:Array Value)(n:Nat)(h:0<z.size):((Array.range (n*z.size)).map (z[· % z.size]!)).toList=(List.replicate n z.toList).flatten:=by
 apply List.ext_getElem?
 intro j
 rw [YS]
 simp only [Ef]
 by_cases hj:j<n*z.size
 .have Fb:j % z.size<z.size:=Nat.mod_lt _ h
  simp [hj,Fb]
 .simp [hj]
theorem Af1{z:List Value}(h1:∀ u∈z,u.oneCell'=true)(n:Nat):∀ u∈(List.replicate n z).flatten,u.oneCell'=true:=by
 intro u hu
 simp only [List.mem_flatten] at hu
 obtain ⟨l,hl,hu⟩:=hu
 rw [List.mem_replicate] at hl
 exact h1 u (hl.2 ▸ hu)
theorem SY(z:List Value)(n:Nat):(List.replicate n (z.map DV.v)).flatten=((List.replicate n z).flatten).map DV.v:=by
 rw [List.map_flatten,List.map_replicate]
theorem Cs4{t e:TypeId}(R0:Sp C.P e=false){n:Nat}{ps:Array (Nat×Operand)}{z:List Value}{cs:List DV}(ho:o.op=.buildSlice t n ps)(ht:C.P.underlying t=some (.slice e))(hz:Oy C.P e=some z)
  (hn:n*C.P.cellsOf e<=65536) (he:0<C.P.cellsOf e) (Zb:z.length=C.P.cellsOf e) (hs:HoldsB C U s β a w) (Qd:¬ U nid)
  (hf:Hi ((List.replicate n (z.map .v)).flatten) ((ps.toList.map λp=>(p.1*C.P.cellsOf e,C.P.cellsOf e,p.2)).map λp=>(p.1,p.2.1,s.ev p.2.2))=some cs) :
  OpOk C (Un U nid) a w o (.ms nid 0 n (C.P.cellsOf e)) (s.upd nid (.lay (.row e cs))):=by
 obtain ⟨i,v,hi,hv,rfl,h1⟩:=SI hz
 have Hq:C.P.cellsOf e=i.size:=by simp [Program.cellsOf,hi]
 simp only [Hq] at hn he Zb hf
 have uR:v.cells.size=i.size:=by simpa using Zb
 have Zf:((Array.range (n*i.size)).map (v.cells[· % v.cells.size]!)).toList=(List.replicate n v.cells.toList).flatten:=by
  rw [<- uR];exact Ax2 v.cells n (by omega)
 have B8:((List.replicate n v.cells.toList).flatten).length=n*i.size:=by rw [<- Zf];simp
 obtain ⟨Jt,k1,k2,k3,k4,k5⟩:=Bd0 (W:=WV C U (s.vw C) β w) (λj=>some (j*i.size,i.size)) a.eval s.ev (λx hx=>hs.cells x hx) ps.toList (ps.toList.map λp=>(p.1*i.size,i.size,p.2))
  ((Array.range (n*i.size)).map (v.cells[· % v.cells.size]!)) ((List.replicate n (v.cells.toList.map .v)).flatten) cs (by simp)
  (λj p q hp hq=>by
   simp only [Df,hp,Cb,Eg] at hq
   subst hq
   exact ⟨rfl,rfl⟩)
  (by rw [SY,Dd,B8];simp)
  (by rw [Zf];exact Af1 h1 n)
  (λj u d hu hd=>(YO (Af1 h1 n) j u d (by rw [<- Zf,Cz];exact hu) (by rw [<- SY];exact hd)).1) hf
 have Up:cs.length=n*i.size:=by rw [k3,SY,Dd,B8]
 have Fv:=hs.fresh Qd e Jt cs w.heap.size (CL w (.cells Jt e)) (Af _) (heap_alloc_new w _) (by omega) (λh=>by rw [R0] at h;cases h)
  (λj u d hu hd=>⟨k5 j u d hu hd,k4 u (by simpa using Array.mem_of_getElem? hu)⟩)
 refine ⟨.value (.slice (some ⟨w.heap.size,0,none⟩) n n),_,_,_,?_,.inl rfl,Fv,Y1 (.ms nid 0 n _ w.heap.size n Jt e (by simp) (heap_alloc_new w _) (Af _) ?_ ?_) rfl⟩
 .have kr:Instr.fill (λj=>some (j*i.size,i.size)) ((Array.range (n*i.size)).map (v.cells[· % v.cells.size]!)) (ps.map λp=>(p.1,a.eval p.2)).toList=some Jt:=by
   rw [<- k1];congr 1;simp
  have P8:¬ (2:Nat) ^ 24<n*i.size:=by omega
  by_cases hz0:n*i.size=0
  .have VC:n=0:=by
    rcases Nat.mul_eq_zero.1 hz0 with h | h
    .exact h
    .omega
   subst VC
   have hr0:Array.range 0 = #[]:=rfl
   have O8:Instr.fill (λj=>some (j*i.size,i.size)) #[] (List.map (λx=>(x.fst,a.eval x.snd)) ps.toList)=some Jt:=by
    rw [<- k1,Nat.zero_mul,hr0];simp
   simp [execOp,ho,Instr.buildSlice,run_underlying ht,sizeOf,typeInfo,hi,hr0,O8,newRow]
  .simp only [execOp,ho,Instr.buildSlice,Sem.run_bind,run_underlying ht,Result.andThen_ok,sizeOf,typeInfo,zeroValue,run_program,hi,hv,Sem.run_pure,gt_iff_lt,P8,Ph,Sem.run_ite,hz0]
   simp only [kr,newRow]
   simp
 .have Hu:n<=n*i.size:=Nat.le_mul_of_pos_right n he
  simp only [maxLen];omega
 .rw [Hq];omega
theorem B37{C:Ctx}{s:DS}{nid id:Nat}{o:DObj}(j:Nat)(hj:j≠id):(s.upd nid (.wr id o)).vw C j=s.vw C j:=by
 unfold DS.vw Ll
 rw [DS.ho_upd]
 simp only [Upd.app]
 rw [tL _ _ hj]
theorem Bg4{C:Ctx}{s:DS}{nid id:Nat}{o:DObj} : (s.upd nid (.wr id o)).vw C id=some o:=by simp [DS.vw,Ll,DS.ho_upd,Upd.app]
theorem HoldsB.wrote(hs:HoldsB C U s β a w){w':World}(nid id b:Nat)(o:DObj)(hb:β id=some b)(hid:(s.ho id).isSome=true)
  (Hm:∀ b',b'≠b->w'.heap[b']?=w.heap[b']?)
  (Hq:w'.heap.size=w.heap.size) (Q9:w'.os=w.os) (Ww:w'.tape=w.tape) (Ni:w'.output=w.output)
  (gE:SameShape w w' b)
  (gJ:(∀ x d,WV C U (s.vw C) β w x d->WV C U ((s.upd nid (.wr id o)).vw C) β w' x d)->RelO C U ((s.upd nid (.wr id o)).vw C) β w' id o) :
  HoldsB C U (s.upd nid (.wr id o)) β a w'/\∀ x d,WV C U (s.vw C) β w x d->WV C U ((s.upd nid (.wr id o)).vw C) β w' x d:=by
 have h:=hs.hh.write (V':=(s.upd nid (.wr id o)).vw C) (w':=w') id b hb (sK hid) Hm Hq Q9 Ww Ni gE (λj hj=>B37 j hj) (by rw [Bg4];rfl)
  (λo' Nj Ct=>by rw [Bg4] at Nj;cases Nj;exact gJ Ct)
 refine ⟨hs.carry rfl (λj o' hy=>?_) h,h.2.1⟩
 have h1:=hs.yd j o' hy
 rw [DS.ho_upd]
 simp only [Upd.app]
 rw [tL _ _ (λe=>by rw [<- e,h1] at hid;cases hid)]
 exact h1
theorem IP{t T:TypeId}{k:Option Nat}{x y:Operand}{id off n:Nat}{cs:List DV}(ho:o.op=.store t x y)(hk:Oz C.P t=some k)(hkn:n=k.getD 1)(hs:HoldsB C U s β a w)(hx:s.ev x=.pt id off)
  (hid:s.ho id=some (.row T cs)) (Vl:(s.ev y).okC=true) (hlen:(s.ev y).cells.length=n) (qR:off+n<=cs.length) :
  OpOk C U a w o .any (s.upd nid (.wr id (.row T (cs.take off++(s.ev y).cells++cs.drop (off+n))))):=by
 have h1:=hs.ev x
 rw [hx] at h1
 obtain ⟨b,e1,hb⟩:=tE h1
 obtain ⟨c,hw,hl,hex,hr⟩:=hs.row hb hid
 obtain ⟨g1,g2,g3⟩:=hs.cells y Vl
 have Ro:=run_storeCells_at C.P b off T (a.eval y).cells.toList 0 c w hw (by simp;omega) g2
 simp only [Nat.add_zero] at Ro
 have Hq:(sizeOf t).run C.P w=.ok n w:=by
  cases k with
  | none=>rw [hkn];exact (YR hk w).2.1
  | some m=>rw [hkn];exact (Ap8 hk w).2.1
 have hwr:HoldsB C U (s.upd nid (.wr id (.row T (cs.take off++(s.ev y).cells++cs.drop (off+n))))) β a (w.setRow b (c.toList.take off++(a.eval y).cells.toList++c.toList.drop (off+(a.eval y).cells.toList.length)).toArray):=by
  refine (hs.wrote nid id b _ hb (by rw [hid];rfl) (λb' Kj=>setRow_other w b b' _ Kj) (by simp) rfl rfl rfl ?_ λCt=>?_).1
  .intro c' T' Jd
   rw [hw] at Jd
   cases Jd
   refine ⟨_,setRow_heap w b c _ T _ hw,?_⟩
   simp;omega
  .refine .inr ⟨b,_,hb,setRow_heap w b c _ T _ hw,by simp;omega,λh=>(by have:=hex h;simp;omega),λj u d hu hd=>?_⟩
   have NO:(a.eval y).cells.toList.length=n:=by simp;omega
   have Pe:(c.toList.take off++(a.eval y).cells.toList++c.toList.drop (off+n))[j]?=some u:=by rw [<- NO];simpa using hu
   rw [Ce,Hc] at Pe hd
   simp only [Ca,Ef] at Pe hd
   rw [show min off c.size=off by omega] at Pe
   rw [show min off cs.length=off by omega] at hd
   by_cases hj:j<off
   .rw [Ah hj] at Pe hd
    rw [Lz hj] at Pe hd
    have:=hr j u d (by simpa using Pe) hd
    exact ⟨Ct _ _ this.1,this.2⟩
   .rw [Ae hj] at Pe hd
    rw [Hc] at Pe hd
    rw [NO] at Pe
    rw [hlen] at hd
    by_cases mE:j-off<n
    .rw [Ah mE] at Pe hd
     exact ⟨Ct _ _ (g3 _ u d (by simpa using Pe) hd),g2 u (Aw Pe)⟩
    .rw [Ae mE] at Pe hd
     rw [List.getElem?_drop] at Pe hd
     have:=hr _ u d (by simpa using Pe) hd
     exact ⟨Ct _ _ this.1,this.2⟩
 refine ⟨.skip,_,β,undef,?_,.inr ⟨rfl,rfl⟩,hwr,WV.any⟩
 have fD:(a.eval y).cells.size=n:=by omega
 simp [execOp,ho,e1,Instr.storeAt,Instr.sureAddr,storeVar,Hq,fD,Ro]
theorem Cs5{t e:TypeId}(R0:Sp C.P e=false){x y:Operand}{z:List Value}{l c:Int}(ho:o.op=.makeSlice t x y)(ht:C.P.underlying t=some (.slice e))(hz:Oy C.P e=some z)
  (Zb:z.length=C.P.cellsOf e) (he:0<C.P.cellsOf e) (hby:C.P.bytesOf e<=65536) (hs:HoldsB C U s β a w) (Qd:¬ U nid) (hx:Mx (s.ev x)=some l) (hy:Mx (s.ev y)=some c) (h0:0<=l) (pj:l<=c) (hc:c<=2147483648) :
  OpOk C (Un U nid) a w o (.ms nid 0 l.toNat (C.P.cellsOf e)) (s.upd nid (.lay (.row e ((List.replicate l.toNat (z.map .v)).flatten)))):=by
 obtain ⟨i,v,hi,hv,rfl,h1⟩:=SI hz
 obtain ⟨kl,VF⟩:=BX (hs.ev x) hx
 obtain ⟨kc,hkc⟩:=BX (hs.ev y) hy
 have Hq:C.P.cellsOf e=i.size:=by simp [Program.cellsOf,hi]
 have OC:C.P.bytesOf e=i.bytes:=by simp [Program.bytesOf,hi]
 simp only [Hq] at he Zb
 rw [OC] at hby
 have uR:v.cells.size=i.size:=by simpa using Zb
 have Hl:=run_make (P:=C.P) w t e i v ht hi hv kl kc l c h0 pj (by
  have h2:(i.bytes:Int)*c<=65536*2147483648:=Int.mul_le_mul (by omega) hc (by omega) (by omega)
  omega) (by omega)
 have Zf:(madeCells v.cells (c.toNat*i.size)).toList=(List.replicate c.toNat v.cells.toList).flatten:=by
  rw [<- uR];exact Ax2 v.cells c.toNat (by omega)
 have qB:(madeCells v.cells (c.toNat*i.size)).size=c.toNat*i.size:=size_madeCells _ _
 have Ot:(List.replicate l.toNat v.cells.toList).flatten=((List.replicate c.toNat v.cells.toList).flatten).take (l.toNat*i.size):=by
  apply List.ext_getElem?
  intro j
  rw [Cx,YS,YS]
  simp only [Ef,uR]
  by_cases hj:j<l.toNat*i.size
  .have:j<c.toNat*i.size:=Br hj (Ep _ (by omega))
   simp [hj,this]
  .simp [hj]
 have hll:((List.replicate l.toNat v.cells.toList).flatten).length=l.toNat*i.size:=by
  rw [Ot,Ca,<- Zf,Ef,qB]
  exact Nat.min_eq_left (Ep _ (by omega))
 have Fv:=hs.fresh Qd e (madeCells v.cells (c.toNat*i.size)) ((List.replicate l.toNat (v.cells.toList.map .v)).flatten) w.heap.size (CL w (.cells (madeCells v.cells (c.toNat*i.size)) e)) (Af _) (heap_alloc_new w _)
  (by rw [SY,Dd,hll,qB];exact Ep _ (by omega)) (λh=>by rw [R0] at h;cases h)
  (λj u d hu hd=>by
   rw [SY] at hd
   have Xt:j<l.toNat*i.size:=by
    have:=(Ar.1 hd).1
    rwa [Dd,hll] at this
   refine YO (Af1 h1 l.toNat) j u d ?_ hd
   rw [Ot,Lz Xt,<- Zf,Cz]
   exact hu)
 refine ⟨.value (.slice (some ⟨w.heap.size,0,none⟩) l.toNat c.toNat),_,_,_,?_,.inl rfl,Fv,Y1 (.ms nid 0 _ _ w.heap.size _ _ e (by simp) (heap_alloc_new w _) (by omega) (by simp only [maxLen];omega) ?_) rfl⟩
 .simp [execOp,ho,VF,hkc,Hl]
 .rw [qB,Hq];omega
end ops
end Go.DD

/- Each operation on deep values is what the model's operation does (fourth part: append). -/
namespace Go.DD
open Go.RowKit (Below)
section ops
variable {C:Ctx} {U:Nat->Prop} {s:DS} {β:Nat->Option Nat} {a:Act} {w:World} {o:Oper} {d:DV} {s':DS} {nid:Nat}
theorem L4{T:TypeId}{es m:Nat}{x:Operand}{news:List DV}(hs:HoldsB C U s β a w)(h:srcD s T es (s.ev x)=some (news,m)) :
  ∃ us:List Value,us.length=news.length/\(∀ u∈us,u.oneCell'=true)/\(∀ (j:Nat) (u:Value) (d:DV),us[j]?=some u->news[j]?=some d->WV C U (s.vw C) β w u d)/\
   ((∃ ad cap,a.eval x=.slice (some ad) m cap/\∀ (j:Nat) (u:Value),us[j]?=some u->w.cell? (ad.add j)=some u)\/(∃ cap,a.eval x=.slice none 0 cap/\m=0/\us=[])):=by
 have h1:=hs.ev x
 unfold srcD at h
 split at h
 .rename_i cs n hx
  cases h
  rw [hx] at h1
  rcases DI h1 with ⟨ad,cap,e1,rfl,rfl⟩ | ⟨ad,cap,us,e1,hl,hn,ha,rI,hc,hr⟩
  .refine ⟨[],rfl,by simp,by simp,?_⟩
   cases ad with
   | none=>exact .inr ⟨cap,e1,rfl,rfl⟩
   | some ad=>exact .inl ⟨ad,cap,e1,by simp⟩
  .exact ⟨us,hl,rI,λj u d hu hd=>wE (hr j u d hu hd),.inl ⟨ad,cap,e1,hc⟩⟩
 .rename_i cap hx
  cases h
  rw [hx] at h1
  exact ⟨[],rfl,by simp,by simp,.inr ⟨cap,El h1,rfl,rfl⟩⟩
 .rename_i ad cap hx
  cases h
  rw [hx] at h1
  exact ⟨[],rfl,by simp,by simp,.inl ⟨ad,cap,El h1,by simp⟩⟩
 .rename_i id off n es' hx
  rw [hx] at h1
  split at h
  .rename_i T' cs Jk
   split at h
   .rename_i qR
    obtain ⟨rfl,rfl,qR⟩:=qR
    cases h
    rcases I6 h1 with ⟨e1,rfl,rfl⟩ | ⟨b,cap,c,T,e1,hb,hw,hn,hm,Tz⟩
    .exact ⟨[],by simp,by simp,by simp,.inr ⟨0,e1,rfl,rfl⟩⟩
    .obtain ⟨c',bU,hl,_,hr⟩:=hs.row hb Jk
     rw [hw] at bU
     injection bU with bU
     injection bU with Sw hT
     subst hT Sw
     refine ⟨(c.toList.drop off).take (m*es'),by simp;omega,λu hu=>?_,λj u d hu hd=>?_,.inl ⟨_,cap,e1,λj u hu=>?_⟩⟩
     .obtain ⟨j,hj,rfl⟩:=Bx.1 hu
      have Xt:off+j<cs.length:=by simp at hj;omega
      refine (hr (off+j) _ cs[off+j] ?_ (Aa Xt)).2
      rw [Ew,Nc]
      simp
     .rw [Cx] at hu hd
      split at hu
      .rename_i hj
       rw [Ah hj] at hd
       exact (hr (off+j) u d (by simpa using hu) (by simpa using hd)).1
      .cases hu
     .rw [Cx] at hu
      split at hu
      .exact SJ hw j u hu
      .cases hu
   .cases h
  .cases h
 .cases h
theorem Cs6{T:TypeId}{es n:Nat}{Iy:Option Nat}{x:Operand}{cs:List DV}(hes:es=C.P.cellsOf T)(hs:HoldsB C U s β a w)(h:dstD s T es (s.ev x)=some (Iy,cs,n)) :
  ∃ xs:List Value,w.ownsRow 0 T es (a.eval x) n xs/\xs.length=cs.length/\(∀ (j:Nat) (u:Value) (d:DV),xs[j]?=some u->cs[j]?=some d->WV C U (s.vw C) β w u d/\u.oneCell'=true)/\
   (∀ b,(a.eval x).ownBlock=some b->∃ id,Iy=some id/\β id=some b)/\∀ id,Iy=some id->(s.ho id).isSome=true:=by
 have h1:=hs.ev x
 unfold dstD at h
 split at h
 .rename_i hx
  cases h
  rw [hx] at h1
  rw [El h1]
  exact ⟨[],World.ownsRow_nil w _ _ _,rfl,by simp,by simp [Value.ownBlock],by simp⟩
 .rename_i pF n' es' hx
  rw [hx] at h1
  split at h
  .rename_i T' G1 Jk
   split at h
   .rename_i hc
    obtain ⟨rfl,aXb,hlen⟩:=hc
    cases h
    subst es'
    rcases I6 h1 with ⟨e1,_,rfl⟩ | ⟨b,cap,c,T,e1,hb,hw,hn,hm,Tz⟩
    .have fD:cs=[]:=Ex (by simpa using hlen)
     subst fD
     rw [e1]
     exact ⟨[],World.ownsRow_nil w _ _ _,rfl,by simp,by simp [Value.ownBlock],λi hi=>by cases hi;rw [Jk];rfl⟩
    .obtain ⟨c',bU,hl,_,hr⟩:=hs.row hb Jk
     rw [hw] at bU
     injection bU with bU
     injection bU with Sw hT
     subst hT Sw
     have pj:(c.toList.take (n*es)).length=n*es:=by simp;omega
     refine ⟨c.toList.take (n*es),⟨pj,.inr ⟨b,cap,c,e1,Gf _,hw,hn,hm,by omega,rfl⟩⟩,by omega,λj u d hu hd=>?_,λb' Kj=>?_,λi hi=>by cases hi;rw [Jk];rfl⟩
     .rw [Cx] at hu
      split at hu
      .exact hr j u d (by simpa using hu) hd
      .cases hu
     .rw [e1] at Kj
      simp [Value.ownBlock] at Kj
      exact ⟨_,rfl,by rw [<- Kj];exact hb⟩
   .cases h
  .cases h
 .cases h
theorem Aq3{P:Program}(w:World)(base:Nat)(t ty e:TypeId)(i:TypeInfo)(size:Nat)(ht:P.underlying t=some (.slice e))(hi:P.info? e=some i)
  (v:Value) (n:Nat) (xs:List Value) (aH:w.ownsRow base e size v n xs) (c:Nat):(Builtin.append_ #[t,t] ty #[v,.slice none 0 c]).run P w=.ok v w:=by
 rcases aH.2 with ⟨rfl,rfl⟩ | ⟨g,cap,cur,rfl,_,_,B4,_⟩
 .simp [Builtin.append_,run_underlying ht,sizeOf,typeInfo,hi,Builtin.lenOf,Builtin.firstCells]
 .simp [Builtin.append_,run_underlying ht,sizeOf,typeInfo,hi,Builtin.lenOf,Builtin.firstCells,B4,storeCells]
def Bq4(β:Nat->Option Nat):Option Nat->Nat->Option Nat
 | none=>β
 | some i=>upd β i none
theorem Cs7{t T:TypeId}(R0:Sp C.P T=false){c:Call}{x y:Operand}{z:List Value}{es bytes n m:Nat}{Iy:Option Nat}{cs news:List DV}(ho:o.op=.call c)(hc:c.callee=.builtin .append)(Fh:c.args.toList=[x,y])(ml:c.argTypes.toList=[t,t])
  (ht:C.P.underlying t=some (.slice T)) (hz:Oy C.P T=some z) (Zb:z.length=C.P.cellsOf T) (hes:es=C.P.cellsOf T) (hby:bytes=C.P.bytesOf T) (hs:HoldsB C U s β a w) (Qd:¬ U nid) (hd:dstD s T es (s.ev x)=some (Iy,cs,n)) (lP:srcD s T es (s.ev y)=some (news,m))
  (hnl:news.length=m*es) (he:0<es) (cY:n+m<=2147483648) (bE:bytes<=65536):OpOk C (Un U nid) a w o (.ms nid 0 (n+m) es) (s.upd nid (.mv Iy (.row T (cs++news)))):=by
 obtain ⟨i,v,hi,hv,rfl,h1z⟩:=SI hz
 have Hq:C.P.cellsOf T=i.size:=by simp [Program.cellsOf,hi]
 have OC:C.P.bytesOf T=i.bytes:=by simp [Program.bytesOf,hi]
 have hA:c.args = #[x,y]:=by apply Gq;simpa using Fh
 have hT:c.argTypes = #[t,t]:=by apply Gq;simpa using ml
 obtain ⟨us,ul,u1,ur,ZR⟩:=L4 hs lP
 obtain ⟨xs,aH,xl,xr,mA,B7⟩:=Cs6 hes hs hd
 have hul:us.length=m*es:=by omega
 have key:∃ v' w',(Builtin.append_ #[t,t] o.type #[a.eval x,a.eval y]).run C.P w=.ok v' w'/\w'.ownsRow 0 T es v' (n+m) (xs++us)/\w.grownBy w' (a.eval x).ownBlock/\
   (v'.ownBlock=(a.eval x).ownBlock\/v'.ownBlock=some w.heap.size):=by
  rcases ZR with ⟨ad,cap,e1,Nx⟩ | ⟨cap,e1,rfl,rfl⟩
  .obtain ⟨v',w',r1,r2,r3,_,r5⟩:=run_append_own_at (P:=C.P) w 0 t o.type T i v es bytes ht hi hv (by omega) (by omega) (by have h:=Zb;rw [Ef] at h;omega) he (a.eval x) n xs aH ad m cap us hul Nx u1
    (by simp only [maxLen];omega) (by have:=Nat.mul_le_mul cY bE;omega) (Gf _)
   exact ⟨v',w',by rw [e1];exact r1,r2,r3,r5⟩
  .refine ⟨a.eval x,w,by rw [e1];exact Aq3 w _ t _ T i es ht hi _ _ _ aH cap,by simpa using aH,⟨rfl,rfl,rfl,Af _,λ_ _ _=>rfl⟩,.inl rfl⟩
 obtain ⟨v',w',Hl,pQ,hg,sd⟩:=key
 have R2:∀ b,v'.ownBlock=some b->0<=b/\b<w'.heap.size:=pQ.lt
 have Hu:∀ j,Iy=some j->j≠nid:=λj hj e=>Qd (e ▸ hs.hh.used (sK (B7 j hj)))
 have LD:=hs.turned (β':=upd (Bq4 β Iy) nid v'.ownBlock) (w':=w') Qd Iy B7 (.row T (cs++news))
  (λb hb Hu=>hg.block b hb (λe=>by obtain ⟨j,h1,h2⟩:=mA b e.symm;exact Hu j h1 h2))
  hg.os hg.tape hg.output hg.size
  (λj hj hjo=>by
   rw [tK _ _ hj]
   cases Iy with
   | none=>rfl
   | some i=>exact tK β _ (λe=>hjo (by rw [e])))
  (λj hj=>by
   rw [tK _ _ (Hu j hj)]
   subst hj
   exact Fl _ _ _)
  (λb hb=>by
   rw [Fl] at hb
   refine ⟨?_,(R2 b hb).2⟩
   rcases sd with h | h
   .exact .inl (mA b (by rw [<- h];exact hb))
   .rw [h] at hb;cases hb;exact .inr (Af _))
  (λCt=>by
   have VF:(cs++news).length=(n+m)*es:=by
    simp only [Bp]
    have h2:=aH.1
    rw [Gg];omega
   rcases pQ.2 with ⟨e1,e2⟩ | ⟨g,cap,cur,e1,vM,qg,B4,iD,fD,A5⟩
   .refine .inl ⟨by rw [Fl,e1];rfl,Ex (by rw [VF,e2];simp)⟩
   .refine .inr ⟨g,cur,by rw [Fl,e1];rfl,qg,by rw [VF,fD];exact Ep _ B4,λh=>(by rw [R0] at h;cases h),λj u d hu Ty=>?_⟩
    have hj:j<(n+m)*es:=by
     have:=(Ar.1 Ty).1
     omega
    have Pe:(xs++us)[j]?=some u:=by
     rw [<- A5,Lz hj]
     simpa using hu
    rw [Hc] at Pe Ty
    rw [xl] at Pe
    by_cases VH:j<cs.length
    .rw [Ah VH] at Pe Ty
     have:=xr j u d Pe Ty
     exact ⟨Ct _ _ this.1,this.2⟩
    .rw [Ae VH] at Pe Ty
     exact ⟨Ct _ _ (ur _ u d Pe Ty),u1 u (Aw Pe)⟩)
 refine ⟨.value v',w',_,_,?_,.inl rfl,LD.1,?_⟩
 .simp [execOp,ho,resolve,hc,hA,hT,invoke,builtin,Hl]
 .refine Y1 ?_ rfl
  rcases pQ.2 with ⟨e1,e2⟩ | ⟨g,cap,cur,e1,vM,qg,B4,iD,fD,A5⟩
  .rw [e1,e2];exact .ms0 nid es
  .have h2:upd (Bq4 β Iy) nid v'.ownBlock nid=some g:=by rw [Fl,e1];rfl
   rw [e1] at h2 ⊢
   exact .ms nid 0 _ es g cap cur T h2 qg B4 iD (by rw [fD];omega)
end ops
end Go.DD

/- Maps among the own objects: made, read, written, counted. Keys: bools, integers, strings. -/
namespace Go.DD
open Go.RowKit (Below)
theorem Bq5{d:TypeDesc}{v:Value}(h:TH d v=true):MapKept.IsKey d v:=by
 cases d <;> cases v <;> simp_all [TH,MapKept.IsKey]
theorem bytes_beq(a b:ByteArray):(a==b)=(a.data.toList==b.data.toList):=by
 obtain ⟨x⟩:=a
 obtain ⟨y⟩:=b
 show (x==y)=(x.toList==y.toList)
 rw [Bool.eq_iff_iff]
 simp only [Gl]
 exact ⟨λh=>by rw [h],λh=>Jf.1 h⟩
theorem A41(d:TypeDesc)(k x:Value):Wo d k x=Instr.sameNow d k x:=by
 cases d <;> cases k <;> cases x <;> simp [Wo,Instr.sameNow,bytes_beq]
theorem B38{kd:TypeDesc}{k x:Value}(h:Wo kd k x=some true):x=k:=by
 unfold Wo at h
 split at h
 .split at h
  .rename_i e;subst e;simp at h;rw [h]
  .cases h
 .simp only [Eg,Gl] at h
  congr 1
  rename_i x y
  obtain ⟨x⟩:=x
  obtain ⟨y⟩:=y
  simp only at h
  rw [Jf.1 h]
 .simp at h;rw [h]
 .cases h
theorem Bq6{kd:TypeDesc}{k:Value}(h:TH kd k=true):Instr.sameBits 10000 k k=true:=by
 unfold TH at h
 split at h
 .simp [Instr.sameBits]
 .simp [Instr.sameBits]
 .rw [Instr.sameBits,bytes_beq];simp
 .cases h
theorem bytes_inj{a b:ByteArray}(h:(a.toList==b.toList)=true):a=b:=by
 have e:a.toList=b.toList:=by simpa using h
 rw [ByteArray.toList_eq,ByteArray.toList_eq] at e
 obtain ⟨a⟩:=a
 obtain ⟨b⟩:=b
 congr 1
 exact Jf.1 e
theorem Bq7{ks:List Nat}{a b:Value}{r:Bool}(h:Pw (.f ks) a b=some r):∃ xs ys:Array Value,a=.agg xs/\b=.agg ys/\Qu ks (xs.toList.map .v) (ys.toList.map .v)=some r:=by
 cases a <;> cases b <;> simp only [Pw] at h <;> first | (cases h;done) | exact ⟨_,_,rfl,rfl,h⟩
theorem Bg5{ks:List Nat}{a:Value}(h:nN (.f ks) a=true):∃ xs:Array Value,a=.agg xs/\Hy ks xs.toList=true:=by
 cases a <;> simp only [nN] at h <;> first | (cases h;done) | exact ⟨_,rfl,h⟩
theorem B39{k:Nat}{x y:Value}(h:iQ k (.v x) (.v y)=some true):x=y:=by
 match k with
 | 0=>
  cases x <;> cases y <;> simp only [iQ] at h <;> first | (cases h;done) | skip
  split at h
  .rename_i hk;subst hk;simp at h;rw [h]
  .cases h
 | 1=>cases x <;> cases y <;> simp only [iQ] at h <;> first | (cases h;done) | (have:=(Im h);simp at this;rw [this])
 | 2=>cases x <;> cases y <;> simp only [iQ] at h <;> first | (cases h;done) | exact Rh Value.string (bytes_inj (by simpa using h))
 | k+3=>cases x <;> cases y <;> simp [iQ] at h
theorem Bg6:∀ {ks:List Nat} {xs ys:List Value},Qu ks (xs.map .v) (ys.map .v)=some true->xs=ys
 | [],[],[],_=>rfl
 | k::ks,x::xs,y::ys,h=>by
  simp only [Ao,Qu] at h
  split at h
  .rename_i hc;rw [B39 hc,Bg6 h]
  .cases h
  .cases h
 | [],_::_,_,h=>by simp [Qu] at h
 | [],[],_::_,h=>by simp [Qu] at h
 | _::_,[],_,h=>by simp [Qu] at h
 | _::_,_::_,[],h=>by simp [Qu] at h
structure KLaw (P:Program) (kt:TypeId) (kd:KD):Prop where
 chk:∀ (w:World) (e:Bool) (kv:Value),nN kd kv=true->(Instr.checkKey e 10000 kt kv).run P w=.ok () w
 one:∀ (kv x:Value),Pw kd kv x=some true->x=kv
 bits:∀ kv,nN kd kv=true->Instr.sameBits 10000 kv kv=true
 find:∀ (w:World) (kv:Value) (ms:List MapEntry) (es:List ME) (i:Nat) (r:Option (Nat×ME)),ms.length=es.length->(∀ (j:Nat) (e:MapEntry) (p:ME),ms[j]?=some e->es[j]?=some p->e.key=p.k)->findD kd kv es i=some r->
  (r=none/\∀ f,i=0->f=ms->(Instr.findKey kt kv f).run P w=.ok none w)\/∃ j e p,r=some (i+j,p)/\ms[j]?=some e/\es[j]?=some p/\(∀ f,i=0->f=ms->(Instr.findKey kt kv f).run P w=.ok (some (i+j,e.val)) w)/\Pw kd kv e.key=some true
theorem Bg7{d:TypeDesc}{k:Value} : ∀ (ms:List MapEntry) (es:List ME) (i:Nat) (r:Option (Nat×ME)),ms.length=es.length->(∀ (j:Nat) (e:MapEntry) (p:ME),ms[j]?=some e->es[j]?=some p->e.key=p.k)->
  findD (.p d) k es i=some r->(r=none/\Instr.findNow d k ms i=some none)\/
   ∃ j e p,r=some (i+j,p)/\ms[j]?=some e/\es[j]?=some p/\Instr.findNow d k ms i=some (some (i+j,e.val))/\Wo d k e.key=some true
 | [],[],i,r,_,_,h=>by simp [findD] at h;subst h;exact .inl ⟨rfl,rfl⟩
 | [],_::_,_,_,h,_,_=>by simp at h
 | _::_,[],_,_,h,_,_=>by simp at h
 | m::ms,p::ps,i,r,hl,hk,h=>by
  have Qs:m.key=p.k:=hk 0 m p rfl rfl
  simp only [findD,Pw] at h
  split at h
  .rename_i hs
   cases h
   refine .inr ⟨0,m,p,rfl,rfl,rfl,?_,by rw [Qs];exact hs⟩
   simp [Instr.findNow,<- A41,Qs,hs]
  .rename_i hs
   rcases Bg7 ms ps (i+1) r (by simpa using hl) (λj e q he hq=>hk (j+1) e q (by simpa using he) (by simpa using hq)) h with ⟨h1,h2⟩ | ⟨j,e,v,h1,h2,h3,h4,h5⟩
   .refine .inl ⟨h1,?_⟩
    simp [Instr.findNow,<- A41,Qs,hs,h2]
   .refine .inr ⟨j+1,e,v,by rw [h1];congr 2;omega,by simpa using h2,by simpa using h3,?_,h5⟩
    simp [Instr.findNow,<- A41,Qs,hs,h4];omega
  .cases h
theorem Cs8{P:Program}{kt:TypeId}{d:TypeDesc}(hu:P.underlying kt=some d):KLaw P kt (.p d) where
 chk:=λw e kv h=>MapKept.run_checkKey hu (Bq5 h) e 9999
 one:=λkv x h=>B38 h
 bits:=λkv h=>Bq6 h
 find:=λw kv ms es i r hl hk h=>by
  rcases Bg7 ms es i r hl hk h with ⟨h1,h2⟩ | ⟨j,e,p,h1,h2,h3,h4,h5⟩
  .exact .inl ⟨h1,λf hi hf=>by subst hi hf;exact MapKept.run_findKey hu h2⟩
  .exact .inr ⟨j,e,p,h1,h2,h3,λf hi hf=>by subst hi hf;exact MapKept.run_findKey hu h4,h5⟩
theorem Ca3{P:Program}{kt:TypeId}{ks:List Nat}(jQ:(match P.underlying kt with | some (.array _ _) | some (.struct _)=>true | _=>false)=true)
  (ri:∀ (w:World) (e:Bool) (cs:Array Value),Hy ks cs.toList=true->(Instr.checkKey e 10000 kt (.agg cs)).run P w=.ok () w)
  (heq:∀ (w:World) (xs ys:Array Value) (r:Bool),Qu ks (xs.toList.map .v) (ys.toList.map .v)=some r->(Op.equal kt (.agg xs) (.agg ys)).run P w=.ok r w):KLaw P kt (.f ks) where
 chk:=λw e kv h=>by
  obtain ⟨cs,rfl,h⟩:=Bg5 h
  exact ri w e _ h
 one:=λkv x h=>by
  obtain ⟨xs,ys,rfl,rfl,h⟩:=Bq7 h
  have:=Bg6 h
  rw [Jf.1 this]
 bits:=λkv h=>by
  obtain ⟨cs,rfl,h⟩:=Bg5 h
  .have key:∀ (ks:List Nat) (l:List Value),Hy ks l=true->∀ p∈l.zip l,(Instr.sameBits 9999 p.1 p.2)=true:=by
    intro ks l
    induction l generalizing ks with
    | nil=>simp
    | cons a l ih=>
     intro h p hp
     simp only [List.zip_cons_cons,Ak] at hp
     unfold Hy at h
     split at h
     .rename_i e;cases e
     .rename_i e;cases e
      rcases hp with rfl | hp
      .simp [Instr.sameBits]
      .exact ih _ h p hp
     .rename_i e;cases e
      rcases hp with rfl | hp
      .simp [Instr.sameBits]
      .exact ih _ h p hp
     .rename_i e;cases e
      rcases hp with rfl | hp
      .rw [Instr.sameBits,bytes_beq];simp
      .exact ih _ h p hp
     .cases h
   show Instr.sameBits (9999+1) (.agg cs) (.agg cs)=true
   simp only [Instr.sameBits,Ol,Kb,Ay]
   exact key ks cs.toList h
 find:=λw kv ms es i r hl hk h=>by
  have key:∀ (ms:List MapEntry) (es:List ME) (i:Nat) (r:Option (Nat×ME)),ms.length=es.length->(∀ (j:Nat) (e:MapEntry) (p:ME),ms[j]?=some e->es[j]?=some p->e.key=p.k)->findD (.f ks) kv es i=some r->
    (r=none/\(Instr.findAsking kt kv ms i).run P w=.ok none w)\/∃ j e p,r=some (i+j,p)/\ms[j]?=some e/\es[j]?=some p/\(Instr.findAsking kt kv ms i).run P w=.ok (some (i+j,e.val)) w/\Pw (.f ks) kv e.key=some true:=by
   intro ms
   induction ms with
   | nil=>
    intro es i r hl _ h
    cases es with
    | nil=>simp [findD] at h;subst h;exact .inl ⟨rfl,by simp [Instr.findAsking]⟩
    | cons _ _=>simp at hl
   | cons m ms ih=>
    intro es i r hl hk h
    cases es with
    | nil=>simp at hl
    | cons p ps=>
     have Qs:m.key=p.k:=hk 0 m p rfl rfl
     have Hl:∀ b,Pw (.f ks) kv p.k=some b->(Op.equal kt kv m.key).run P w=.ok b w:=by
      intro b hb
      rw [Qs]
      obtain ⟨xs,ys,e1,e2,hb⟩:=Bq7 hb
      rw [e1,e2]
      exact heq w _ _ b hb
     simp only [findD] at h
     split at h
     .rename_i hs
      cases h
      refine .inr ⟨0,m,p,rfl,rfl,rfl,?_,by rw [Qs];exact hs⟩
      simp [Instr.findAsking,Hl _ hs]
     .rename_i hs
      rcases ih ps (i+1) r (by simpa using hl) (λj e q he hq=>hk (j+1) e q (by simpa using he) (by simpa using hq)) h with ⟨h1,h2⟩ | ⟨j,e,v,h1,h2,h3,h4,h5⟩
      .exact .inl ⟨h1,by simp [Instr.findAsking,Hl _ hs,h2]⟩
      .refine .inr ⟨j+1,e,v,by rw [h1];congr 2;omega,by simpa using h2,by simpa using h3,?_,h5⟩
       simp [Instr.findAsking,Hl _ hs,h4];omega
     .cases h
  rcases key ms es i r hl hk h with ⟨h1,h2⟩ | ⟨j,e,p,h1,h2,h3,h4,h5⟩
  .exact .inl ⟨h1,λf hi hf=>by subst hi hf;rw [run_findKey_eq w jQ];exact h2⟩
  .exact .inr ⟨j,e,p,h1,h2,h3,λf hi hf=>by subst hi hf;rw [run_findKey_eq w jQ];exact h4,h5⟩
theorem Aq4{P:Program}{w:World}{t:TypeId}{k:Nat}{v:Value}(h:tI P t=some k)(e:Bool)(n:Nat)(hv:Hy [k] [v]=true):(Instr.checkKey e (n+1) t v).run P w=.ok () w:=by
 unfold tI at h
 unfold Instr.checkKey
 split at h <;> first | (cases h;done) | skip
 all_goals
  rename_i hu
  simp only [Sem.run_bind,run_underlying hu,Result.andThen_ok]
  cases h
  cases v <;> first | (simp [Hy] at hv;done) | rfl
theorem Ax3{k:Nat}{ks:List Nat}{l:List Value}(h:Hy (k::ks) l=true):∃ v l',l=v::l'/\Hy [k] [v]=true/\Hy ks l'=true:=by
 cases l with
 | nil=>unfold Hy at h;simp at h
 | cons v l=>
  refine ⟨v,l,rfl,?_⟩
  match k with
  | 0=>cases v <;> simp_all [Hy]
  | 1=>cases v <;> simp_all [Hy]
  | 2=>cases v <;> simp_all [Hy]
  | k+3=>cases v <;> simp [Hy] at h
theorem A89{P:Program}{t:TypeId}{k:Nat}(h:tI P t=some k)(w:World):(isAgg t).run P w=.ok false w:=by
 unfold tI at h
 simp only [isAgg,Sem.run_bind]
 split at h <;> first | (rename_i hu;rw [run_underlying hu];rfl) | cases h
theorem A42{P:Program}{w:World}{t:TypeId}{k:Nat}{x y:Value}{b:Bool}(hp:tI P t=some k)(h:iQ k (.v x) (.v y)=some b)(d:Nat):(Op.equalIn (d+1) t x y).run P w=.ok b w:=by
 unfold tI at hp
 unfold iQ at h
 split at h
 .rename_i e1 e2;cases e1;cases e2
  split at h
  .cases h
   rename_i hk
   subst hk
   split at hp <;> cases hp
   rename_i hu;exact run_equalIn_int w d _ _ _ _ _ hu
  .cases h
 .rename_i e1 e2;cases e1;cases e2
  cases h
  split at hp <;> cases hp
  rename_i hu;exact run_equalIn_bool' w d _ _ _ hu
 .rename_i e1 e2;cases e1;cases e2
  cases h
  split at hp <;> cases hp
  rename_i hu;exact run_equalIn_string w d _ _ _ hu
 .cases h
theorem KB{P:Program}{kt:TypeId}{kd:KD}(h:Yx P kt=some kd):KLaw P kt kd:=by
 unfold Yx at h
 split at h
 .rename_i fs hu
  split at h
  rotate_left
  .cases h
  rename_i Ro
  obtain ⟨ks,hf,rfl⟩:=Ag.1 h
  refine Ca3 (by rw [hu]) (λw e cs hc=>?_) (λw xs ys r hr=>?_)
  .show (Instr.checkKey e (9999+1) kt (.agg cs)).run P w=.ok () w
   rw [Instr.checkKey]
   simp only [Sem.run_bind,run_underlying hu,Result.andThen_ok]
   rw [<- Array.forIn_toList]
   have key:∀ (L:List Field) (ks:List Nat) (off:Nat),sI P off L=some ks->Hy ks (cs.toList.drop off)=true->
     (forIn L PUnit.unit (λ(f:Field) (_:PUnit)=>(do
      if f.name ≠ "_" then
       Instr.checkKey e 9999 f.type (<- part f.type cs f.offset)
       pure (ForInStep.yield PUnit.unit)
      else pure (ForInStep.yield PUnit.unit):Sem (ForInStep PUnit)))).run P w=.ok PUnit.unit w:=by
    intro L
    induction L with
    | nil=>intro ks off _ _;simp
    | cons f L ih=>
     intro ks off hk hc
     simp only [sI] at hk
     split at hk
     rotate_left
     .cases hk
     rename_i MO
     simp only [Bq,bne_iff_ne,ne_eq,Gl] at MO
     obtain ⟨hn,ho⟩:=MO
     obtain ⟨k,hp,hk⟩:=Bg.1 hk
     obtain ⟨ko,Zc,rfl⟩:=Ag.1 hk
     obtain ⟨v,l',e1,hv,hl⟩:=Ax3 hc
     have Fb:off<cs.toList.length:=by
      rcases Cj off cs.toList.length with h1 | h1
      .exact h1
      .rw [Av h1] at e1;cases e1
     rw [As Fb] at e1
     injection e1 with e1 e2
     have px:(part f.type cs f.offset).run P w=.ok v w:=by
      subst ho
      simp at e1 Fb
      simp [part,A89 hp w,Fb,e1]
     have pc:=Aq4 (w:=w) hp e 9998 hv
     rw [<- e2] at hl
     simp only [List.forIn_cons,Sem.run_bind,hn,ne_eq,Th,Ip,Result.andThen_ok,px,pc,Sem.run_pure]
     exact ih ko (off+1) Zc hl
   have:=key fs.toList ks 0 hf (by simpa using hc)
   rw [this];rfl
  .have kA:P.fieldsOf kt=fs:=by simp [Program.fieldsOf,hu]
   have he:=Bq1 (w:=w) (β:=λ_=>none) (P:=P) (al:=λ_=>True) 9998 fs.toList ks 0 xs.toList ys.toList (xs.toList.map .v) (ys.toList.map .v) r hf (by simpa using hr) (by simp) (by simp)
    (λj u d hu hd=>by simp only [Df,hu,Cb,Eg] at hd;subst hd;exact .imm _ _ (.v u)) (λj u d hu hd=>by simp only [Df,hu,Cb,Eg] at hd;subst hd;exact .imm _ _ (.v u))
   have h3:=run_equalIn_struct (P:=P) w 9999 kt xs ys (by rw [kA];exact hu) Ro
   rw [kA] at h3
   exact h3.trans (by simpa using he)
 .rename_i n el hu
  split at h
  rotate_left
  .cases h
  rename_i MM
  obtain ⟨k,hp,rfl⟩:=Ag.1 h
  obtain ⟨_,Hq,inf,hi,qF⟩:=YR MM (default:World)
  have Hq:∀ w,(sizeOf el).run P w=.ok 1 w:=λw=>(YR MM w).2.1
  have px:∀ (w:World) (cs:Array Value) (off:Nat) (v:Value),cs[off]?=some v->(part el cs off).run P w=.ok v w:=λw cs off v hv=>by simp [part,A89 hp w,hv]
  refine Ca3 (by rw [hu]) (λw e cs hc=>?_) (λw xs ys r hr=>?_)
  .show (Instr.checkKey e (9999+1) kt (.agg cs)).run P w=.ok () w
   rw [Instr.checkKey]
   simp only [Sem.run_bind,run_underlying hu,Result.andThen_ok]
   simp only [Std.Legacy.Range.forIn_eq_forIn_range',Std.Legacy.Range.size,Nat.sub_zero,Nat.add_one_sub_one,Nat.div_one]
   have key:∀ (m off:Nat),Hy (List.replicate m k) (cs.toList.drop off)=true->
     (forIn (List.range' off m) PUnit.unit (λ(i:Nat) (_:PUnit)=>(do
      Instr.checkKey e 9999 el (<- part el cs (i*(<- sizeOf el)))
      pure (ForInStep.yield PUnit.unit):Sem (ForInStep PUnit)))).run P w=.ok PUnit.unit w:=by
    intro m
    induction m with
    | zero=>intro off _;simp
    | succ m ih=>
     intro off hc
     rw [Ja] at hc
     obtain ⟨v,l',e1,hv,hl⟩:=Ax3 hc
     have Fb:off<cs.toList.length:=by
      rcases Cj off cs.toList.length with h1 | h1
      .exact h1
      .rw [Av h1] at e1;cases e1
     rw [As Fb] at e1
     injection e1 with e1 e2
     have cU:cs[off]?=some v:=by
      rw [<- e1];simp at Fb;simp [Fb]
     have pc:=Aq4 (w:=w) hp e 9998 hv
     rw [<- e2] at hl
     rw [List.range'_succ]
     simp only [List.forIn_cons,Sem.run_bind,Hq,Result.andThen_ok,Zv,px w cs off v cU,pc,Sem.run_pure]
     exact ih (off+1) hl
   have:=key n 0 (by simpa using hc)
   rw [this];rfl
  .have R7:∀ (m off:Nat),Qu (List.replicate m k) ((xs.toList.drop off).map .v) ((ys.toList.drop off).map .v)=some r->(Op.eqItems 9999 el 1 xs ys (List.range' off m)).run P w=.ok r w:=by
    intro m
    induction m with
    | zero=>
     intro off h
     simp only [List.replicate_zero] at h
     unfold Qu at h
     split at h <;> simp_all [Op.eqItems]
    | succ m ih=>
     intro off h
     rw [Ja] at h
     have hc:off<xs.toList.length:=by
      rcases Cj off xs.toList.length with h1 | h1
      .exact h1
      .rw [Av h1] at h;simp [Qu] at h
     have hd:off<ys.toList.length:=by
      rcases Cj off ys.toList.length with h1 | h1
      .exact h1
      .rw [Av h1] at h;simp [Qu] at h
     rw [As hc,As hd] at h
     simp only [Ao,Qu] at h
     have gx:=px w xs off xs.toList[off] (by simp at hc;simp [hc])
     have gy:=px w ys off ys.toList[off] (by simp at hd;simp [hd])
     rw [List.range'_succ]
     cases hq:iQ k (.v xs.toList[off]) (.v ys.toList[off]) with
     | none=>rw [hq] at h;cases h
     | some b=>
      rw [hq] at h
      have pe:=A42 (w:=w) hp hq 9998
      simp only [Op.eqItems,Sem.run_bind,Zv,gx,gy,pe,Result.andThen_ok]
      cases b
      .simp at h;subst h;simp
      .simpa using ih (off+1) h
   show (Op.equalIn (9999+1) kt (.agg xs) (.agg ys)).run P w=.ok r w
   rw [run_equalIn_array w 9999 xs ys hu hi]
   have T5:P.cellsOf el=1:=by unfold Program.cellsOf;simp [hi,qF]
   rw [T5,List.range_eq_range']
   exact R7 n 0 (by simpa using hr)
 .rename_i d B5 bC hu
  cases h
  exact Cs8 hu
 .cases h
theorem Bq8{P:Program}{w:World}{al:Nat->Prop}{β:Nat->Option Nat} : ∀ {us:List Value} {cs:List DV} {l:List Value},oB cs=some l->us.length=cs.length->(∀ (j:Nat) (u:Value) (d:DV),us[j]?=some u->cs[j]?=some d->Rel P w al β u d)->us=l
 | us,[],l,h,hl,_=>by simp [oB] at h;subst h;simpa using hl
 | [],_::_,_,_,hl,_=>by simp at hl
 | u::us,c::cs,l,h,hl,hr=>by
  unfold oB at h
  split at h
  .rename_i e;cases e
  .rename_i x l' e;cases e
   split at h
   .obtain ⟨r,bY,rfl⟩:=Ag.1 h
    have e1:u=x:=El (hr 0 u _ rfl rfl)
    have e2:us=r:=Bq8 bY (by simpa using hl) λj u d hu hd=>hr (j+1) u d (by simpa using hu) (by simpa using hd)
    rw [e1,e2]
   .cases h
  .cases h
theorem zR{P:Program}{w:World}{al:Nat->Prop}{β:Nat->Option Nat}{x kv:Value}{d:DV}(h:Rel P w al β x d)(hk:Ya d=some kv):x=kv:=by
 unfold Ya at hk
 split at hk
 .cases hk;exact El h
 .rename_i cs
  obtain ⟨l,hl,rfl⟩:=Ag.1 hk
  obtain ⟨vs,rfl,h1,_,h2⟩:=SA h
  rw [Bq8 hl h1 h2]
 .cases hk
section ops
variable {C:Ctx} {U:Nat->Prop} {s:DS} {β:Nat->Option Nat} {a:Act} {w:World} {o:Oper} {d:DV} {s':DS} {nid:Nat}
theorem HoldsB.mapo{id b ck:Nat}{es:List ME}(hs:HoldsB C U s β a w)(hb:β id=some b)(ho:s.ho id=some (.mapo ck es)) :
  ∃ ms,w.heap[b]?=some (.map ms ck)/\ms.size=es.length/\∀ (j:Nat) (e:MapEntry) (p:ME),ms[j]?=some e->es[j]?=some p->e.key=p.k/\e.born=p.b/\WV C U (s.vw C) β w e.val p.v:=by
 obtain ⟨b',ms,Kj,h1,h2,h4⟩:=hs.hh.hp id _ (mV ho)
 rw [hb] at Kj;cases Kj
 exact ⟨ms,h1,h2,h4⟩
theorem Cs9{t:TypeId}(ho:o.op=.makeMap t none)(hs:HoldsB C U s β a w)(hn:¬ U nid):OpOk C (Un U nid) a w o (.mp nid) (s.upd nid (.lay (.mapo 0 []))):=by
 have Oh:=CL w (.map #[] 0)
 have hf:=(hs.turned (β':=upd β nid (some w.heap.size)) (w':=w.alloc (.map #[] 0)) hn none (λ_ h=>by cases h) (.mapo 0 []) (λb hb _=>Oh.block b hb) Oh.os Oh.tape Oh.output Oh.size (λj hj _=>tK β _ hj) (λ_ h=>by cases h)
  (λb hb=>by rw [Fl] at hb;cases hb;exact ⟨.inr (Af _),by simp⟩) (λ_=>⟨_,#[],Fl _ _ _,heap_alloc_new w _,rfl,by simp⟩)).1
 refine ⟨.value (.map (some w.heap.size)),_,_,_,?_,.inl rfl,hf,Y1 (.mp nid _ (by simp)) rfl⟩
 simp [execOp,ho,Instr.makeMap]
theorem Ax4{V:Nat->Option DObj}{ok b:Bool}{x:Value}{v:DV}(h:WV C U V β w x v):WV C U V β w (if ok then .tuple #[x,.bool b] else x) (Io ok v b):=by
 unfold Io
 cases ok
 .exact h
 .refine ⟨λid hi=>?_,λha=>.tup [x,.bool b] _ rfl λj u d hu hd=>?_,TP.of_wv (C:=C) (U:=U) (V:=V) (β:=β) (w:=w) (us:=[x,.bool b]) rfl λj u d hu hd=>?_⟩
  .simp [DV.refs,DV.refsL] at hi;exact h.1 id hi
  .match j with
   | 0=>simp at hu hd;subst hu hd;exact h.2.1 λid hi=>ha id (by simp [DV.refs,DV.refsL,hi])
   | 1=>simp at hu hd;subst hu hd;exact .imm _ _ (.v _)
   | j+2=>simp at hu
  .match j with
   | 0=>simp at hu hd;subst hu hd;exact h
   | 1=>simp at hu hd;subst hu hd;exact WV.v _
   | j+2=>simp at hu
theorem B40{P:Program}{et:TypeId}{z:Value}(hz:(P.info? et).bind (·.zero)=some z)(w:World):(zeroValue et:Sem Value).run P w=.ok z w:=by
 obtain ⟨i,hi,hz'⟩:=Bg.1 hz
 simp [zeroValue,typeInfo,hi,hz']
theorem Ct0{t kt et:TypeId}{kd:KD}{x k:Operand}{ok:Bool}{kv z:Value}(ho:o.op=.lookup t x k ok)(ht:C.P.underlying t=some (.map kt et))(jY:Yx C.P kt=some kd)
  (hz:(C.P.info? et).bind (·.zero)=some z) (hs:HoldsB C U s β a w) (hk:Ya (s.ev k)=some kv) (Qs:nN kd kv=true) :
  (s.ev x=.v (.map none)->OpOk C U a w o (Io ok (.v z) false) s)/\
  (∀ id ck es r,s.ev x=.mp id->s.ho id=some (.mapo ck es)->findD kd kv es 0=some r->OpOk C U a w o (match r with | some p=>Io ok p.2.v true | none=>Io ok (.v z) false) s):=by
 have AO:a.eval k=kv:=zR (hs.ev k) hk
 have L:=KB jY
 have hzero:=B40 hz w
 have D3:∀ e,(Instr.checkKey e 10000 kt kv).run C.P w=.ok () w:=λe=>L.chk w e kv Qs
 refine ⟨λhx=>?_,λid ck es r hx hid hf=>?_⟩
 .have eQ:a.eval x=.map none:=by have:=hs.ev x;rw [hx] at this;exact El this
  refine .same hs (x:=if ok then .tuple #[z,.bool false] else z) ?_ (Ax4 (WV.v z))
  rcases L.find w kv [] [] 0 none rfl (by simp) rfl with ⟨_,h2⟩ | ⟨j,e,p,h1,_⟩
  .have vJ:=h2 [] rfl rfl
   simp [execOp,ho,Instr.lookup,run_underlying ht,eQ,AO,D3,vJ,hzero,Result.andThen]
  .cases h1
 .have h1:=hs.ev x
  rw [hx] at h1
  obtain ⟨b,eQ,hb⟩:=TF h1
  obtain ⟨ms,hm,Hq,Ct⟩:=hs.mapo hb hid
  have hg:(getObj b).run C.P w=.ok (.map ms ck) w:=MapKept.run_getObj_map hm
  rcases L.find w kv ms.toList es 0 r (by simpa using Hq) (λj e p he hp=>(Ct j e p (by simpa using he) hp).1) hf with ⟨rfl,h2⟩ | ⟨j,e,v,rfl,h2,h3,h4,_⟩
  .refine .same hs (x:=if ok then .tuple #[z,.bool false] else z) ?_ (Ax4 (WV.v z))
   have vJ:=h2 _ rfl rfl
   simp [execOp,ho,Instr.lookup,run_underlying ht,eQ,AO,D3,hg,vJ,hzero,Result.andThen]
  .refine .same hs (x:=if ok then .tuple #[e.val,.bool true] else e.val) ?_ (Ax4 (Ct j e _ (by simpa using h2) h3).2.2)
   have vJ:=h4 _ rfl rfl
   simp [execOp,ho,Instr.lookup,run_underlying ht,eQ,AO,D3,hg,vJ,Result.andThen]
theorem Ct1{t kt et:TypeId}{c:Call}{x:Operand}(ho:o.op=.call c)(hc:c.callee=.builtin .len)(Fh:c.args.toList=[x])(ht:c.argTypes[0]?=some t)(hu:C.P.underlying t=some (.map kt et))(hs:HoldsB C U s β a w) :
  (s.ev x=.v (.map none)->OpOk C U a w o (.v (.int .i64 0)) s)/\(∀ id ck es,s.ev x=.mp id->s.ho id=some (.mapo ck es)->OpOk C U a w o (.v (.int .i64 es.length)) s):=by
 have hA:c.args = #[x]:=by apply Gq;simpa using Fh
 refine ⟨λhx=>?_,λid ck es hx hid=>?_⟩
 .have eQ:a.eval x=.map none:=by have:=hs.ev x;rw [hx] at this;exact El this
  refine .same hs (x:=.int .i64 0) ?_ (WV.v _)
  simp [execOp,ho,resolve,hc,hA,invoke,builtin,Builtin.len_,ht,eQ,run_underlying hu,goInt]
 .have h1:=hs.ev x
  rw [hx] at h1
  obtain ⟨b,eQ,hb⟩:=TF h1
  obtain ⟨ms,hm,Hq,_⟩:=hs.mapo hb hid
  have hg:(getObj b).run C.P w=.ok (.map ms ck) w:=MapKept.run_getObj_map hm
  refine .same hs (x:=.int .i64 es.length) ?_ (WV.v _)
  simp [execOp,ho,resolve,hc,hA,invoke,builtin,Builtin.len_,ht,eQ,run_underlying hu,hg,goInt,Hq,Result.andThen]
theorem Bq9{id b ck ck':Nat}{ms ms':Array MapEntry}{es es':List ME}{nx:Next}{x:Value}(hs:HoldsB C U s β a w)(hb:β id=some b)(hid:s.ho id=some (.mapo ck es))(hm:w.heap[b]?=some (.map ms ck))
  (h1:ms'.size=es'.length)
  (h3:∀ (V':Nat->Option DObj) (w':World),(∀ x d,WV C U (s.vw C) β w x d->WV C U V' β w' x d)->∀ (j:Nat) (e:MapEntry) (p:ME),ms'[j]?=some e->es'[j]?=some p->e.key=p.k/\e.born=p.b/\WV C U V' β w' e.val p.v)
  (Hl:(execOp a.eval o).run C.P w=.ok nx { w with heap:=w.heap.setIfInBounds b (.map ms' ck') }) (Vm:nx=.value x\/(nx=.skip/\x=undef)) (hd:WV C U (s.vw C) β w x d):OpOk C U a w o d (s.upd nid (.wr id (.mapo ck' es'))):=by
 have T8:b<w.heap.size:=(Ck.1 hm).1
 have hw:=hs.wrote nid id b (.mapo ck' es') (w':={ w with heap:=w.heap.setIfInBounds b (.map ms' ck') }) hb (by rw [hid];rfl) (λk hk=>by simp [Ix (Hj hk)]) (by simp) rfl rfl rfl
  (λc T hc=>by rw [hm] at hc;cases hc) (λUk=>⟨b,ms',hb,by simp [T8],h1,h3 _ _ Uk⟩)
 exact ⟨nx,_,β,x,Hl,Vm,hw.1,hw.2 _ _ hd⟩
theorem Ct2{t kt et:TypeId}{kd:KD}{x k y:Operand}{kv:Value}{id ck ck':Nat}{es es':List ME}(ho:o.op=.mapUpdate t x k y\/o.op=.insert t x k y)(ht:C.P.underlying t=some (.map kt et))(jY:Yx C.P kt=some kd)
  (hs:HoldsB C U s β a w) (hk:Ya (s.ev k)=some kv) (Qs:nN kd kv=true) (hx:s.ev x=.mp id) (hid:s.ho id=some (.mapo ck es)) (hp:Qm kd kv (s.ev y) ck es=some (ck',es')):OpOk C U a w o .any (s.upd nid (.wr id (.mapo ck' es'))):=by
 have AO:a.eval k=kv:=zR (hs.ev k) hk
 have L:=KB jY
 have D3:∀ e,(Instr.checkKey e 10000 kt kv).run C.P w=.ok () w:=λe=>L.chk w e kv Qs
 have h1:=hs.ev x
 rw [hx] at h1
 obtain ⟨b,eQ,hb⟩:=TF h1
 obtain ⟨ms,hm,Hq,Ct⟩:=hs.mapo hb hid
 have hg:(getObj b).run C.P w=.ok (.map ms ck) w:=MapKept.run_getObj_map hm
 have Is:∀ o',(setObj b o').run C.P w=.ok () { w with heap:=w.heap.setIfInBounds b o' }:=λo'=>MapKept.run_setObj_map o' hm
 have B0:∀ w',(Instr.mapUpdate t (a.eval x) (a.eval k) (a.eval y)).run C.P w=.ok () w'->(execOp a.eval o).run C.P w=.ok .skip w':=λw' h=>by
  rcases ho with ho | ho <;> simp [execOp,ho,h]
 unfold Qm at hp
 split at hp
 .rename_i i e hf
  cases hp
  rcases L.find w kv ms.toList es 0 _ (by simpa using Hq) (λj e p he hp=>(Ct j e p (by simpa using he) hp).1) hf with ⟨h2,_⟩ | ⟨j,e0,v',h2,h3,h4,h5,h6⟩
  .cases h2
  .simp only [Er,Eg,Prod.mk.injEq] at h2
   obtain ⟨rfl,rfl⟩:=h2
   have hek:e0.key=kv:=L.one _ _ h6
   have VI:ms[i]?=some e0:=by simpa using h3
   have aWx:i<ms.size:=(Ck.1 VI).1
   refine Bq9 (ms':=ms.modify i λe=>{ e with key:=kv,val:=a.eval y }) (x:=undef) hs hb hid hm (by simpa using Hq) (λV' w' cG j e' p Ty Ap=>?_) (B0 _ ?_) (.inr ⟨rfl,rfl⟩) WV.any
   .rw [Array.getElem?_modify] at Ty
    rw [List.getElem?_set] at Ap
    by_cases Nm:i=j
    .subst Nm
     rw [Ah rfl] at Ty Ap
     split at Ap
     .cases Ap
      rw [VI] at Ty
      simp only [Cb,Eg] at Ty
      subst Ty
      exact ⟨rfl,(Ct i e0 e VI h4).2.1,cG _ _ (hs.evw y)⟩
     .cases Ap
    .rw [Ae Nm] at Ty Ap
     have:=Ct j e' p Ty Ap
     exact ⟨this.1,this.2.1,cG _ _ this.2.2⟩
   .have vJ:=h5 _ rfl rfl
    simp [Instr.mapUpdate,run_underlying ht,eQ,AO,D3,hg,vJ,VI,hek,Instr.keyThatStays,L.bits kv Qs,Is,Result.andThen]
 .rename_i hf
  cases hp
  rcases L.find w kv ms.toList es 0 _ (by simpa using Hq) (λj e p he hp=>(Ct j e p (by simpa using he) hp).1) hf with ⟨_,h2⟩ | ⟨j,e,v',h2,_⟩
  .refine Bq9 (ms':=ms.push { key:=kv,val:=a.eval y,born:=ck }) (x:=undef) hs hb hid hm (by simp [Hq]) (λV' w' cG j e' p Ty Ap=>?_) (B0 _ ?_) (.inr ⟨rfl,rfl⟩) WV.any
   .rw [Array.getElem?_push] at Ty
    by_cases hj:j=ms.size
    .subst hj
     rw [Ah rfl] at Ty
     cases Ty
     rw [Hq] at Ap
     simp at Ap
     subst Ap
     exact ⟨rfl,rfl,cG _ _ (hs.evw y)⟩
    .rw [Ae hj] at Ty
     have Xt:j<ms.size:=(Ck.1 Ty).1
     rw [Cm (by omega)] at Ap
     have:=Ct j e' p Ty Ap
     exact ⟨this.1,this.2.1,cG _ _ this.2.2⟩
   .have vJ:=h2 _ rfl rfl
    simp [Instr.mapUpdate,run_underlying ht,eQ,AO,D3,hg,vJ,Is,Result.andThen]
  .cases h2
 .cases hp
end ops
end Go.DD

/- Iterators of maps, interface values, slices of arrays, copies. -/
namespace Go.DD
open Go.RowKit (Below)
section ops
variable {C:Ctx} {U:Nat->Prop} {s:DS} {β:Nat->Option Nat} {a:Act} {w:World} {o:Oper} {d:DV} {s':DS} {nid:Nat}
theorem Ck2{V:Nat->Option DObj} : WV C U V β w (.tuple #[.bool false]) (.tup [.v (.bool false)]):=
 WV.flat (.tup [.bool false] _ rfl λj u d hu hd=>by
  match j with
  | 0=>simp at hu hd;subst hu hd;exact .imm _ _ (.v _)
  | j+1=>simp at hu) rfl
theorem Ct3{k:Bool}{x:Operand}{l:List (DV×Upd)}(_:o.op=if k then .entry x else .next x false)(_:HoldsB C U s β a w)(h:oT s k x=some l):∃ p∈l,OpOk C U a w o p.1 (s.upd nid p.2):=by cases h
theorem Ct4{t:TypeId}{x:Operand}{b:ByteArray}(ho:o.op=.range t x)(ht:C.P.underlying t=some .string)(hs:HoldsB C U s β a w)(hn:¬ U nid)(hx:s.ev x=.v (.string b)):OpOk C (Un U nid) a w o (.pt nid 0) (s.upd nid (.lay (.siter b 0))):=by
 have eQ:a.eval x=.string b:=by have:=hs.ev x;rw [hx] at this;exact El this
 have Oh:=CL w (.stringIter b 0)
 have hf:=(hs.turned (β':=upd β nid (some w.heap.size)) (w':=w.alloc (.stringIter b 0)) hn none (λ_ h=>by cases h) (.siter b 0) (λb hb _=>Oh.block b hb) Oh.os Oh.tape Oh.output Oh.size (λj hj _=>tK β _ hj) (λ_ h=>by cases h)
  (λb hb=>by rw [Fl] at hb;cases hb;exact ⟨.inr (Af _),by simp⟩) (λCt=>⟨_,Fl _ _ _,heap_alloc_new w _⟩)).1
 refine ⟨.value (.pointer (some ⟨w.heap.size,0,none⟩)),_,_,_,?_,.inl rfl,hf,Y1 (.pt nid 0 _ (by simp)) rfl⟩
 simp [execOp,ho,eQ,Instr.range,run_underlying ht]
theorem B41{V:Nat->Option DObj}(x y z:Value):WV C U V β w (.tuple #[x,y,z]) (.tup [.v x,.v y,.v z]):=
 WV.flat (.tup [x,y,z] _ rfl λj u d hu hd=>by
  match j with
  | 0=>simp at hu hd;subst hu hd;exact .imm _ _ (.v _)
  | 1=>simp at hu hd;subst hu hd;exact .imm _ _ (.v _)
  | 2=>simp at hu hd;subst hu hd;exact .imm _ _ (.v _)
  | j+3=>simp at hu) rfl
theorem Ca4{x:Operand}{id pos:Nat}{t:ByteArray}(ho:o.op=.next x true)(hs:HoldsB C U s β a w)(hx:s.ev x=.pt id 0)(hid:s.ho id=some (.siter t pos)) :
  (pos<t.size->OpOk C U a w o (.tup [.v (.bool true),.v (.int .i64 (pos:Nat)),.v (.int .i32 ((Utf8.decode t pos).1:Nat))]) (s.upd nid (.wr id (.siter t (pos+(Utf8.decode t pos).2)))))/\
  (¬ pos<t.size->OpOk C U a w o (.tup [.v (.bool false)]) s):=by
 have h1:=hs.ev x
 rw [hx] at h1
 obtain ⟨b,eQ,hb⟩:=tE h1
 obtain ⟨b',Kj,AS⟩:=hs.hh.hp id _ (mV hid)
 rw [hb] at Kj;cases Kj
 have hgi:(getObj b).run C.P w=.ok (.stringIter t pos) w:=by simp [getObj,Sem.run,AS]
 have Is:∀ o',(setObj b o').run C.P w=.ok () { w with heap:=w.heap.setIfInBounds b o' }:=λo'=>by simp [setObj,Sem.run,AS]
 have T8:b<w.heap.size:=(Ck.1 AS).1
 refine ⟨λhp=>?_,λhp=>?_⟩
 .have hw:=hs.wrote nid id b (.siter t (pos+(Utf8.decode t pos).2)) (w':={ w with heap:=w.heap.setIfInBounds b (.stringIter t (pos+(Utf8.decode t pos).2)) }) hb (by rw [hid];rfl)
   (λk hk=>by simp [Ix (Hj hk)]) (by simp) rfl rfl rfl (λc T hc=>by rw [AS] at hc;cases hc)
   (λUk=>⟨b,hb,by simp [T8]⟩)
  refine ⟨.value (.tuple #[.bool true,.int .i64 (pos:Nat),.int .i32 ((Utf8.decode t pos).1:Nat)]),_,β,_,?_,.inl rfl,hw.1,B41 _ _ _⟩
  simp [execOp,ho,eQ,Instr.next,hgi,hp,Is,goInt,Result.andThen]
 .exact .same hs (x:=.tuple #[.bool false]) (by simp [execOp,ho,eQ,Instr.next,hgi,hp,Result.andThen]) Ck2
end ops
end Go.DD

/- All operations that are no calls, in one. -/
namespace Go.DD
open Go.RowKit (Below)
theorem A43{C:Ctx}{U:Nat->Prop}{s:DS}{β:Nat->Option Nat}{a:Act}{w:World}{o:Oper}{d:DV}{u:Upd}{nid:Nat}{op:DOp}(hs:HoldsB C U s β a w)(hn:¬ U nid)
  (hc:lE C.P o.op=some op) (he:Bb nid s op=some (d,u)):OpOk C (Ux U nid u) a w o d (s.upd nid u):=by
 have MT:∀ t x k y kd,o.op=.mapUpdate t x k y\/o.op=.insert t x k y->jO C.P t=some kd->op=.mup kd x k y->OpOk C (Ux U nid u) a w o d (s.upd nid u):=by
  rintro t x k y kd ho jY rfl
  unfold jO at jY
  split at jY
  .rename_i kt et ht
   simp only [Bb] at he
   split at he
   .rename_i kv hk
    split at he
    .rename_i Qs
     split at he
     .rename_i id hx
      split at he
      .rename_i ck es hid
       split at he
       .rename_i p hp;cases he;exact Ct2 ho ht jY hs hk Qs hx hid (ck':=p.1) (es':=p.2) hp
       .cases he
      .cases he
     .cases he
    .cases he
   .cases he
  .cases jY
 unfold lE at hc
 split at hc
 case h_1 x ho=>cases hc;simp [Bb] at he;obtain ⟨rfl,rfl⟩:=he;exact xZ (.inl ho) hs
 case h_2 x ho=>cases hc;simp [Bb] at he;obtain ⟨rfl,rfl⟩:=he;exact xZ (.inr ho) hs
 case h_3 c x y ho=>
  cases hc
  simp only [Bb] at he
  split at he
  .rename_i t ht;cases he;exact Cj8 ho hs ht
  .cases he
 case h_4 T ho=>
  obtain ⟨z,hz,rfl⟩:=Ag.1 hc
  simp [Bb] at he;obtain ⟨rfl,rfl⟩:=he
  exact IT ho hz hs hn
 case h_5 T x ho=>
  cases hc
  simp only [Bb] at he
  split at he
  .rename_i hx;cases he;exact IQ ho hs hn hx
  .cases he
 case h_6 t ps ho=>
  split at hc
  .rename_i fs z ht hz
   split at hc
   .cases hc
   .rename_i Ks
    obtain ⟨l,hl,rfl⟩:=Ag.1 hc
    simp only [Bb] at he
    split at he
    .rename_i cs hf
     cases he
     exact Cs3 ho ht hz (by
      have h2:(fs.toList.all λf=>C.P.cellsOf f.type != 0)=true:=by simpa using Ks
      intro f hf'
      have:=Ay.1 h2 f hf'
      simpa using this) hl hs hf
    .cases he
  .cases hc
 case h_7 t n ps ho=>
  split at hc
  .rename_i e ht
   obtain ⟨z,hz,hc⟩:=Bg.1 hc
   split at hc
   .rename_i AJ
    cases hc
    simp only [Bb] at he
    split at he
    .rename_i cs hf
     split at he
     .rename_i Zb
      cases he
      exact Cs4 AJ.1 ho ht hz AJ.2.1 AJ.2.2 Zb hs hn hf
     .cases he
    .cases he
   .cases hc
  .cases hc
 case h_8 t x ho=>
  obtain ⟨k,hk,rfl⟩:=Ag.1 hc
  simp only [Bb] at he
  split at he
  .rename_i cs hx
   obtain ⟨d',hp,he⟩:=Ag.1 he
   cases he
   exact B35 ho hk hs hx hp
  .rename_i id off hx
   split at he
   .rename_i T cs hid
    obtain ⟨d',hp,he⟩:=Ag.1 he
    cases he
    exact B36 ho hk hs hx hid hp
   .cases he
  .cases he
 case h_9 t x y ho=>
  obtain ⟨k,hk,rfl⟩:=Ag.1 hc
  simp only [Bb] at he
  split at he
  .rename_i id off hx
   split at he
   .rename_i T cs hid
    split at he
    .rename_i qT
     cases he
     exact IP ho hk rfl hs hx hid qT.1 qT.2.1 qT.2.2
    .cases he
   .cases he
  .cases he
 case h_10 x ho=>
  cases hc
  simp only [Bb] at he
  have key:(d,u)=(s.ev x,Upd.keep)/\((∃ cs,s.ev x=.ia cs)\/(∃ id off,s.ev x=.pt id off)\/(∃ f cs,s.ev x=.fn (.func f) cs)\/∃ T d,s.ev x=.ifc T d):=by
   split at he
   .rename_i cs hx;cases he;exact ⟨by rw [hx],.inl ⟨_,hx⟩⟩
   .rename_i id off hx;cases he;exact ⟨by rw [hx],.inr (.inl ⟨_,_,hx⟩)⟩
   .rename_i f cs hx;cases he;exact ⟨by rw [hx],.inr (.inr (.inl ⟨_,_,hx⟩))⟩
   .rename_i T d hx;cases he;exact ⟨by rw [hx],.inr (.inr (.inr ⟨_,_,hx⟩))⟩
   .cases he
  obtain ⟨h1,h2⟩:=key
  cases h1
  exact Cr7 ho hs h2
 case h_11 IM t x y yt ho=>
  have OD:op=.bin IM x y->OpOk C (Ux U nid u) a w o d (s.upd nid u):=by
   rintro rfl
   simp only [Bb] at he
   obtain ⟨v,hv,he⟩:=Ag.1 he
   cases he
   exact Cr4 ho hs hv
  have Yc:∀ k neg,(IM=if neg then .neq else .eql)->uI C.P k t->(k=4->Pd x=true\/Pd y=true)->op=.nilq k neg x y->OpOk C (Ux U nid u) a w o d (s.upd nid u):=by
   rintro k neg My Ps mH rfl
   simp only [Bb] at he
   split at he
   .rename_i b hx hy
    cases he
    exact Bq2 My ho Ps mH hs hx hy (.inl rfl)
   .rename_i b hx hy hh
    cases he
    have:=Bq2 (b:=b) (c:=true) My ho Ps mH hs hy hh (.inr rfl)
    cases b <;> exact this
   .cases he
  split at hc
  .cases hc;exact OD rfl
  .cases hc;exact OD rfl
  .rename_i ht
   have OE:∀ neg,(IM=if neg then .neq else .eql)->op=.bb neg x y->OpOk C (Ux U nid u) a w o d (s.upd nid u):=by
    rintro neg My rfl
    simp only [Bb] at he
    split at he
    .rename_i p q hx hy
     cases he
     exact IS My ho ht hs hx hy
    .cases he
   split at hc
   .cases hc;exact OE false rfl rfl
   .cases hc;exact OE true rfl rfl
   .cases hc
  .rename_i fs ht
   split at hc
   .rename_i hg
    have Ro:∀ neg ks,(IM=if neg then .neq else .eql)->sI C.P 0 fs.toList=some ks->op=.eqs neg ks x y->OpOk C (Ux U nid u) a w o d (s.upd nid u):=by
     rintro neg ks My hk rfl
     simp only [Bb] at he
     split at he
     .rename_i xs ys hx hy
      obtain ⟨r,hr,he⟩:=Ag.1 he
      cases he
      exact Cr5 My ho ht hg.1 hg.2 hk hs hx hy hr
     .cases he
    split at hc
    .obtain ⟨ks,hk,rfl⟩:=Ag.1 hc;exact Ro false ks rfl hk rfl
    .obtain ⟨ks,hk,rfl⟩:=Ag.1 hc;exact Ro true ks rfl hk rfl
    .cases hc
   .cases hc
  .rename_i e ht
   split at hc
   .cases hc;exact Yc 0 false rfl ⟨e,ht⟩ (λh=>by cases h) rfl
   .cases hc;exact Yc 0 true rfl ⟨e,ht⟩ (λh=>by cases h) rfl
   .cases hc
  .rename_i e ht
   split at hc
   .cases hc;exact Yc 1 false rfl ⟨e,ht⟩ (λh=>by cases h) rfl
   .cases hc;exact Yc 1 true rfl ⟨e,ht⟩ (λh=>by cases h) rfl
   .cases hc
  .rename_i e f ht
   split at hc
   .cases hc;exact Yc 2 false rfl ⟨e,f,ht⟩ (λh=>by cases h) rfl
   .cases hc;exact Yc 2 true rfl ⟨e,f,ht⟩ (λh=>by cases h) rfl
   .cases hc
  .rename_i e f g ht
   split at hc
   .cases hc;exact Yc 3 false rfl ⟨e,f,g,ht⟩ (λh=>by cases h) rfl
   .cases hc;exact Yc 3 true rfl ⟨e,f,g,ht⟩ (λh=>by cases h) rfl
   .cases hc
  .rename_i e ht
   split at hc
   .rename_i mH
    have D0:Pd x=true\/Pd y=true:=by simpa using mH
    split at hc
    .cases hc;exact Yc 4 false rfl ⟨e,ht⟩ (λ_=>D0) rfl
    .cases hc;exact Yc 4 true rfl ⟨e,ht⟩ (λ_=>D0) rfl
    .cases hc
   .cases hc
  .cases hc
 case h_12 IM t x ho=>
  cases hc
  simp only [Bb] at he
  obtain ⟨v,hv,he⟩:=Ag.1 he
  cases he
  exact IN ho hs hv
 case h_13 src dst x ho=>
  split at hc
  .rename_i k' k h1 h2
   cases hc
   simp only [Bb] at he
   split at he
   .rename_i kk n hx;cases he;exact Cr6 ho h1 h2 hs hx
   .cases he
  .rename_i e h1 h2
   split at hc
   .rename_i h3
    cases hc
    simp only [Bb] at he
    split at he
    .rename_i b hx;cases he;exact Cr8 ho h1 h2 h3 hs hx
    .cases he
   .cases hc
  .cases hc
 case h_14 f first cap ho=>
  cases hc
  simp only [Bb,Eg,Prod.mk.injEq] at he;obtain ⟨rfl,rfl⟩:=he
  exact Ca2 ho hs
 case h_15 t l c ho=>
  split at hc
  .rename_i e ht
   split at hc
   rotate_left
   .cases hc
   rename_i R0
   obtain ⟨z,hz,rfl⟩:=Ag.1 hc
   simp only [Bb] at he
   split at he
   .rename_i l' c' hl Jd
    split at he
    .rename_i h
     cases he
     exact Cs5 R0 ho ht hz h.2.2.2.2.1 (by have:=h.2.2.2.2.2;omega) h.2.2.2.1 hs hn hl Jd h.1 h.2.1 h.2.2.1
    .cases he
   .cases he
  .cases hc
 case h_16 t x lo hi mx ho=>
  split at hc
  .rename_i e ht
   split at hc
   .rename_i cJ
    cases hc
    simp only [Bb] at he
    split at he
    .rename_i cs n hx
     split at he
     .rename_i l h Hv Tl
      split at he
      .rename_i hb
       cases he
       exact (Bq3 ho ht cJ hs).1 cs n hx Hv Tl hb.1 hb.2.1 hb.2.2
      .cases he
     .cases he
    .rename_i id off n es' hx
     split at he
     .rename_i l h Hv Tl
      split at he
      .rename_i hb
       obtain ⟨rfl,hb⟩:=hb
       cases he
       exact (Bq3 ho ht cJ hs).2.1 id off n hx Hv Tl hb.1 hb.2.1 hb.2.2
      .cases he
     .cases he
    .rename_i hx
     split at he
     .rename_i l h Hv Tl
      split at he
      .rename_i hb
       cases he
       exact (Bq3 ho ht cJ hs).2.2 hx Hv Tl hb.1 hb.2
      .cases he
     .cases he
    .cases he
   .cases hc
  .cases hc
 case h_17 t x f ho=>
  split at hc
  .rename_i fs ht
   obtain ⟨fd,hf,hc⟩:=Bg.1 hc
   split at hc
   .cases hc
   .rename_i hz
    cases hc
    simp only [Bb] at he
    split at he
    .rename_i cs hx;cases he;exact (yD ho ht hf hz hs).1 cs hx
    .rename_i id off hx;cases he;exact (yD ho ht hf hz hs).2 id off hx
    .cases he
  .cases hc
 case h_18=>cases hc
 case h_19 t x i ho=>
  split at hc
  .rename_i e ht
   split at hc
   .cases hc
   .rename_i hz
    cases hc
    simp only [Bb] at he
    split at he
    .rename_i j cs n hi hx
     split at he
     .rename_i hj;cases he;exact (yB ho ht hz hs hi hj.1).1 cs n hx hj.2
     .cases he
    .rename_i j id off n es' hi hx
     split at he
     .rename_i hj;cases he;exact (yB ho ht hz hs hi hj.1).2 id off n es' hx hj.2
     .cases he
    .cases he
  .rename_i n e ht
   split at hc
   .cases hc
   .rename_i hz
    cases hc
    simp only [Bb] at he
    split at he
    .rename_i j id off hi hx
     split at he
     .rename_i hj;cases he;exact (yC ho ht hz hs hi hj.1 hj.2).2 id off hx
     .cases he
    .rename_i j cs hi hx
     split at he
     .rename_i hj;cases he;exact (yC ho ht hz hs hi hj.1 hj.2).1 cs hx
     .cases he
    .cases he
  .cases hc
 case h_20 t x i ho=>
  split at hc
  .rename_i ht
   cases hc
   simp only [Bb] at he
   split at he
   .rename_i j b hi hx
    split at he
    .rename_i h0
     obtain ⟨c,Sw,he⟩:=Ag.1 he
     cases he
     exact Cr9 ho ht hs hi h0 hx Sw
    .cases he
   .cases he
  .cases hc
 case h_21 x i ho=>
  cases hc
  simp only [Bb] at he
  split at he
  .rename_i v hv
   cases he
   obtain ⟨ds,hx,hd⟩:=Bq0 hv
   exact Ck0 ho hs hx hd
  .split at he
   .rename_i ds hx
    obtain ⟨d',hd,he⟩:=Ag.1 he
    cases he
    exact Cs0 ho hs hx hd
   .cases he
 case h_22 c ho=>
  split at hc
  .cases hc;simp [Bb] at he
  .cases hc;simp [Bb] at he
  .rename_i Jy
   split at hc
   .rename_i x t Fh ht
    split at hc
    .rename_i e hu
     cases hc
     have h1:=(Ca1 ho Jy Fh ht hs).1 ⟨e,hu⟩
     simp only [Bb] at he
     split at he
     .rename_i cs n hx;cases he;exact h1.1 cs n hx
     .rename_i id off n es' hx;cases he;exact h1.2.1 id off n es' hx
     .rename_i n c' hx;cases he;exact h1.2.2 n c' hx
     .cases he
    .rename_i hu
     cases hc
     simp only [Bb] at he
     split at he
     .rename_i b hx;cases he;exact (Ca1 ho Jy Fh ht hs).2 hu b hx
     .cases he
    .rename_i kt et hu
     cases hc
     have h1:=Ct1 ho Jy Fh ht hu hs
     simp only [Bb] at he
     split at he
     .rename_i hx;cases he;exact h1.1 hx
     .rename_i id hx
      split at he
      .rename_i ck es hid;cases he;exact h1.2 id ck es hx hid
      .cases he
     .cases he
    .cases hc
   .cases hc
  .rename_i Jy
   split at hc
   .rename_i x y t t' Fh ml
    split at hc
    .rename_i htt
     subst htt
     split at hc
     .rename_i e ht
      obtain ⟨z,hz,hc⟩:=Bg.1 hc
      split at hc
      .rename_i Zb
       cases hc
       simp only [Bb] at he
       split at he
       .rename_i Iy cs n news m hd lP
        split at he
        .rename_i h
         cases he
         exact Cs7 Zb.1 ho Jy Fh ml ht hz Zb.2 rfl rfl hs hn hd lP h.1 h.2.1 h.2.2.1 h.2.2.2
        .cases he
       .cases he
      .cases hc
     .cases hc
    .cases hc
   .cases hc
  .rename_i Jy
   split at hc
   .rename_i x y Fh
    cases hc
    simp only [Bb] at he
    split at he
    .rename_i k p k' q hx hy;cases he;exact yA (mx:=false) ho Jy Fh hs hx hy
    .cases he
   .cases hc
  .rename_i Jy
   split at hc
   .rename_i x y Fh
    cases hc
    simp only [Bb] at he
    split at he
    .rename_i k p k' q hx hy;cases he;exact yA (mx:=true) ho Jy Fh hs hx hy
    .cases he
   .cases hc
  .cases hc
 case h_23 t r ho=>
  split at hc
  .cases hc
   simp [Bb] at he
   obtain ⟨rfl,rfl⟩:=he
   exact Cs9 ho hs hn
  .cases hc
 case h_24 t x k ok ho=>
  split at hc
  .rename_i kt et ht
   split at hc
   .rename_i kd z jY hz
    cases hc
    simp only [Bb] at he
    split at he
    .rename_i kv hk
     split at he
     .rename_i Qs
      have h1:=Ct0 ho ht jY hz hs hk Qs
      split at he
      .rename_i hx;cases he;exact h1.1 hx
      .rename_i id hx
       split at he
       .rename_i ck es hid
        split at he
        .rename_i p hf;cases he;exact h1.2 id ck es _ hx hid hf
        .rename_i hf;cases he;exact h1.2 id ck es _ hx hid hf
        .cases he
       .cases he
      .cases he
     .cases he
    .cases he
   .cases hc
  .cases hc
 case h_25=>cases hc
 case h_26=>cases hc
 case h_27 t x ho=>
  split at hc
  .rename_i ht
   cases hc
   simp only [Bb] at he
   split at he
   .rename_i b hx;cases he;exact Ct4 ho ht hs hn hx
   .cases he
  .cases hc
 case h_28 x isS ho=>
  split at hc
  .cases hc
  .rename_i hS
   have OR:isS=true:=by simpa using hS
   subst OR
   cases hc
   simp only [Bb] at he
   split at he
   .rename_i id hx
    split at he
    .rename_i t pos hid
     split at he
     .rename_i hp;cases he;exact (Ca4 (nid:=nid) ho hs hx hid).1 hp
     .rename_i hp;cases he;exact (Ca4 (nid:=nid) ho hs hx hid).2 hp
    .cases he
   .cases he
 case h_29=>cases hc
 case h_30=>cases hc
 case h_31=>cases hc
 case h_32 t x k y ho=>
  obtain ⟨kd,jY,rfl⟩:=Ag.1 hc
  exact MT t x k y kd (.inl ho) jY rfl
 case h_33 t x k y ho=>
  obtain ⟨kd,jY,rfl⟩:=Ag.1 hc
  exact MT t x k y kd (.inr ho) jY rfl
 case h_34=>cases hc
end Go.DD

/- What a function's body starts from, and what holds at its end. -/
namespace Go.DD
open Go.RowKit (Below)
def Uj(C:Ctx)(Q:Exit->DS->Prop):Exit->Act->World->Prop:=λe a w=>∃ s,Q e s/\Holds C s a w
def Ctx.F(C:Ctx):Fence:={ Fence.wide with round:=C.rd }
theorem A44{C:Ctx}{f:FuncId}{args:Array Value}{w:World}{R:Ending->World->Prop}(h:Calls C.P f args w R):CallsIn C.F 0 C.P f args w R:=by
 have h1:CallsIn Fence.wide 0 C.P f args w R:=callsIn_wide.2 h
 cases hr:C.rd with
 | none=>
  have:C.F=Fence.wide:=by unfold Ctx.F;rw [hr];rfl
  rw [this];exact h1
 | some l=>
  have:C.F=Fence.wide.inRound l:=by unfold Ctx.F;rw [hr];rfl
  rw [this];exact CallsIn.inRound l h1
def DW(C:Ctx)(c:DC)(Q:Exit->DS->Prop)(s:DS):Prop:=
 ∀ code,Et C.P C.nt code=some c->∀ a w,Holds C s a w->code.wpIn C.F 0 C.P (Uj C Q) a w
structure DF where
 code:DC
 res:List (Nat×Option (Option Nat))
 nt:Nat
 deriving Inhabited
def BW(P:Program):ResultVar->Option (Nat×Option (Option Nat))
 | .tmp t=>some (t,none)
 | .cell a T=>(Oz P T).map λk=>(a,some k)
def DH(P:Program)(fn:Func):Option DF:=
 match fn.body with
 | some b=>match Et P fn.ntmps b,fn.results.toList.mapM (BW P) with
  | some c,some r=>some { code:=c,res:=r,nt:=fn.ntmps }
  | _,_=>none
 | none=>none
def Xy(s:DS):Nat×Option (Option Nat)->Option DV
 | (t,none)=>some (s.ev (.tmp t))
 | (t,some k)=>match s.ev (.tmp t) with
  | .pt id off=>match s.ho id with
   | some (.row _ cs)=>Jc k (cs.drop off)
   | _=>none
  | _=>none
def aB(s:DS)(rs:List (Nat×Option (Option Nat))):Option DV:=
 match rs.mapM (Xy s) with
 | some [d]=>some d
 | some ds=>some (.tup ds)
 | none=>none
def Ym(ds:List DV)(t:Nat):DV:=(ds[t]?).getD .any
theorem Ca5{C:Ctx}{U:Nat->Prop}{V:Nat->Option DObj}{β:Nat->Option Nat}{w:World}{us:List Value}{cs:List DV}(hl:us.length=cs.length)
  (hr:∀ (j:Nat) (u:Value) (d:DV),us[j]?=some u->cs[j]?=some d->WV C U V β w u d):WV C U V β w (.tuple us.toArray) (.tup cs):=by
 refine ⟨λid hi=>?_,λha=>.tup us cs hl λj u d hu hd=>(hr j u d hu hd).2.1 λid hi=>ha id (by rw [DV.refs];exact DV.refsL_mem (Aw hd) hi),TP.of_wv hl hr⟩
 rw [DV.refs] at hi
 obtain ⟨d,hd,hi⟩:=DV.mem_refsL hi
 obtain ⟨j,hj,rfl⟩:=Bx.1 hd
 exact (hr j us[j] _ (Aa (by omega)) (Aa hj)).1 id hi
section
variable {C:Ctx} {U:Nat->Prop} {s:DS} {β:Nat->Option Nat} {a:Act} {w:World}
theorem Bn5(hs:HoldsB C U s β a w){rv:ResultVar}{q:Nat×Option (Option Nat)}{d:DV}(hq:BW C.P rv=some q)(hd:Xy s q=some d) :
  ∃ x,(match rv with
   | .tmp t=>(pure (a.tmps.getD t undef):Sem Value)
   | .cell p t=>do loadVar t (<- asAddr (a.tmps.getD p undef))).run C.P w=.ok x w/\WV C U (s.vw C) β w x d:=by
 cases rv with
 | tmp t=>
  simp [BW] at hq
  subst hq
  simp only [Xy,Eg] at hd
  subst hd
  exact ⟨_,rfl,hs.evw (.tmp t)⟩
 | cell p T=>
  obtain ⟨k,hk,rfl⟩:=Ag.1 hq
  simp only [Xy] at hd
  split at hd
  .rename_i id off hp
   split at hd
   .rename_i T' cs Jk
    have h1:Rel C.P w (Sc C w β) β (a.tmps.getD p undef) (s.ev (.tmp p)):=hs.ev (.tmp p)
    rw [hp] at h1
    obtain ⟨b,e1,hb⟩:=tE h1
    obtain ⟨c,hw,hl,_,hr⟩:=hs.row hb Jk
    obtain ⟨g1,g2⟩:=Ah9 hk ⟨b,off,none⟩ (c.toList.drop off) (SJ hw)
    obtain ⟨p1,p2⟩:=A40 (C:=C) (U:=U) (V:=s.vw C) (w:=w) (β:=β) (us:=c.toList.drop off) (cs:=cs.drop off) (by simp;omega)
     (λj u hu hj=>by
      have eY:off+j<cs.length:=by simp at hj;omega
      exact (hr (off+j) u _ (by simpa using hu) (Aa eY)).2)
     (λj u d hu hd=>(hr (off+j) u d (by simpa using hu) (by simpa using hd)).1) hd
    cases k with
    | none=>
     obtain ⟨u,hu,Ct⟩:=p1 rfl
     exact ⟨u,by simp only [Sem.run_bind,e1,asAddr,Sem.run_pure,Result.andThen_ok];exact g1 rfl u hu,Ct⟩
    | some n=>
     obtain ⟨hn,Ct⟩:=p2 n rfl
     exact ⟨_,by simp only [Sem.run_bind,e1,asAddr,Sem.run_pure,Result.andThen_ok];exact g2 n rfl hn,Ct⟩
   .cases hd
  .cases hd
theorem Bg8(hs:HoldsB C U s β a w):∀ (TQ:List ResultVar) (qs:List (Nat×Option (Option Nat))) (ds:List DV),TQ.mapM (BW C.P)=some qs->qs.mapM (Xy s)=some ds->
  ∃ vs:List Value,(TQ.mapM λ(rv:ResultVar)=>(match rv with
   | .tmp t=>(pure (a.tmps.getD t undef):Sem Value)
   | .cell p t=>do loadVar t (<- asAddr (a.tmps.getD p undef)))).run C.P w=.ok vs w/\vs.length=ds.length/\∀ (j:Nat) (v:Value) (d:DV),vs[j]?=some v->ds[j]?=some d->WV C U (s.vw C) β w v d
 | [],qs,ds,h1,h2=>by
  simp at h1;subst h1;simp at h2;subst h2
  exact ⟨[],by simp,rfl,by simp⟩
 | rv::TQ,qs,ds,h1,h2=>by
  simp only [Ez,Ee,Bg,Fc] at h1
  obtain ⟨q,hq,qt,hqt,h1⟩:=h1
  cases h1
  simp only [Ez,Ee,Bg,Fc] at h2
  obtain ⟨d,hd,dt,qy,h2⟩:=h2
  cases h2
  obtain ⟨x,hx,Ct⟩:=Bn5 hs hq hd
  obtain ⟨vs,uR,hl,hr⟩:=Bg8 hs TQ qt dt hqt qy
  refine ⟨x::vs,?_,by simp [hl],λj v e hv he=>?_⟩
  .simp only [Ez,Sem.run_bind,hx,Result.andThen_ok,uR,Sem.run_pure]
  .cases j with
   | zero=>simp at hv he;subst hv he;exact Ct
   | succ j=>exact hr j v e (by simpa using hv) (by simpa using he)
theorem Bd1(hs:HoldsB C U s β a w){fn:Func}{qs:List (Nat×Option (Option Nat))}{d:DV}(hq:fn.results.toList.mapM (BW C.P)=some qs)(hd:aB s qs=some d) :
  ∃ x,(results fn a.tmps).run C.P w=.ok x w/\WV C U (s.vw C) β w x d:=by
 unfold aB at hd
 cases hm:qs.mapM (Xy s) with
 | none=>rw [hm] at hd;cases hd
 | some ds=>
  rw [hm] at hd
  obtain ⟨vs,uR,hl,hr⟩:=Bg8 hs fn.results.toList qs ds hq hm
  have Hl:(results fn a.tmps).run C.P w=.ok (if h:vs.toArray.size=1 then vs.toArray[0] else .tuple vs.toArray) w:=by
   unfold results
   rw [Array.mapM_eq_mapM_toList]
   simp only [Sem.run_bind,Sem.run_map]
   erw [uR]
   simp only [Result.andThen_ok,Sem.run_pure]
  refine ⟨_,Hl,?_⟩
  clear hm uR Hl
  match ds,hl,hd,hr with
  | [e],hl,hd,hr=>
   simp at hd
   subst hd
   match vs,hl with
   | [v],_=>exact hr 0 v e rfl rfl
  | [],hl,hd,hr=>
   simp at hd;subst hd
   rw [dif_neg (by simp at hl;simp [hl])]
   exact Ca5 hl hr
  | e::e'::es,hl,hd,hr=>
   simp at hd;subst hd
   rw [dif_neg (by simp;simp at hl;omega)]
   exact Ca5 hl hr
theorem HoldsB.shut{tmps:Array Value}{d:Deferred}{l:List Deferred}{D:Nat}(hs:HoldsB C U s β ⟨tmps,d::l⟩ w)(hd:d = { target:=.collected D,args:=#[] })
  (hD:w.heap[D]?=some (.deferred (some []))) (h0:C.w0.heap.size<=D) (hn:∀ id,β id≠some D):HoldsB C U s β ⟨tmps,l⟩ (w.putObj D (.deferred none)):=by
 have aYd:D<w.heap.size:=(Ck.1 hD).1
 have pR:∀ b,b≠D->(w.putObj D (.deferred none)).heap[b]?=w.heap[b]?:=λb hb=>World.putObj_heap_other hb
 have Nx:∀ (b:Nat),(∃ c T r,w.heap[b]?=some (Obj.cells c T r))->(w.putObj D (.deferred none)).heap[b]?=w.heap[b]?:=λb ⟨c,T,r,hc⟩=>pR b (λe=>by rw [e,hD] at hc;cases hc)
 have aH:∀ id b,β id=some b->(w.putObj D (.deferred none)).heap[b]?=w.heap[b]?:=λid b hb=>pR b (λe=>hn id (e ▸ hb))
 have Ct:∀ x d,WV C U (s.vw C) β w x d->WV C U (s.vw C) β (w.putObj D (.deferred none)) x d:=λx d ⟨g1,g2,g3⟩=>
  ⟨g1,λha=>(g2 ha).mono (λb ⟨h1,h2,h3⟩=>⟨⟨h1,by simpa using h2,h3⟩,Nx b⟩) λid _ b hb=>⟨hb,SameShape.of_eq (aH id b hb)⟩,g3⟩
 have qW:=hs.hh.bel
 have Um:d∉l.filter TI/\(l.filter TI).Nodup:=by
  have:=hs.df.nodup
  rw [Vd (by rw [hd];rfl)] at this
  exact List.nodup_cons.1 this
 refine ⟨⟨hs.hh.ok,⟨qW.os,qW.tape,qW.output,by simpa using qW.size,λk Cr Fj=>(pR k (by omega)).trans (qW.block k Cr Fj)⟩,λid b hb=>⟨(hs.hh.bge id b hb).1,by simpa using hs.hh.lt hb⟩,hs.hh.inj,hs.hh.fr,λid o ho=>?_⟩,
  ⟨Um.2,λd' VN=>?_,λD' sZ=>?_,λD' sZ=>hs.df.apart D' (by simp [sZ])⟩,hs.sz,λt=>Ct _ _ (hs.sl t),λx d hx=>Ct _ _ (hs.gh x d hx),hs.yd⟩
 .exact (hs.hh.hp id o ho).keep rfl (aH id) Ct
 .rcases hs.df.own d' (by simp [VN]) with ⟨D',e,h1,h2,h3⟩ | hq
  .refine .inl ⟨D',e,(pR D' λhe=>?_).trans h1,h2,h3⟩
   subst he
   exact Um.1 (Gh.2 ⟨by rw [hd,<- e];exact VN,by rw [hd];rfl⟩)
  .exact .inr hq
 .obtain ⟨D2,e,h1,h2,h3⟩:=hs.df.out D' sZ
  refine ⟨D2,e,(pR D2 λhe=>?_).trans h1,h2,h3⟩
  subst he
  simp only [Deferred.mk.injEq,Target.collected.injEq,and_true] at e
  subst e
  exact hs.df.apart D' (by rw [hd];simp) sZ
theorem ZL{fn:Func}{qs:List (Nat×Option (Option Nat))}{d:DV}{R:Ending->World->Prop}(hq:fn.results.toList.mapM (BW C.P)=some qs)(hd:aB s qs=some d)(tmps:Array Value)
  (hR:∀ v w',HoldsB C U s β ⟨tmps,[]⟩ w'->WV C U (s.vw C) β w' v d->R (.returned v) w'):∀ (l:List Deferred) (w:World),HoldsB C U s β ⟨tmps,l⟩ w->LeavesInM Fence.wide 0 C.P fn tmps R l .returning w
 | [],w,hs=>by
  obtain ⟨x,hx,hr⟩:=Bd1 hs hq hd
  exact ⟨x,hx,hR x w hs hr⟩
 | d'::l,w,hs=>by
  rcases hs.df.own d' (by simp) with ⟨D,e,h1,h2,h3⟩ | ⟨g,Pr,hqf,rfl⟩
  .exact ⟨by simp,.inl ⟨D,_,by rw [e],run_takeDeferred h1,ZL hq hd tmps hR l _ (hs.shut e h1 h2 h3)⟩⟩
  .obtain ⟨k1,k2⟩:=B32 hqf Pr w
   refine ⟨by simp,.inr ⟨λh=>by simp [Fence.wide] at h,.func g,Pr,g,Pr,rfl,k1,λ_ _=>trivial,k2.mono ?_⟩⟩
   rintro e u' w' ⟨rfl,⟨v,rfl⟩,rfl⟩
   exact ZL hq hd tmps hR l _ ⟨hs.hh,hs.df.tail rfl,hs.sz,hs.sl,hs.gh,hs.yd⟩
theorem A90{ho:Nat->Option DObj}{nx:Nat}{args:List DV}{vs:List Value}
  (hh:HH C U (Ll C.Y ho) β w) (hX:∀ x d,C.X x d\/RK x d->WV C U (Ll C.Y ho) β w x d) (hy:∀ id o,C.Y id=some o->ho id=none) (hM:∀ D,C.M D->Mark C β w { target:=.collected D,args:=#[] }) (hn:args.length<=C.nt) (hl:vs.length=args.length)
  (Ct:∀ (j:Nat) (v:Value) (d:DV),vs[j]?=some v->args[j]?=some d->WV C U (Ll C.Y ho) β w v d) :
  HoldsB C U ⟨Ym args,ho,nx⟩ β { tmps:=vs.toArray++Array.replicate (C.nt-vs.toArray.size) undef,defers:=[] } w:=by
 refine ⟨hh,⟨List.nodup_nil,(λd hd=>by cases hd),hM,(λD hd=>by cases hd)⟩,by simp;omega,λt=>?_,hX,hy⟩
 simp only [Ym]
 cases hd:args[t]? with
 | none=>exact WV.any
 | some d=>
  have LG:t<vs.length:=by have:=(Ar.1 hd).1;omega
  have hv:(vs.toArray++Array.replicate (C.nt-vs.toArray.size) undef).getD t undef=vs[t]:=by
   simp [Xw,LG]
  rw [hv]
  simp only [Gm]
  exact Ct t vs[t] d (Aa LG) hd
end
end Go.DD

/- Calls: where they stand, in the caller's own memory; or by contract, on immutable arguments. -/
namespace Go.DD
open Go.RowKit (Below)
theorem Ax5{cs:List DV}(h:DV.refsL cs=[]){d:DV}(hd:d∈cs):d.refs=[]:=by
 cases hr:d.refs with
 | nil=>rfl
 | cons i l=>have:=DV.refsL_mem hd (id:=i) (by rw [hr];simp);rw [h] at this;cases this
theorem ZK{P:Program}{w:World}{al:Nat->Prop}{β:Nat->Option Nat}{x:Value}{d:DV}(h:Rel P w al β x d)(hd:d.refs=[]):RelI w al x d:=by
 induction h with
 | imm x d h=>exact h
 | agg vs cs hl ho _ ih=>exact .agg vs cs hl ho λj u d hu he=>ih j u d hu he (Ax5 (by simpa [DV.refs] using hd) (Aw he))
 | tup vs cs hl _ ih=>exact .tup vs cs hl λj u d hu he=>ih j u d hu he (Ax5 (by simpa [DV.refs] using hd) (Aw he))
 | fn f us vs cs hl _ ih=>exact .fn f us vs cs hl λj u d hu he=>ih j u d hu he (Ax5 (by simpa [DV.refs] using hd) (Aw he))
 | ifc T u d _ ih=>exact .ifc T u d (ih (by simpa [DV.refs] using hd))
 | ms0 id es=>simp [DV.refs] at hd
 | ms id off n es b cap c T hβ hw hn hm Tz=>simp [DV.refs] at hd
 | pt id off b hβ=>simp [DV.refs] at hd
 | mp id b hβ=>simp [DV.refs] at hd
 | yl id b hβ=>simp [DV.refs] at hd
inductive Plain:DV->Prop
 | any:Plain .any
 | v (x:Value):Plain (.v x)
 | agg (cs:List DV) (h:∀ d∈cs,Plain d):Plain (.agg cs)
 | tup (cs:List DV) (h:∀ d∈cs,Plain d):Plain (.tup cs)
theorem Bn6{w w':World}{al tC:Nat->Prop}{x:Value}{d:DV}(h:RelI w al x d)(hp:Plain d):RelI w' tC x d:=by
 induction h with
 | any x=>exact .any x
 | v x=>exact .v x
 | agg vs cs hl ho _ ih=>cases hp with | agg _ hp=>exact .agg vs cs hl ho λj u d hu hd=>ih j u d hu hd (hp d (Aw hd))
 | tup vs cs hl _ ih=>cases hp with | tup _ hp=>exact .tup vs cs hl λj u d hu hd=>ih j u d hu hd (hp d (Aw hd))
 | sl0 a cap=>cases hp
 | sl ad n cap us cs hl hn ha ho hc _ ih=>cases hp
 | ia ad us cs hl ha ho hc _ ih=>cases hp
 | fn f us vs cs hl _ ih=>cases hp
 | ifc T u d _ ih=>cases hp
def DV.flat:DV->Bool
 | .any=>true
 | .v _=>true
 | .sl _ _=>true
 | .ia _=>true
 | _=>false
theorem YN{d:DV}(h:d.flat=true):d.refs=[]:=by
 cases d <;> first | rfl | (simp [DV.flat] at h)
def sO(f:DV->Option DV)(cs:List DV):Option (List DV):=if cs.all DV.flat then some cs else cs.mapM f
def rz(ho:Nat->Option DObj):Nat->DV->Option DV
 | 0,d=>if d.flat then some d else none
 | k+1,d=>match d with
  | .agg cs=>(sO (rz ho k) cs).map .agg
  | .tup cs=>(sO (rz ho k) cs).map .tup
  | .fn f cs=>(sO (rz ho k) cs).map (.fn f)
  | .ifc T d=>(rz ho k d).map (.ifc T)
  | .ms id off n es=>match ho id with
   | some (.row _ cs)=>if off+n*es<=cs.length then (sO (rz ho k) ((cs.drop off).take (n*es))).map λl=>.sl l n else none
   | _=>none
  | .pt id off=>match ho id with
   | some (.row _ cs)=>(sO (rz ho k) (cs.drop off)).map .ia
   | _=>none
  | .mp _=>none
  | .yl _=>none
  | d=>some d
theorem YG{f:DV->Option DV}{cs l:List DV}(h:sO f cs=some l):l.length=cs.length/\∀ (j:Nat) (c d:DV),cs[j]?=some c->l[j]?=some d->(c.flat=true/\d=c)\/f c=some d:=by
 unfold sO at h
 split at h
 .rename_i Qe
  cases h
  refine ⟨rfl,λj c d hc hd=>.inl ?_⟩
  rw [hc] at hd
  cases hd
  exact ⟨Ay.1 Qe c (Aw hc),rfl⟩
 .obtain ⟨h1,h2⟩:=mapM_some h
  exact ⟨h1,λj c d hc hd=>.inr (h2 j c d hc hd)⟩
theorem B42{ho:Nat->Option DObj} : ∀ (k:Nat) (d d':DV),rz ho k d=some d'->∀ id∈d.refs,(ho id).isSome=true:=by
 intro k
 induction k with
 | zero=>
  intro d d' h id hi
  simp only [rz] at h
  split at h
  .rename_i hf;rw [YN hf] at hi;cases hi
  .cases h
 | succ k ih=>
  intro d d' h id hi
  have Su:∀ cs l,sO (rz ho k) cs=some l->∀ id∈DV.refsL cs,(ho id).isSome=true:=by
   intro cs l hz id hi
   obtain ⟨c,hc,hi⟩:=DV.mem_refsL hi
   obtain ⟨j,hj,rfl⟩:=Bx.1 hc
   obtain ⟨h1,h2⟩:=YG hz
   rcases h2 j cs[j] (l[j]'(by omega)) (Aa hj) (Aa (by omega)) with ⟨hf,_⟩ | hr
   .rw [YN hf] at hi;cases hi
   .exact ih _ _ hr id hi
  cases d with
  | agg cs=>obtain ⟨l,hz,_⟩:=Ag.1 h;exact Su cs l hz id (by simpa [DV.refs] using hi)
  | tup cs=>obtain ⟨l,hz,_⟩:=Ag.1 h;exact Su cs l hz id (by simpa [DV.refs] using hi)
  | fn f cs=>obtain ⟨l,hz,_⟩:=Ag.1 h;exact Su cs l hz id (by simpa [DV.refs] using hi)
  | ifc T d=>obtain ⟨e,hz,_⟩:=Ag.1 h;exact ih _ _ hz id (by simpa [DV.refs] using hi)
  | ms pF off n es=>
   simp only [rz] at h
   obtain rfl:id=pF:=by simpa [DV.refs] using hi
   split at h
   .rename_i Jk;rw [Jk];rfl
   .cases h
  | pt pF off=>
   simp only [rz] at h
   obtain rfl:id=pF:=by simpa [DV.refs] using hi
   split at h
   .rename_i Jk;rw [Jk];rfl
   .cases h
  | mp id=>simp [rz] at h
  | yl id=>simp [rz] at h
  | any=>simp [DV.refs] at hi
  | v x=>simp [DV.refs] at hi
  | sl cs n=>simp [DV.refs] at hi
  | ia cs=>simp [DV.refs] at hi
def frz(C:Ctx)(w:World)(b:Nat):Prop:=(C.S b\/C.w0.heap.size<=b\/C.G b)/\b<w.heap.size
section
variable {C:Ctx} {U:Nat->Prop} {V ho:Nat->Option DObj} {β:Nat->Option Nat} {w:World}
theorem Ca6(hh:HH C U V β w)(hV:∀ id o,ho id=some o->V id=some o)(A I:Nat->Prop)(hA:∀ b,Sc C w β b->A b)(hI:∀ id b,I id->(ho id).isSome=true->β id=some b->A b)
  (Up:∀ id T cs,I id->ho id=some (.row T cs)->∀ j∈DV.refsL cs,I j):∀ (k:Nat) (x:Value) (d d':DV),(∀ id∈d.refs,I id)->WV C U V β w x d->rz ho k d=some d'->RelI w A x d':=by
 have cP:∀ (x:Value) (d:DV),d.flat=true->WV C U V β w x d->RelI w A x d:=λx d hf hr=>
  (ZK (hr.2.1 λid hi=>by rw [YN hf] at hi;cases hi) (YN hf)).mono λb hb=>⟨hA b hb,rfl⟩
 intro k
 induction k with
 | zero=>
  intro x d d' _ hr h
  simp only [rz] at h
  split at h
  .cases h;exact cP x d (by assumption) hr
  .cases h
 | succ k ih=>
  have Qe:∀ (x:Value) (c d:DV),(∀ id∈c.refs,I id)->WV C U V β w x c->((c.flat=true/\d=c)\/rz ho k c=some d)->RelI w A x d:=by
   intro x c d hc hr h
   rcases h with ⟨h1,rfl⟩ | h
   .exact cP x d h1 hr
   .exact ih x c d hc hr h
  intro x d d' hid hw h
  have Ql:=B42 _ _ _ h
  have hr:Rel C.P w (Sc C w β) β x d:=hw.2.1 λid hi=>by
   obtain ⟨o,Nj⟩:=Eb.1 (Ql id hi)
   rw [hV id o Nj];rfl
  have jU:∀ {u:Value} {e:DV},Rel C.P w (Sc C w β) β u e->(∀ id∈e.refs,id∈d.refs)->WV C U V β w u e:=λhr he=>
   hh.wv hr λid hi=>by
    obtain ⟨o,Nj⟩:=Eb.1 (Ql id (he id hi))
    rw [hV id o Nj];rfl
  have Su:∀ (us:List Value) (cs l:List DV),(∀ c∈cs,∀ id∈c.refs,I id)->us.length=cs.length->(∀ (j:Nat) (u:Value) (d:DV),us[j]?=some u->cs[j]?=some d->WV C U V β w u d)->sO (rz ho k) cs=some l->
    us.length=l.length/\∀ (j:Nat) (u:Value) (d:DV),us[j]?=some u->l[j]?=some d->RelI w A u d:=by
   intro us cs l hci hl Ct hz
   obtain ⟨h1,h2⟩:=YG hz
   refine ⟨by omega,λj u d hu hd=>?_⟩
   have hj:j<cs.length:=by have:=(Ar.1 hd).1;omega
   exact Qe u cs[j] d (hci _ (Bd hj)) (Ct j u _ hu (Aa hj)) (h2 j _ d (Aa hj) hd)
  cases d with
  | agg cs=>
   simp only [rz] at h
   obtain ⟨l,hz,rfl⟩:=Ag.1 h
   obtain ⟨vs,rfl,hl,h1,h2⟩:=SA hr
   obtain ⟨h3,h4⟩:=Su vs cs l (λc hc id hi=>hid id (by simp only [DV.refs];exact DV.refsL_mem hc hi)) hl (λj u d hu hd=>jU (h2 j u d hu hd) λid hi=>by simp only [DV.refs];exact DV.refsL_mem (Aw hd) hi) hz
   exact .agg vs l h3 h1 h4
  | tup cs=>
   simp only [rz] at h
   obtain ⟨l,hz,rfl⟩:=Ag.1 h
   obtain ⟨vs,rfl,hl,h2⟩:=Bc8 hr
   obtain ⟨h3,h4⟩:=Su vs cs l (λc hc id hi=>hid id (by simp only [DV.refs];exact DV.refsL_mem hc hi)) hl (λj u d hu hd=>jU (h2 j u d hu hd) λid hi=>by simp only [DV.refs];exact DV.refsL_mem (Aw hd) hi) hz
   exact .tup vs l h3 h4
  | fn f cs=>
   simp only [rz] at h
   obtain ⟨l,hz,rfl⟩:=Ag.1 h
   obtain ⟨us,vs,rfl,hl,h2⟩:=TG hr
   obtain ⟨h3,h4⟩:=Su (Value.tuple us.toArray::vs) cs l (λc hc id hi=>hid id (by simp only [DV.refs];exact DV.refsL_mem hc hi)) hl (λj u d hu hd=>jU (h2 j u d hu hd) λid hi=>by simp only [DV.refs];exact DV.refsL_mem (Aw hd) hi) hz
   exact .fn f us vs l h3 h4
  | ifc T d=>
   simp only [rz] at h
   obtain ⟨e,hz,rfl⟩:=Ag.1 h
   obtain ⟨u,rfl,h2⟩:=BY hr
   exact .ifc T u e (ih u d e (λid hi=>hid id (by simpa [DV.refs] using hi)) (jU h2 λid hi=>by simpa [DV.refs] using hi) hz)
  | ms id off n es=>
   simp only [rz] at h
   split at h
   .rename_i T cs Jk
    split at h
    .rename_i qR
     obtain ⟨l,hz,rfl⟩:=Ag.1 h
     rcases I6 hr with ⟨rfl,rfl,rfl⟩ | ⟨b,cap,c,T',rfl,hb,hw,hn,hm,Tz⟩
     .have:l=[]:=by
       have:=(YG hz).1
       simpa using this
      subst this
      exact .sl0 _ _
     .rcases hh.hp id _ (hV _ _ Jk) with ⟨h1,_⟩ | ⟨b',c',Kj,Jd,hl,_,Ct⟩
      .rw [hb] at h1;cases h1
      .rw [hb] at Kj;cases Kj
       rw [hw] at Jd
       injection Jd with Jd
       injection Jd with Sw _
       subst Sw
       have OZ:=hid id (by simp [DV.refs])
       obtain ⟨h3,h4⟩:=Su ((c.toList.drop off).take (n*es)) _ l (λe he i hi=>Up id _ _ OZ Jk i (DV.refsL_mem (De (Kn he)) hi)) (by simp;omega) (λj u d hu hd=>by
        rw [Cx] at hu hd
        split at hu
        .rename_i hj
         rw [Ah hj] at hd
         exact (Ct (off+j) u d (by simpa using hu) (by simpa using hd)).1
        .cases hu) hz
       refine .sl _ n cap ((c.toList.drop off).take (n*es)) l h3 hn (hI id b OZ (by rw [Jk];rfl) hb) (λu hu=>?_) (λj u hu=>?_) h4
       .obtain ⟨j,hj,rfl⟩:=Bx.1 hu
        have Xt:off+j<cs.length:=by simp at hj;omega
        refine (Ct (off+j) _ cs[off+j] ?_ (Aa Xt)).2
        rw [Ew,Nc]
        simp
       .rw [Cx] at hu
        split at hu
        .exact SJ hw j u hu
        .cases hu
    .cases h
   .cases h
  | pt id off=>
   simp only [rz] at h
   split at h
   .rename_i T cs Jk
    obtain ⟨l,hz,rfl⟩:=Ag.1 h
    obtain ⟨b,rfl,hb⟩:=tE hr
    rcases hh.hp id _ (hV _ _ Jk) with ⟨h1,_⟩ | ⟨b',c,Kj,hw,hl,_,Ct⟩
    .rw [hb] at h1;cases h1
    .rw [hb] at Kj;cases Kj
     have OZ:=hid id (by simp [DV.refs])
     obtain ⟨h3,h4⟩:=Su ((c.toList.drop off).take (cs.length-off)) (cs.drop off) l (λe he i hi=>Up id _ _ OZ Jk i (DV.refsL_mem (De he) hi)) (by simp;omega) (λj u d hu hd=>by
      rw [Cx] at hu
      split at hu
      .exact (Ct (off+j) u d (by simpa using hu) (by simpa using hd)).1
      .cases hu) hz
     refine .ia _ ((c.toList.drop off).take (cs.length-off)) l h3 (hI id b OZ (by rw [Jk];rfl) hb) (λu hu=>?_) (λj u hu=>?_) h4
     .obtain ⟨j,hj,rfl⟩:=Bx.1 hu
      have Xt:off+j<cs.length:=by simp at hj;omega
      refine (Ct (off+j) _ cs[off+j] ?_ (Aa Xt)).2
      rw [Ew,Nc]
      simp
     .rw [Cx] at hu
      split at hu
      .exact SJ hw j u hu
      .cases hu
   .cases h
  | mp id=>simp [rz] at h
  | yl id=>simp [rz] at h
  | any=>simp [rz] at h;subst h;exact .any x
  | v y=>simp [rz] at h;subst h;exact cP _ _ rfl hw
  | sl cs n=>simp [rz] at h;subst h;exact cP _ _ rfl hw
  | ia cs=>simp [rz] at h;subst h;exact cP _ _ rfl hw
theorem xN(hh:HH C U V β w)(hV:∀ id o,ho id=some o->V id=some o)(k:Nat)(x:Value)(d d':DV)(hr:WV C U V β w x d)(h:rz ho k d=some d'):RelI w (frz C w) x d':=
 Ca6 hh hV (frz C w) (λ_=>True) (λ_ hb=>⟨hb.1,hb.2.1⟩) (λid b _ _ hb=>⟨.inr (hh.bge id b hb).1,(hh.bge id b hb).2⟩) (λ_ _ _ _ _ _ _=>trivial) k x d d' (λ_ _=>trivial) hr h
end
def DCall(P:Program)(f:FuncId)(args:List DV)(R:DV->Prop):Prop:=
 ∀ (w:World) (S:Nat->Prop) (vs:List Value),(∀ b,S b->b<w.heap.size)->vs.length=args.length->(∀ (j:Nat) (v:Value) (d:DV),vs[j]?=some v->args[j]?=some d->RelI w S v d)->(∀ x d,RK x d->RelI w S x d)->
  Calls P f vs.toArray w λe w'=>∃ v r,e=.returned v/\R r/\Below w.heap.size w w'/\RelI w' (λb=>(S b\/w.heap.size<=b)/\b<w'.heap.size) v r
theorem DCall.mono{P:Program}{f:FuncId}{args:List DV}{R R':DV->Prop}(h:DCall P f args R)(hr:∀ d,R d->R' d):DCall P f args R':=
 λw S vs h1 h2 h3 hg=>(h w S vs h1 h2 h3 hg).mono λ_ _ ⟨v,r,h4,h5,h6⟩=>⟨v,r,h4,hr r h5,h6⟩
def Sz(P:Program)(f:FuncId)(ds:List DV)(s:DS)(K:DS->DV->Prop):Prop:=
 ∃ fn df,P.funcs[f]?=some fn/\DH P fn=some df/\ds.length<=df.nt/\∀ (S G:Nat->Prop) (w0:World) (X:Value->DV->Prop) (M:Nat->Prop) (Y:Nat->Option DObj) (R:Nat->Prop),
  DW ⟨P,S,G,w0,df.nt,X,M,none,Y,R⟩ df.code (λe s'=>(e=.normal\/e=.ret)/\∃ d,aB s' df.res=some d/\K ⟨s.sv,s'.ho,s'.nx⟩ d) ⟨Ym ds,s.ho,s.nx⟩
def Ctx.inner(C:Ctx)(U:Nat->Prop)(V:Nat->Option DObj)(β:Nat->Option Nat)(l:List Deferred)(w:World)(nt:Nat)(rd:Option Nat)(hid:Nat->Option DObj)(R:Nat->Prop):Ctx:=
 ⟨C.P,C.S,C.G,C.w0,nt,λx d=>WV C U V β w x d,λD=>C.M D\/({ target:=.collected D,args:=#[] } : Deferred)∈l,rd,Ll C.Y hid,R⟩
theorem HH.ctx{C C':Ctx}{U:Nat->Prop}{V:Nat->Option DObj}{β:Nat->Option Nat}{w:World}(hP:C'.P=C.P)(hS:C'.S=C.S)(hG:C'.G=C.G)(h0:C'.w0=C.w0)(h:HH C U V β w) :
  HH C' U V β w/\∀ x d,WV C' U V β w x d↔WV C U V β w x d:=by
 obtain ⟨P,S,G,w0,nt,X,M,rd,Y,R⟩:=C
 obtain ⟨P',S',G',w0',nt',X',M',rd',Y',R'⟩:=C'
 simp only at hP hS hG h0
 subst hP hS hG h0
 have hw:∀ x d,WV ⟨P',S',G',w0',nt',X',M',rd',Y',R'⟩ U V β w x d↔WV ⟨P',S',G',w0',nt,X,M,rd,Y,R⟩ U V β w x d:=λx d=>Dp
 refine ⟨⟨h.ok,⟨h.bel.os,h.bel.tape,h.bel.output,h.bel.size,h.bel.block⟩,h.bge,h.inj,h.fr,λid o ho=>?_⟩,hw⟩
 have h1:=h.hp id o ho
 cases o <;> exact h1
theorem Br0(Y hid ho:Nat->Option DObj):Ll (Ll Y hid) ho=Ll Y (Ll hid ho):=by
 funext id
 unfold Ll
 cases ho id <;> rfl
section
variable {C:Ctx} {U:Nat->Prop} {s:DS} {β:Nat->Option Nat} {a:Act} {w:World}
theorem Bg9{f:FuncId}{ds:List DV}{vs:List Value}{vis hid:Nat->Option DObj}{R:Nat->Prop}{K:DS->DV->Prop}(hs:HoldsB C U s β a w)(hU:∀ id,U id↔id<s.nx/\¬ R id)(hR:∀ id,R id->id<s.nx)
  (Wx:s.ho=Ll hid vis) (T4:∀ id o,hid id=some o->vis id=none) (hl:vs.length=ds.length)
  (hr:∀ (j:Nat) (v:Value) (d:DV),vs[j]?=some v->ds[j]?=some d->WV C U (s.vw C) β w v d) (hk:Sz C.P f ds ⟨s.sv,vis,s.nx⟩ K) :
  Calls C.P f vs.toArray w λe w'=>∃ v d Nj Ba β',e=.returned v/\K ⟨s.sv,Nj,Ba⟩ d/\(∀ id o,hid id=some o->Nj id=none)/\(∀ id,R id->id<Ba)/\
   HoldsB C (λid=>id<Ba/\¬ R id) ⟨s.sv,Ll hid Nj,Ba⟩ β' a w'/\WV C (λid=>id<Ba/\¬ R id) ((⟨s.sv,Ll hid Nj,Ba⟩:DS).vw C) β' w' v d:=by
 obtain ⟨fn,df,hf,hc,hn,h⟩:=hk
 have hUe:U=λid=>id<s.nx/\¬ R id:=funext λid=>propext (hU id)
 unfold DH at hc
 split at hc
 rotate_left
 .cases hc
 rename_i body hb
 split at hc
 rotate_left
 .cases hc
 rename_i c r Sw mI
 cases hc
 refine callsIn_wide.1 (callsIn_of_wp_marks (n:=0) hf hb trivial ?_)
 obtain ⟨C',Ln⟩:∃ C',C'=C.inner U (s.vw C) β a.defers w fn.ntmps none hid R:=⟨_,rfl⟩
 have hP:C'.P=C.P:=by rw [Ln];rfl
 have bV:∀ Nj,Ll C'.Y Nj=Ll C.Y (Ll hid Nj):=λNj=>by rw [Ln];exact Br0 _ _ _
 have AE:Ll C'.Y vis=s.vw C:=by rw [bV,<- Wx];rfl
 obtain ⟨hh1,nD⟩:=HH.ctx (C':=C') (by rw [Ln];rfl) (by rw [Ln];rfl) (by rw [Ln];rfl) (by rw [Ln];rfl) hs.hh
 have hYs:∀ id o,C'.Y id=some o->vis id=none:=λid o hy=>by
  rw [Ln] at hy
  simp only [Ctx.inner,Ll] at hy
  split at hy
  .rename_i o' Nj;exact T4 id o' Nj
  .have h1:=hs.yd id o hy
   rw [Wx] at h1
   simp only [Ll] at h1
   split at h1
   .cases h1
   .assumption
 have hMk:∀ D,C'.M D->Mark C β w { target:=.collected D,args:=#[] }:=λD hD=>by
  rw [Ln] at hD
  exact hD.elim (hs.df.out D) hs.df.ownC
 have T3:HoldsB C' (Us C' s.nx) ⟨Ym ds,vis,s.nx⟩ β { tmps:=vs.toArray++Array.replicate (C'.nt-vs.toArray.size) undef,defers:=[] } w:=by
  have e1:Us C' s.nx=U:=by rw [hUe,Ln];rfl
  rw [e1]
  refine A90 (nx:=s.nx) (ho:=vis) (by rw [AE];exact hh1) (λx d hx=>?_) hYs (λD hD=>?_) (by rw [Ln];exact hn) hl (λj v d hv hd=>by rw [AE];exact (nD _ _).2 (hr j v d hv hd))
  .rw [AE]
   rw [Ln] at hx
   rcases hx with hx | hx
   .exact (nD _ _).2 hx
   .exact (nD _ _).2 (hs.gh x d (.inr hx))
  .obtain ⟨D',g1,g2,g3,g4⟩:=hMk D hD
   exact ⟨D',g1,g2,by rw [Ln];exact g3,g4⟩
 have Nz:C'=⟨C.P,C.S,C.G,C.w0,fn.ntmps,C'.X,C'.M,none,C'.Y,R⟩:=by rw [Ln];rfl
 have Hl:=h C.S C.G C.w0 C'.X C'.M C'.Y R
 rw [<- Nz] at Hl
 have Ps:C'.nt=fn.ntmps:=by rw [Ln];rfl
 have cX:=Hl body (by rw [hP,Ps];exact Sw) _ w ⟨by rw [Ln];exact hR,β,T3⟩
 have hF:C'.F=Fence.wide:=by rw [Ln];rfl
 rw [hF,hP] at cX
 rw [Ps] at cX
 refine wpIn_mono cX ?_
 have Tw:∀ (s':DS) (a':Act) (w':World),Holds C' s' a' w'->(∃ d,aB s' r=some d/\K ⟨s.sv,s'.ho,s'.nx⟩ d)->
   LeavesInM Fence.wide 0 C.P fn a'.tmps (λe w'=>∃ v d Nj Ba β',e=.returned v/\K ⟨s.sv,Nj,Ba⟩ d/\(∀ id o,hid id=some o->Nj id=none)/\(∀ id,R id->id<Ba)/\
    HoldsB C (λid=>id<Ba/\¬ R id) ⟨s.sv,Ll hid Nj,Ba⟩ β' a w'/\WV C (λid=>id<Ba/\¬ R id) ((⟨s.sv,Ll hid Nj,Ba⟩:DS).vw C) β' w' v d) a'.defers .returning w':=by
  rintro s' ⟨tmps,l⟩ w' ⟨nJ,β',pJ⟩ ⟨d,hd,hK⟩
  have:=ZL (C:=C') (R:=λe w'=>∃ v d Nj Ba β',e=.returned v/\K ⟨s.sv,Nj,Ba⟩ d/\(∀ id o,hid id=some o->Nj id=none)/\(∀ id,R id->id<Ba)/\
    HoldsB C (λid=>id<Ba/\¬ R id) ⟨s.sv,Ll hid Nj,Ba⟩ β' a w'/\WV C (λid=>id<Ba/\¬ R id) ((⟨s.sv,Ll hid Nj,Ba⟩:DS).vw C) β' w' v d) (by rw [hP];exact mI) hd tmps (λv ZQ gF Ct=>by
   have eU:Us C' s'.nx=λid=>id<s'.nx/\¬ R id:=by rw [Ln];rfl
   have eV:s'.vw C'=(⟨s.sv,Ll hid s'.ho,s'.nx⟩:DS).vw C:=bV s'.ho
   obtain ⟨C4,pG⟩:=HH.ctx (C:=C') (C':=C) (by rw [Ln];rfl) (by rw [Ln];rfl) (by rw [Ln];rfl) (by rw [Ln];rfl) gF.hh
   rw [eU,eV] at C4
   have mg:∀ x d,WV C' (Us C' s'.nx) (s'.vw C') β' ZQ x d->WV C (λid=>id<s'.nx/\¬ R id) ((⟨s.sv,Ll hid s'.ho,s'.nx⟩:DS).vw C) β' ZQ x d:=λx d hx=>by
    have:=(pG x d).2 hx
    rwa [eU,eV] at this
   refine ⟨v,d,s'.ho,s'.nx,β',rfl,hK,λid o Nj=>gF.yd id o (by rw [Ln];simp only [Ctx.inner,Ll,Nj]),λid hid=>nJ id (by rw [Ln];exact hid),⟨C4,⟨hs.df.nodup,λd hd=>?_,λD hD=>?_,hs.df.apart⟩,hs.sz,λt=>?_,λx d hx=>?_,λid o hy=>?_⟩,mg _ _ Ct⟩
   .rcases hs.df.own d hd with ⟨D,e,_⟩ | hq
    .subst e
     obtain ⟨D',g1,g2,g3,g4⟩:=gF.df.out D (by rw [Ln];exact .inr hd)
     exact .inl ⟨D',g1,g2,by rw [Ln] at g3;exact g3,g4⟩
    .exact .inr hq
   .obtain ⟨D',g1,g2,g3,g4⟩:=gF.df.out D (by rw [Ln];exact .inl hD)
    exact ⟨D',g1,g2,by rw [Ln] at g3;exact g3,g4⟩
   .exact mg _ _ (gF.gh _ _ (.inl (by rw [Ln];exact hs.sl t)))
   .exact mg _ _ (gF.gh _ _ (.inl (by rw [Ln];exact hs.gh x d hx)))
   .have h1:=hs.yd id o hy
    rw [Wx] at h1
    have Rr:hid id=none:=by
     simp only [Ll] at h1
     split at h1
     .cases h1
     .exact h1
    have h2:=gF.yd id o (by rw [Ln];simp only [Ctx.inner,Ll,Rr];exact hy)
    simp only [Ll,h2,Rr]) l w' pJ
  rw [hP] at this
  exact this
 rintro e a' w' ⟨s',⟨h1,h2⟩,pJ⟩
 rcases h1 with rfl | rfl
 .exact Tw s' a' w' pJ h2
 .exact Tw s' a' w' pJ h2
theorem Bh0(ho:Nat->Option DObj):Ll (λ_=>none) ho=ho:=by
 funext id;unfold Ll;cases ho id <;> rfl
theorem Bh1{f:FuncId}{ds:List DV}{vs:List Value}{K:DS->DV->Prop}(hs:HoldsB C (Us C s.nx) s β a w)(hR:∀ id,C.R id->id<s.nx)(hl:vs.length=ds.length)
  (hr:∀ (j:Nat) (v:Value) (d:DV),vs[j]?=some v->ds[j]?=some d->WV C (Us C s.nx) (s.vw C) β w v d) (hk:Sz C.P f ds s K) :
  Calls C.P f vs.toArray w λe w'=>∃ v d s' β',e=.returned v/\K s' d/\(∀ id,C.R id->id<s'.nx)/\HoldsB C (Us C s'.nx) s' β' a w'/\WV C (Us C s'.nx) (s'.vw C) β' w' v d:=by
 refine (Bg9 (vis:=s.ho) (hid:=λ_=>none) (R:=C.R) hs (λ_=>Dp) hR (Bh0 _).symm (λ_ _ h=>by cases h) hl hr hk).mono ?_
 rintro e w' ⟨v,d,Nj,Ba,β',h1,h2,_,h3,h4,h5⟩
 rw [Bh0] at h4 h5
 exact ⟨v,d,⟨s.sv,Nj,Ba⟩,β',h1,h2,h3,h4,h5⟩
def DS.drops(s:DS)(ids:List Nat):DS:={ s with ho:=λid=>if ids.contains id then none else s.ho id }
def Ca7(s:DS)(ids:List Nat)(ds:List DV):Bool:=
 (ids.all λid=>match s.ho id with | some (.row _ cs)=>(DV.refsL cs).all ids.contains | _=>true)&&(DV.refsL ds).all ids.contains
def dS(P:Program)(f:FuncId)(ds:List DV)(s:DS)(K:DS->DV->Prop):Prop:=
 (∃ R,(∀ x∈ds,x.refs=[])/\DCall P f ds R/\∀ d,R d->K s d)\/
 (∃ fG R,ds.mapM (rz s.ho 5)=some fG/\DCall P f fG R/\∀ d,R d->Plain d/\K s d)\/
 (∃ ids fG R,Ca7 s ids ds=true/\ds.mapM (rz s.ho 5)=some fG/\DCall P f fG R/\∀ d,R d->K (s.drops ids) d)\/
 Sz P f ds s K
theorem B43{V:Nat->Option DObj}{w':World}(hh:HH C U V β w){x:Value}{d:DV}{S:Nat->Prop}(hS:∀ b,S b->Sc C w β b)(h:RelI w' (λb=>(S b\/w.heap.size<=b)/\b<w'.heap.size) x d):RelI w' (Sc C w' β) x d:=by
 refine h.mono λb hb=>⟨?_,rfl⟩
 rcases hb.1 with h1 | h1
 .obtain ⟨h2,h3,h4⟩:=hS b h1
  exact ⟨h2,hb.2,h4⟩
 .refine ⟨.inr (.inl (Es hh.bel.size h1)),hb.2,λid hid=>?_⟩
  have:=hh.lt hid
  omega
theorem Ca8(hs:HoldsB C U s β a w)(x:Value)(d:DV)(h:RK x d):RelI w (Sc C w β) x d:=by
 have h1:=hs.gh x d (.inr h)
 obtain ⟨g,cs,hg,rfl,rfl⟩:=h
 exact ZK (h1.2.1 λid hi=>(by simp [DV.refs] at hi)) (by simp [DV.refs])
theorem Bd2{f:FuncId}{ds:List DV}{vs:List Value}{R:DV->Prop}(hs:HoldsB C U s β a w)(hl:vs.length=ds.length)
  (hr:∀ (j:Nat) (v:Value) (d:DV),vs[j]?=some v->ds[j]?=some d->RelI w (Sc C w β) v d) (hc:DCall C.P f ds R) :
  Calls C.P f vs.toArray w λe w'=>∃ v d,e=.returned v/\R d/\HoldsB C U s β a w'/\WV C U (s.vw C) β w' v d:=by
 refine (hc w (Sc C w β) vs (λb hb=>hb.2.1) hl hr (Ca8 hs)).mono ?_
 rintro e w' ⟨v,r,rfl,hR,hb,Ct⟩
 exact ⟨v,r,rfl,hR,hs.keep hb,wE (B43 hs.hh (λb hb=>hb) Ct)⟩
theorem HoldsB.drops(hs:HoldsB C U s β a w)(ids:List Nat) :
  ∃ β',HoldsB C U (s.drops ids) β' a w/\(∀ b,Sc C w β b->Sc C w β' b)/\∀ id∈ids,(s.ho id).isSome=true->∀ b,β id=some b->Sc C w β' b:=by
 let β':Nat->Option Nat:=λid=>if id∈ids/\(s.ho id).isSome=true then none else β id
 have Nu:∀ j b,β' j=some b->β j=some b/\¬ (j∈ids/\(s.ho j).isSome=true):=λj b hb=>by
  by_cases hj:j∈ids/\(s.ho j).isSome=true
  .simp only [β',Ah hj] at hb;cases hb
  .simp only [β',Ae hj] at hb;exact ⟨hb,hj⟩
 refine ⟨β',?_,λb ⟨h1,h2,h3⟩=>⟨h1,h2,λj hj=>h3 j (Nu j b hj).1⟩,λid hi ha b hb=>⟨.inr (hs.hh.bge id b hb).1,hs.hh.lt hb,λj hj=>?_⟩⟩
 .have hl:=hs.hh.less (U':=U) (β':=β') (V':=(s.drops ids).vw C) (λ_ h=>h) (λid=>?_) (λid=>?_)
  .exact hs.carry rfl (λid o hy=>by simp only [DS.drops];rw [hs.yd id o hy];simp) hl
  .by_cases hi:id∈ids/\(s.ho id).isSome=true
   .refine .inr ⟨by simp [β',hi],?_⟩
    have:=hs.apart hi.2
    simp [DS.vw,Ll,DS.drops,hi.1,this]
   .exact .inl (by simp [β',hi])
  .by_cases hi:id∈ids
   .cases ho:s.ho id with
    | none=>exact .inl (by simp [DS.vw,Ll,DS.drops,ho])
    | some o=>
     have:=hs.apart (i:=id) (by rw [ho];rfl)
     exact .inr (by simp [DS.vw,Ll,DS.drops,hi,this])
   .exact .inl (by simp [DS.vw,Ll,DS.drops,hi])
 .obtain ⟨h1,h2⟩:=Nu j b hj
  have:=hs.hh.inj j id b h1 hb
  subst this
  exact h2 ⟨hi,ha⟩
theorem Ck3{f:FuncId}{ds:List DV}{vs:List Value}{K:DS->DV->Prop}(hs:HoldsB C (Us C s.nx) s β a w)(hR:∀ id,C.R id->id<s.nx)(hl:vs.length=ds.length)
  (hr:∀ (j:Nat) (v:Value) (d:DV),vs[j]?=some v->ds[j]?=some d->WV C (Us C s.nx) (s.vw C) β w v d) (hk:dS C.P f ds s K) :
  Calls C.P f vs.toArray w λe w'=>∃ v d s' β',e=.returned v/\K s' d/\(∀ id,C.R id->id<s'.nx)/\HoldsB C (Us C s'.nx) s' β' a w'/\WV C (Us C s'.nx) (s'.vw C) β' w' v d:=by
 rcases hk with ⟨R,R8,Ny,hK⟩ | ⟨fG,R,hm,Ny,hK⟩ | ⟨ids,fG,R,hg,hm,Ny,hK⟩ | T6
 .refine (Bd2 hs hl (λj v d hv hd=>?_) Ny).mono ?_
  .have h0:=R8 d (Aw hd)
   exact ZK ((hr j v d hv hd).2.1 λid hi=>by rw [h0] at hi;cases hi) h0
  .rintro e w' ⟨v,d,rfl,nJ,h1,h2⟩
   exact ⟨v,d,s,β,rfl,hK d nJ,hR,h1,h2⟩
 .obtain ⟨AN,ou⟩:=mapM_some hm
  refine (Ny w (frz C w) vs (λb hb=>hb.2) (by omega) (λj v d hv hd=>?_) (λx d hx=>(Ca8 hs x d hx).mono λb hb=>⟨⟨hb.1,hb.2.1⟩,rfl⟩)).mono ?_
  .have hj:j<ds.length:=by have:=(Ar.1 hd).1;omega
   exact xN hs.hh (λ_ _=>mV) 5 v ds[j] d (hr j v _ hv (Aa hj)) (ou j _ d (Aa hj) hd)
  .rintro e w' ⟨v,r,rfl,nJ,hb,Ct⟩
   exact ⟨v,r,s,β,rfl,(hK r nJ).2,hR,hs.keep hb,wE (Bn6 Ct (hK r nJ).1)⟩
 .obtain ⟨AN,ou⟩:=mapM_some hm
  simp only [Ca7,Bq,Ay] at hg
  obtain ⟨Dc,Gv⟩:=hg
  obtain ⟨β',h1,h2,h3⟩:=hs.drops ids
  refine (Bd2 h1 (by omega) (λj v d hv hd=>?_) Ny).mono ?_
  .have hj:j<ds.length:=by have:=(Ar.1 hd).1;omega
   have hz:=ou j _ d (Aa hj) hd
   refine Ca6 hs.hh (λ_ _=>mV) (Sc C w β') (λid=>id∈ids) h2 (λid b hi ha hb=>h3 id hi ha b hb) (λid T cs hi ho k hk=>?_) 5 v ds[j] d (λid hi=>?_) (hr j v _ hv (Aa hj)) hz
   .have:=Dc id hi
    rw [ho] at this
    have:=Ay.1 this k hk
    simpa using this
   .have:=Gv id (DV.refsL_mem (Bd hj) hi)
    simpa using this
  .rintro e w' ⟨v,d,rfl,nJ,h4,h5⟩
   exact ⟨v,d,s.drops ids,β',rfl,hK d nJ,hR,h4,h5⟩
 .exact Bh1 hs hR hl hr T6
end
end Go.DD

/- Rounds of a range over a function. -/
namespace Go.DD
open Go.RowKit (Below)
def Zx:List Nat->List DV->(Nat->DV)->Nat->DV
 | p::ps,d::ds,f=>Zx ps ds (λu=>if p=u then d else f u)
 | _,_,f=>f
theorem Br1{W:Value->DV->Prop}{nt:Nat} : ∀ (ps:List Nat) (vs:List Value) (ds:List DV) (tmps:Array Value) (f:Nat->DV),vs.length=ps.length->ds.length=ps.length->
  (∀ t∈ps,t<nt)->tmps.size=nt->(∀ (j:Nat) (v:Value) (d:DV),vs[j]?=some v->ds[j]?=some d->W v d)->(∀ t,W (tmps.getD t undef) (f t))->
  ((ps.zip vs).foldl (λ(t:Array Value) (p:Nat×Value)=>t.setIfInBounds p.1 p.2) tmps).size=nt/\∀ t,W (((ps.zip vs).foldl (λ(t:Array Value) (p:Nat×Value)=>t.setIfInBounds p.1 p.2) tmps).getD t undef) (Zx ps ds f t)
 | [],_,_,tmps,f,_,_,_,Hq,_,hr=>⟨Hq,hr⟩
 | p::ps,[],_,_,_,h,_,_,_,_,_=>by simp at h
 | p::ps,_::_,[],_,_,_,h,_,_,_,_=>by simp at h
 | p::ps,v::vs,d::ds,tmps,f,h1,h2,h3,Hq,hvd,hr=>by
  simp only [List.zip_cons_cons,List.foldl_cons,Zx]
  refine Br1 ps vs ds _ _ (by simpa using h1) (by simpa using h2) (λt ht=>h3 t (by simp [ht])) (by simpa using Hq) (λj u e hu he=>hvd (j+1) u e (by simpa using hu) (by simpa using he)) λt=>?_
  by_cases nz:p=t
  .subst nz
   simp only [Ip]
   have Fb:p<tmps.size:=by rw [Hq];exact h3 p (by simp)
   have:(tmps.setIfInBounds p v).getD p undef=v:=by simp [Fb]
   rw [this];exact hvd 0 v d rfl rfl
  .simp only [nz,Ph]
   have:(tmps.setIfInBounds p v).getD t undef=tmps.getD t undef:=by simp [Ix nz]
   rw [this];exact hr t
def TE(P:Program)(id:Nat)(ds:List DV)(s:DS)(K:DS->DV->Prop):Prop:=
 ∃ lp,s.ho id=some (.loop lp)/\lp.st=.ready/\ds.length=lp.ps.length/\(∀ t∈lp.ps,t<lp.nt)/\∀ (S G:Nat->Prop) (w0:World) (X:Value->DV->Prop) (M:Nat->Prop) (Y:Nat->Option DObj) (R:Nat->Prop) (l:Nat),
  DW ⟨P,S,G,w0,lp.nt,X,M,some l,Y,R⟩ lp.asg (λe s1=>e=.normal/\∃ So,s1.ho id=some (.loop So)/\So.st=.ready/\
   DW ⟨P,S,G,w0,lp.nt,X,M,some l,Y,R⟩ lp.body (λe s2=>∃ Og,s2.ho id=some (.loop Og)/\match e with
    | .normal=>K ⟨s.sv,Gr s2.ho id (some (.loop { Og with st:=.ready,pend:=none })),s2.nx⟩ (.v (.bool true))
    | .ret=>K ⟨s.sv,Gr s2.ho id (some (.loop { Og with st:=.done,pend:=some .ret })),s2.nx⟩ (.v (.bool false))
    | .exit i=>K ⟨s.sv,Gr s2.ho id (some (.loop { Og with st:=.done,pend:=some (.exit i) })),s2.nx⟩ (.v (.bool false))
    | _=>False) (s1.lay id (some (.loop { So with st:=.busy })))) ⟨Zx lp.ps ds lp.sl.get,s.ho,s.nx⟩
section
variable {C:Ctx} {U:Nat->Prop} {s:DS} {β:Nat->Option Nat} {a:Act} {w:World}
theorem HoldsB.mark(hs:HoldsB C U s β a w){id b:Nat}{lp:DLoop}{r:Loop}(hb:β id=some b)(ho:s.ho id=some (.loop lp))(hr:w.heap[b]?=some (.loop r))
  (st:LoopState) (pend:Option Code):HoldsB C U (s.lay id (some (.loop { lp with st:=st,pend:=pend }))) β a (w.putObj b (.loop { r with state:=st,pending:=pend })):=by
 have Fb:b<w.heap.size:=(Ck.1 hr).1
 obtain ⟨b',r',Kj,bY,q1,q2,q3,q4,q5,q6,Ct⟩:=hs.hh.hp id _ (mV ho)
 rw [hb] at Kj;cases Kj
 rw [hr] at bY
 cases bY
 exact (hs.wrote (w':=w.putObj b (.loop { r with state:=st,pending:=pend })) 0 id b (.loop { lp with st:=st,pend:=pend }) hb (by rw [ho];rfl) (λk hk=>World.putObj_heap_other hk) (by simp) rfl rfl rfl
  (λc T hc=>by rw [hr] at hc;cases hc) λUk=>⟨b,_,hb,World.putObj_heap_same Fb,q1,q2,q3,q4,rfl,rfl,λt=>Uk _ _ (Ct t)⟩).1
theorem B44{id b:Nat}{ds:List DV}{vs:List Value}{K:DS->DV->Prop}(hs:HoldsB C (Us C s.nx) s β a w)(hR:∀ id,C.R id->id<s.nx)(hb:β id=some b)(hl:vs.length=ds.length)
  (hr:∀ (j:Nat) (v:Value) (d:DV),vs[j]?=some v->ds[j]?=some d->WV C (Us C s.nx) (s.vw C) β w v d) (hk:TE C.P id ds s K) :
  ∃ fn tmps assign body,(Instr.yield b vs.toArray).run C.P w=.ok (.round b fn tmps assign body) w/\
   RoundIn C.F 0 C.P b fn tmps assign body w λe w'=>∃ v d s' β',e=.returned v/\K s' d/\(∀ id,C.R id->id<s'.nx)/\HoldsB C (Us C s'.nx) s' β' a w'/\WV C (Us C s'.nx) (s'.vw C) β' w' v d:=by
 obtain ⟨lp,ho,Ro,hlen,Ht,h⟩:=hk
 obtain ⟨b',r,Kj,hrb,q1,q2,q3,q4,q5,q6,Ct⟩:=hs.hh.hp id _ (mV ho)
 rw [hb] at Kj;cases Kj
 have Hq:vs.toArray.size=r.params.size:=by rw [List.size_toArray,hl,hlen,<- q1,Ef]
 refine ⟨r.fn,_,r.assign,r.body,run_yield hrb Hq,roundIn_of_wpIn trivial ?_⟩
 obtain ⟨mb,A2⟩:=Br1 (W:=WV C (Us C s.nx) (s.vw C) β w) lp.ps vs ds r.tmps lp.sl.get (by omega) hlen Ht q2 hr Ct
 have mw:(r.params.zip vs.toArray).foldl (λtmps (x:Nat×Value)=>tmps.setIfInBounds x.1 x.2) r.tmps=(lp.ps.zip vs).foldl (λ(t:Array Value) (p:Nat×Value)=>t.setIfInBounds p.1 p.2) r.tmps:=by
  rw [<- Array.foldl_toList,Array.toList_zip,q1]
 obtain ⟨C',Ln⟩:∃ C',C'=C.inner (Us C s.nx) (s.vw C) β a.defers w lp.nt (some b) (λ_=>none) C.R:=⟨_,rfl⟩
 have hY:C'.Y=C.Y:=by rw [Ln];rfl
 have hP:C'.P=C.P:=by rw [Ln];rfl
 have Ps:C'.nt=lp.nt:=by rw [Ln];rfl
 have OQ:∀ nx,Us C' nx=Us C nx:=λnx=>by rw [Ln];rfl
 have hvw:∀ s:DS,s.vw C'=s.vw C:=λs=>by unfold DS.vw;rw [hY]
 have hto:∀ {U:Nat->Prop} {V:Nat->Option DObj} {β:Nat->Option Nat} {w:World},HH C U V β w->HH C' U V β w/\∀ x d,WV C' U V β w x d↔WV C U V β w x d:=λh=>HH.ctx (by rw [Ln];rfl) (by rw [Ln];rfl) (by rw [Ln];rfl) (by rw [Ln];rfl) h
 have NZ:∀ {U:Nat->Prop} {V:Nat->Option DObj} {β:Nat->Option Nat} {w:World},HH C' U V β w->HH C U V β w/\∀ x d,WV C U V β w x d↔WV C' U V β w x d:=λh=>HH.ctx (by rw [Ln];rfl) (by rw [Ln];rfl) (by rw [Ln];rfl) (by rw [Ln];rfl) h
 have ow:∀ {β:Nat->Option Nat} {w:World} {d:Deferred},Mark C' β w d↔Mark C β w d:=by rw [Ln];exact Dp
 have T3:HoldsB C' (Us C' s.nx) ⟨Zx lp.ps ds lp.sl.get,s.ho,s.nx⟩ β { tmps:=(lp.ps.zip vs).foldl (λ(t:Array Value) (p:Nat×Value)=>t.setIfInBounds p.1 p.2) r.tmps,defers:=[] } w:=by
  obtain ⟨g1,g2⟩:=hto hs.hh
  have e:(⟨Zx lp.ps ds lp.sl.get,s.ho,s.nx⟩:DS).vw C'=s.vw C:=hvw s
  refine ⟨by rw [OQ,e];exact g1,⟨List.nodup_nil,(λd hd=>by cases hd),(λD hD=>?_),(λD hD=>by cases hD)⟩,by rw [Ps];exact mb,λt=>by rw [OQ,e];exact (g2 _ _).2 (A2 t),λx d hx=>?_,by rw [hY];exact hs.yd⟩
  .rw [Ln] at hD
   exact ow.2 (hD.elim (hs.df.out D) hs.df.ownC)
  .rw [OQ,e]
   rw [Ln] at hx
   rcases hx with hx | hx
   .exact (g2 _ _).2 hx
   .exact (g2 _ _).2 (hs.gh x d (.inr hx))
 have AB:WV C (Us C s.nx) (s.vw C) β w (.func (.yield b) #[] #[]) (.yl id):=hs.hh.wv (.yl id b hb) λi hi=>by
  obtain rfl:i=id:=by simpa [DV.refs] using hi
  exact sK (by rw [ho];rfl)
 have Nz:C'=⟨C.P,C.S,C.G,C.w0,lp.nt,C'.X,C'.M,some b,C'.Y,C'.R⟩:=by rw [Ln];rfl
 have hX:∀ x d,WV C (Us C s.nx) (s.vw C) β w x d->C'.X x d:=λx d hx=>by rw [Ln];exact hx
 have hRR:C'.R=C.R:=by rw [Ln];rfl
 have Hl:=h C.S C.G C.w0 C'.X C'.M C'.Y C'.R b
 rw [<- Nz] at Hl
 have T9:=Hl r.assign (by rw [hP,Ps];exact q3) _ w ⟨by rw [hRR];exact hR,β,T3⟩
 rw [<- mw] at T9
 have hF:C'.F=C.F.inRound b:=by rw [Ln];rfl
 rw [hF,hP] at T9
 -- the record's block is where it was
 have qU:∀ {s1:DS} {β1:Nat->Option Nat} {a1:Act} {w1:World} {o:DObj},HoldsB C' (Us C' s1.nx) s1 β1 a1 w1->s1.ho id=some o->β1 id=some b:=λ{s1 β1 a1 w1 o} Co pS=>by
  have h1:=(Co.gh _ _ (.inl (hX _ _ AB))).2.1 λi hi=>by
   obtain rfl:i=id:=by simpa [DV.refs] using hi
   exact sK (by rw [pS];rfl)
  obtain ⟨b2,e,bE⟩:=XL h1
  cases e;exact bE
 refine wpIn_mono (F:=C.F.inRound b) T9 ?_
 rintro e a1 w1 ⟨s1,⟨rfl,So,pS,P7,cX⟩,sn,β1,Co⟩
 have Qt:=qU Co pS
 obtain ⟨b1',r1,mK,LX,_,_,_,_,q51,q61,_⟩:=Co.hh.hp id _ (mV pS)
 rw [Qt] at mK;cases mK
 refine ⟨_,run_beginRound LX (by rw [q51,P7]),?_⟩
 have Sq:=Co.mark Qt pS LX .busy So.pend
 rw [<- q61] at Sq
 have mh:({ So with st:=LoopState.busy,pend:=r1.pending } : DLoop) = { So with st:=.busy }:=by rw [q61]
 rw [mh] at Sq
 have hbw:=cX r.body (by rw [hP,Ps];exact q4) a1 _ ⟨sn,β1,Sq⟩
 rw [hF,hP] at hbw
 refine wpIn_mono (F:=C.F.inRound b) hbw ?_
 rintro e a2 w2 ⟨s2,⟨Og,jV,jT⟩,V3,β2,Mf⟩
 have bE:=qU Mf jV
 obtain ⟨b2',r2,OG,LV,_⟩:=Mf.hh.hp id _ (mV jV)
 rw [bE] at OG;cases OG
 have fin:∀ (jump:Option Code) ,K ⟨s.sv,Gr s2.ho id (some (.loop { Og with st:=if jump.isNone then .ready else .done,pend:=jump })),s2.nx⟩ (.v (.bool jump.isNone))->
   ∃ v w',(Instr.endRound b jump).run C.P w2=.ok v w'/\∃ v' d s' β',Ending.returned v=.returned v'/\K s' d/\(∀ id,C.R id->id<s'.nx)/\HoldsB C (Us C s'.nx) s' β' a w'/\WV C (Us C s'.nx) (s'.vw C) β' w' v' d:=λjump hK=>by
  have Hr:=Mf.mark bE jV LV (if jump.isNone then .ready else .done) jump
  obtain ⟨s3,P9⟩:∃ s3,s2.lay id (some (.loop { Og with st:=if jump.isNone then .ready else .done,pend:=jump }))=s3:=⟨_,rfl⟩
  rw [P9] at Hr
  have aZ:s3.nx=s2.nx:=by rw [<- P9];rfl
  have VZ:K ⟨s.sv,s3.ho,s3.nx⟩ (.v (.bool jump.isNone)):=by rw [<- P9];exact hK
  obtain ⟨g1,g2⟩:=NZ Hr.hh
  have e:s3.vw C'=(⟨s.sv,s3.ho,s3.nx⟩:DS).vw C:=hvw s3
  rw [OQ,e] at g1 g2
  have g3:∀ x d,WV C' (Us C' s2.nx) (s3.vw C') β2 _ x d->WV C (Us C s2.nx) ((⟨s.sv,s3.ho,s3.nx⟩:DS).vw C) β2 _ x d:=λx d hx=>by
   rw [OQ,e] at hx;exact (g2 x d).2 hx
  refine ⟨_,_,run_endRound jump LV,_,_,⟨s.sv,s3.ho,s3.nx⟩,β2,rfl,VZ,λid hid=>by simp only [aZ];exact V3 id (by rw [hRR];exact hid),?_,WV.v _⟩
  simp only [aZ]
  refine ⟨by rw [<- aZ];simpa only [aZ] using g1,⟨hs.df.nodup,λd hd=>?_,λD hD=>?_,hs.df.apart⟩,hs.sz,λt=>?_,λx d hx=>?_,λi o hy=>?_⟩
  .rcases hs.df.own d hd with ⟨D,e,_⟩ | hq
   .subst e
    exact .inl (ow.1 (Hr.df.out D (by rw [Ln];exact .inr hd)))
   .exact .inr hq
  .exact ow.1 (Hr.df.out D (by rw [Ln];exact .inl hD))
  .have:=g3 _ _ (Hr.gh _ _ (.inl (hX _ _ (hs.sl t))))
   simpa only [aZ] using this
  .have:=g3 _ _ (Hr.gh _ _ (.inl (hX _ _ (hs.gh x d hx))))
   simpa only [aZ] using this
  .exact Hr.yd i o (by rw [hY];exact hy)
 cases e with
 | normal=>exact fin none jT
 | ret=>exact fin (some .ret) jT
 | exit i=>exact fin (some (.exit i)) jT
 | _=>exact jT.elim
end
end Go.DD
