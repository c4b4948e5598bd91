/- A part. -/
import Derived.Test.YtnphfnhhpcelbaaGreatZa
import Derived.Laws.CopyRow
import Derived.Laws.Slices
import Derived.Laws.IdiomStrings
import Derived.Laws.OwnMore
import Derived.Laws.MakeOwn
import Derived.Maps.AppendAt
import Derived.MapKept
import Derived.ChangeKeysEq
import Derived.WideKeyRuns
namespace Go.DD
open Go.RowKit (Below)
section ops
variable {C:Ctx} {U:Nat→Prop} {s:DS} {β:Nat→Option Nat} {a:Act} {w:World} {o:Oper} {d:DV} {s':DS} {nid:Nat}
theorem Ab7 {P:Program} {t:TypeId} (h:P.cellsOf t≠0) (w:World):(sizeOf t).run P w=.ok (P.cellsOf t) w:=by
 unfold Program.cellsOf at *
 cases hi:P.info? t with
 | none=>simp [hi] at h
 | some i=>simp [sizeOf,typeInfo,hi]
theorem Ag7 {P:Program} {t:TypeId} {k:Option Nat} (hk:tkind P t=some k) (ad:Addr) (us:List Value) (hc:∀ (j:Nat) (u:Value),us[j]?=some u→w.cell? (ad.add j)=some u) :
  (k=none→∀ u,us[0]?=some u→(loadVar t ad).run P w=.ok u w)∧(∀ n,k=some n→n≤us.length→(loadVar t ad).run P w=.ok (.agg (us.take n).toArray) w):=by
 constructor
 ·rintro rfl u hu
  obtain ⟨h1,_,_⟩:=Af1 hk w
  have:=hc 0 u hu
  simp [Addr.add] at this
  simp [loadVar,h1,this]
 ·rintro n rfl hn
  obtain ⟨h1,h2,_⟩:=Ak0 hk w
  have h3:=run_loadCells_list (P:=P) w ad (us.take n) (fun j v hv=>hc j v (by
   rw [List.getElem?_take] at hv
   split at hv
   ·exact hv
   ·cases hv))
  rw [List.length_take,Nat.min_eq_left hn] at h3
  simp [loadVar,h1,h2,h3]
theorem Au5 {al:Nat→Prop} {x:Value} {d:DV} (h:RelI w al x d):d.refs=[]:=by
 have hl:∀ cs:List DV,(∀ d∈cs,d.refs=[])→DV.refsL cs=[]:=fun cs=>by
  induction cs with
  | nil=>intro _; rfl
  | cons c cs ih=>intro hc; simp only [DV.refsL]; rw [hc c (by simp),ih fun d hd=>hc d (by simp [hd])]; rfl
 induction h with
 | any x=>rfl
 | v x=>rfl
 | agg vs cs hl' _ _ ih=>
  rw [DV.refs]
  refine hl cs fun d hd=>?_
  obtain ⟨j,hj,rfl⟩:=List.mem_iff_getElem.1 hd
  exact ih j vs[j] _ (List.getElem?_eq_getElem (by omega)) (List.getElem?_eq_getElem hj)
 | tup vs cs hl' _ ih=>
  rw [DV.refs]
  refine hl cs fun d hd=>?_
  obtain ⟨j,hj,rfl⟩:=List.mem_iff_getElem.1 hd
  exact ih j vs[j] _ (List.getElem?_eq_getElem (by omega)) (List.getElem?_eq_getElem hj)
 | fn f us vs cs hl' _ ih=>
  rw [DV.refs]
  refine hl cs fun d hd=>?_
  obtain ⟨j,hj,rfl⟩:=List.mem_iff_getElem.1 hd
  exact ih j (Value.tuple us.toArray :: vs)[j] _ (List.getElem?_eq_getElem (by omega)) (List.getElem?_eq_getElem hj)
 | ifc T u d _ ih=>rw [DV.refs]; exact ih
 | _=>rfl
theorem Al3 {V:Nat→Option DObj} {x:Value} {d:DV} (h:RelI w (alw C w β) x d):WV C U V β w x d:=WV.flat (.imm _ _ h) (Au5 h)
theorem As4 {V:Nat→Option DObj} {k:Option Nat} {us:List Value} {cs:List DV} (hl:cs.length≤us.length) (ho:∀ (j:Nat) (u:Value),us[j]?=some u→j < cs.length→u.oneCell'=true)
  (hr:∀ (j:Nat) (u:Value) (d:DV),us[j]?=some u→cs[j]?=some d→WV C U V β w u d) (hp:partD k cs=some d) :
  (k=none→∃ u,us[0]?=some u∧WV C U V β w u d)∧(∀ n,k=some n→n≤us.length∧WV C U V β w (.agg (us.take n).toArray) d):=by
 cases k with
 | none=>
  refine ⟨fun _=>?_,fun n hn=>(by cases hn)⟩
  simp only [partD] at hp
  split at hp
  ·rename_i c tl
   cases hp
   have h0:0 < us.length:=by simp at hl; omega
   exact ⟨us[0],List.getElem?_eq_getElem h0,hr 0 _ _ (List.getElem?_eq_getElem h0) (by simp)⟩
  ·cases hp
 | some n=>
  refine ⟨fun h=>(by cases h),fun n' hn'=>?_⟩
  cases hn'
  simp only [partD] at hp
  split at hp
  rotate_left
  ·cases hp
  rename_i hn
  cases hp
  have hget:∀ (j:Nat) (u:Value) (d:DV),(us.take n)[j]?=some u→(cs.take n)[j]?=some d→WV C U V β w u d:=fun j u d hu hd=>by
   rw [List.getElem?_take] at hu hd
   split at hu
   ·exact hr j u d hu (by simpa [*] using hd)
   ·cases hu
  have hlt:(us.take n).length=(cs.take n).length:=by simp; omega
  refine ⟨by omega,fun id hi=>?_,fun ha=>.agg (us.take n) (cs.take n) hlt (fun u hu=>?_) fun j u d hu hd=>?_,TP.nt fun _ h=>by cases h⟩
  ·rw [DV.refs] at hi
   obtain ⟨d,hd,hi⟩:=DV.mem_refsL hi
   obtain ⟨j,hj,rfl⟩:=List.mem_iff_getElem.1 hd
   exact (hget j (us.take n)[j] _ (List.getElem?_eq_getElem (by omega)) (List.getElem?_eq_getElem hj)).1 id hi
  ·obtain ⟨j,hj,rfl⟩:=List.mem_iff_getElem.1 hu
   simp at hj
   refine ho j _ ?_ (by omega)
   rw [List.getElem_take]
   exact List.getElem?_eq_getElem (by omega)
  ·exact (hget j u d hu hd).2.1 fun id hi=>ha id (by rw [DV.refs]; exact DV.refsL_mem (List.mem_of_getElem? hd) hi)
theorem HoldsB.row (hs:HoldsB C U s β a w) {id b:Nat} {T:TypeId} {cs:List DV} (hb:β id=some b) (ho:s.ho id=some (.row T cs)) :
  ∃ c:Array Value,w.heap[b]?=some (.cells c T (0,0))∧cs.length≤c.size∧(isArr C.P T=true→c.size=cs.length)∧∀ (j:Nat) (u:Value) (d:DV),c[j]?=some u→cs[j]?=some d→WV C U (s.vw C) β w u d∧u.oneCell'=true:=by
 rcases hs.hh.hp id _ (Ad9 ho) with ⟨h1,_⟩ | ⟨b',c,hb',hc,hl,hx,hr⟩
 ·rw [hb] at h1; cases h1
 ·rw [hb] at hb'; cases hb'; exact ⟨c,hc,hl,hx,hr⟩
theorem Am9 {b off:Nat} {c:Array Value} {T:TypeId} {f:Nat×Nat} (h:w.heap[b]?=some (.cells c T f)) (j:Nat) (u:Value) (hu:(c.toList.drop off)[j]?=some u) :
  w.cell? ((⟨b,off,none⟩:Addr).add j)=some u:=by
 rw [Addr.add_lit,cell_of_row w b (off+j) c T f h]
 simpa using hu
theorem By9 {k:Option Nat} {t:TypeId} {x:Operand} {cs:List DV} (ho:o.op=.load t x) (hk:tkind C.P t=some k) (hs:HoldsB C U s β a w) (hx:s.ev x=.ia cs) (hp:partD k cs=some d):OpOk C U a w o d s:=by
 have h1:=hs.ev x
 rw [hx] at h1
 obtain ⟨ad,us,e1,hl,_,h1c,hc,hr⟩:=Ay1 h1
 obtain ⟨g1,g2⟩:=Ag7 hk ad us hc
 obtain ⟨p1,p2⟩:=As4 (C:=C) (U:=U) (V:=s.vw C) (w:=w) (β:=β) (by omega) (fun j u hu _=>h1c u (List.mem_of_getElem? hu)) (fun j u d hu hd=>Al3 (hr j u d hu hd)) hp
 cases k with
 | none=>
  obtain ⟨u,hu,hrel⟩:=p1 rfl
  exact .same hs (by simp [execOp,ho,e1,Instr.loadAt,Instr.sureAddr,g1 rfl u hu]) hrel
 | some n=>
  obtain ⟨hn,hrel⟩:=p2 n rfl
  exact .same hs (by simp [execOp,ho,e1,Instr.loadAt,Instr.sureAddr,g2 n rfl hn]) hrel
theorem Bz0 {k:Option Nat} {t T:TypeId} {x:Operand} {id off:Nat} {cs:List DV} (ho:o.op=.load t x) (hk:tkind C.P t=some k) (hs:HoldsB C U s β a w) (hx:s.ev x=.pt id off)
  (hid:s.ho id=some (.row T cs)) (hp:partD k (cs.drop off)=some d):OpOk C U a w o d s:=by
 have h1:=hs.ev x
 rw [hx] at h1
 obtain ⟨b,e1,hb⟩:=Ai3 h1
 obtain ⟨c,hw,hl,_,hr⟩:=hs.row hb hid
 obtain ⟨g1,g2⟩:=Ag7 hk ⟨b,off,none⟩ (c.toList.drop off) (Am9 hw)
 obtain ⟨p1,p2⟩:=As4 (C:=C) (U:=U) (V:=s.vw C) (w:=w) (β:=β) (us:=c.toList.drop off) (cs:=cs.drop off) (by simp; omega)
  (fun j u hu hj=>by
   have hj':off+j < cs.length:=by simp at hj; omega
   exact (hr (off+j) u _ (by simpa using hu) (List.getElem?_eq_getElem hj')).2)
  (fun j u d hu hd=>(hr (off+j) u d (by simpa using hu) (by simpa using hd)).1) hp
 cases k with
 | none=>
  obtain ⟨u,hu,hrel⟩:=p1 rfl
  exact .same hs (by simp [execOp,ho,e1,Instr.loadAt,Instr.sureAddr,g1 rfl u hu]) hrel
 | some n=>
  obtain ⟨hn,hrel⟩:=p2 n rfl
  exact .same hs (by simp [execOp,ho,e1,Instr.loadAt,Instr.sureAddr,g2 n rfl hn]) hrel
theorem Cm2 {k:Option Nat} {t:TypeId} {x:Operand} {i:Nat} {fs:Array Field} {f:Field} {cs:List DV} (ho:o.op=.field t x i) (ht:C.P.underlying t=some (.struct fs)) (hf:fs[i]?=some f)
  (hk:tkind C.P f.type=some k) (hs:HoldsB C U s β a w) (hx:s.ev x=.agg cs) (hp:partD k (cs.drop f.offset)=some d):OpOk C U a w o d s:=by
 have h1:=hs.ev x
 rw [hx] at h1
 obtain ⟨vs,e1,hl,h1c,hr⟩:=Aq6 h1
 obtain ⟨p1,p2⟩:=As4 (C:=C) (U:=U) (V:=s.vw C) (w:=w) (β:=β) (us:=vs.drop f.offset) (cs:=cs.drop f.offset) (by simp; omega)
  (fun j u hu _=>h1c u (by have:=List.mem_of_getElem? hu; exact List.mem_of_mem_drop this))
  (fun j u d hu hd=>hs.evp x (hr (f.offset+j) u d (by simpa using hu) (by simpa using hd)) fun id hi=>by
   rw [hx,DV.refs]
   exact DV.refsL_mem (List.mem_of_getElem? (by simpa using hd)) hi) hp
 cases k with
 | none=>
  obtain ⟨u,hu,hrel⟩:=p1 rfl
  obtain ⟨g1,_,_⟩:=Af1 hk w
  have hu':vs[f.offset]?=some u:=by simpa using hu
  exact .same hs (by simp [execOp,ho,e1,Instr.field,run_underlying ht,hf,asAgg,part,g1,hu']) hrel
 | some n=>
  obtain ⟨hn,hrel⟩:=p2 n rfl
  obtain ⟨g1,g2,_⟩:=Ak0 hk w
  have he:vs.toArray.extract f.offset (f.offset+n)=(List.take n (List.drop f.offset vs)).toArray:=by
   apply Array.ext'
   simp [List.take_drop]
  refine .same hs ?_ hrel
  simp [execOp,ho,e1,Instr.field,run_underlying ht,hf,asAgg,part,g1,g2,List.extract_eq_take_drop]
theorem Cm3 {x:Operand} (ho:o.op=.nilCheck x) (hs:HoldsB C U s β a w) (hx:(∃ cs,s.ev x=.ia cs)∨(∃ id off,s.ev x=.pt id off)∨(∃ f cs,s.ev x=.fn (.func f) cs)∨∃ T d,s.ev x=.ifc T d):OpOk C U a w o (s.ev x) s:=by
 have h1:=hs.ev x
 refine .same hs (x:=a.eval x) ?_ (hs.evw x)
 rcases hx with ⟨cs,hx⟩ | ⟨id,off,hx⟩ | ⟨f,cs,hx⟩ | ⟨T,d,hx⟩ <;> rw [hx] at h1
 ·obtain ⟨ad,us,e1,_⟩:=Ay1 h1
  simp [execOp,ho,e1]
 ·obtain ⟨b,e1,hb⟩:=Ai3 h1
  simp [execOp,ho,e1]
 ·obtain ⟨us,vs,e1,_⟩:=A51 h1
  simp [execOp,ho,e1]
 ·obtain ⟨u,e1,_⟩:=Al1 h1
  simp [execOp,ho,e1]
theorem Au6 {P:Program} {al:Nat→Prop} {ad:Addr} {us:List Value} {cs:List DV} (m:Nat) (hl:us.length=cs.length) (ha:al ad.block) (h1:∀ u∈us,u.oneCell'=true)
  (hc:∀ (j:Nat) (u:Value),us[j]?=some u→w.cell? (ad.add j)=some u) (h:∀ (j:Nat) (u:Value) (d:DV),us[j]?=some u→cs[j]?=some d→RelI w al u d) :
  Rel P w al β (.pointer (some (ad.add m))) (.ia (cs.drop m)):=
 .imm _ _ (.ia (ad.add m) (us.drop m) (cs.drop m) (by simp [hl]) (by rw [block_add]; exact ha) (fun u hu=>h1 u (List.mem_of_mem_drop hu))
  (fun j u hu=>by rw [add_add]; exact hc _ u (by simpa using hu)) fun j u d hu hd=>h (m+j) u d (by simpa using hu) (by simpa using hd))
theorem ok_fa {t:TypeId} {x:Operand} {i:Nat} {fs:Array Field} {f:Field} (ho:o.op=.fieldAddr t x i) (ht:C.P.underlying t=some (.struct fs)) (hf:fs[i]?=some f) (hz:C.P.cellsOf f.type≠0)
  (hs:HoldsB C U s β a w):(∀ cs,s.ev x=.ia cs→OpOk C U a w o (.ia (cs.drop f.offset)) s)∧(∀ id off,s.ev x=.pt id off→OpOk C U a w o (.pt id (off+f.offset)) s):=by
 have h1:=hs.ev x
 constructor
 ·intro cs hx
  rw [hx] at h1
  obtain ⟨ad,us,e1,hl,ha,h1c,hc,hr⟩:=Ay1 h1
  refine .same hs ?_ (WV.flat (Au6 f.offset hl ha h1c hc hr) rfl)
  simp [execOp,ho,e1,Instr.fieldAt,run_underlying ht,hf,Instr.sureAddr,fieldPlace,Ab7 hz,hz]
 ·intro id off hx
  rw [hx] at h1
  obtain ⟨b,e1,hb⟩:=Ai3 h1
  refine .same hs ?_ (hs.evp x (.pt id (off+f.offset) b hb) (by rw [hx]; simp [DV.refs]))
  simp [execOp,ho,e1,Instr.fieldAt,run_underlying ht,hf,Instr.sureAddr,fieldPlace,Ab7 hz,hz,Addr.add_lit]
theorem Ao0 {P:Program} {al:Nat→Prop} {x:Value} {d:DV} {n:Int} (h:Rel P w al β x d) (hd:intD d=some n):∃ k,x=.int k n:=by
 unfold intD at hd
 split at hd
 ·cases hd; exact ⟨_,rel_v h⟩
 ·cases hd
theorem ok_ia {t e:TypeId} {x i:Operand} {j:Int} (ho:o.op=.indexAddr t x i) (ht:C.P.underlying t=some (.slice e)) (hz:C.P.cellsOf e≠0) (hs:HoldsB C U s β a w) (hi:intD (s.ev i)=some j) (h0:0≤j) :
  (∀ cs n,s.ev x=.sl cs n→j < n→OpOk C U a w o (.ia (cs.drop (j.toNat*C.P.cellsOf e))) s)∧(∀ id off n es,s.ev x=.ms id off n es→j < n→OpOk C U a w o (.pt id (off+j.toNat*C.P.cellsOf e)) s):=by
 have h1:=hs.ev x
 obtain ⟨k,hk⟩:=Ao0 (hs.ev i) hi
 constructor
 ·intro cs n hx hj
  rw [hx] at h1
  rcases Au3 h1 with ⟨_,_,_,_,rfl⟩ | ⟨ad,cap,us,e1,hl,hn,ha,h1c,hc,hr⟩
  ·omega
  ·refine .same hs ?_ (WV.flat (Au6 _ hl ha h1c hc hr) rfl)
   simp [execOp,ho,e1,hk,Instr.indexAt,run_underlying ht,asIntOf,h0,hj,Ab7 hz]
 ·intro id off n es hx hj
  rw [hx] at h1
  rcases Al2 h1 with ⟨_,_,rfl⟩ | ⟨b,cap,c,T,e1,hb,hw,hn,hm,hcap⟩
  ·omega
  ·refine .same hs ?_ (hs.evp x (.pt id _ b hb) (by rw [hx]; simp [DV.refs]))
   simp [execOp,ho,e1,hk,Instr.indexAt,run_underlying ht,asIntOf,h0,hj,Ab7 hz,Addr.add_lit]
theorem ok_fx {t e:TypeId} {n:Nat} {x i:Operand} {j:Int} (ho:o.op=.indexAddr t x i) (ht:C.P.underlying t=some (.array n e)) (hz:C.P.cellsOf e≠0) (hs:HoldsB C U s β a w) (hi:intD (s.ev i)=some j) (h0:0≤j) (hj:j < n) :
  (∀ cs,s.ev x=.ia cs→OpOk C U a w o (.ia (cs.drop (j.toNat*C.P.cellsOf e))) s)∧(∀ id off,s.ev x=.pt id off→OpOk C U a w o (.pt id (off+j.toNat*C.P.cellsOf e)) s):=by
 have h1:=hs.ev x
 obtain ⟨k,hk⟩:=Ao0 (hs.ev i) hi
 constructor
 ·intro cs hx
  rw [hx] at h1
  obtain ⟨ad,us,e1,hl,ha,h1c,hc,hr⟩:=Ay1 h1
  refine .same hs ?_ (WV.flat (Au6 _ hl ha h1c hc hr) rfl)
  simp [execOp,ho,e1,hk,Instr.indexAt,run_underlying ht,asIntOf,h0,hj,Ab7 hz,Instr.sureAddr]
 ·intro id off hx
  rw [hx] at h1
  obtain ⟨b,e1,hb⟩:=Ai3 h1
  refine .same hs ?_ (hs.evp x (.pt id _ b hb) (by rw [hx]; simp [DV.refs]))
  simp [execOp,ho,e1,hk,Instr.indexAt,run_underlying ht,asIntOf,h0,hj,Ab7 hz,Addr.add_lit,Instr.sureAddr]
theorem Cm4 {t t' e:TypeId} {x:Operand} {b:ByteArray} (ho:o.op=.convert t t' x) (hs':C.P.underlying t=some .string) (hd:C.P.underlying t'=some (.slice e)) (he:C.P.underlying e=some (.int .u8)) (hs:HoldsB C U s β a w) (hx:s.ev x=.v (.string b)) :
  OpOk C U a w o (.sl (b.data.toList.map fun c=>.v (.int .u8 (c.toNat:Int))) b.size) s:=by
 have h1:=hs.ev x
 rw [hx] at h1
 obtain ⟨w',hw'⟩:∃ w',w.drew.alloc (.cells (bytesRow b (grownCap w b.size 0 e)) e ((bytesRow b (grownCap w b.size 0 e)).size,(bytesRow b (grownCap w b.size 0 e)).size+1))=w':=⟨_,rfl⟩
 have hrun:=run_bytes_of_string (P:=C.P) w t t' e b hs' hd he
 rw [hw'] at hrun
 have hbl:Below w.heap.size w w':=by rw [← hw']; exact ((Below.refl _ _).drew).alloc (by simp) _
 have hnew:w'.heap[w.heap.size]?=some (.cells (bytesRow b (grownCap w b.size 0 e)) e ((bytesRow b (grownCap w b.size 0 e)).size,(bytesRow b (grownCap w b.size 0 e)).size+1)):=by
  rw [← hw']
  exact heap_alloc_new w.drew (.cells (bytesRow b (grownCap w b.size 0 e)) e ((bytesRow b (grownCap w b.size 0 e)).size,(bytesRow b (grownCap w b.size 0 e)).size+1))
 have hlt:w.heap.size < w'.heap.size:=(Array.getElem?_eq_some_iff.1 hnew).1
 refine ⟨_,w',β,_,?_,.inl rfl,hs.keep hbl,Al3 (.sl ⟨w.heap.size,0,none⟩ b.size (grownCap w b.size 0 e) (b.data.toList.map fun c=>.int .u8 (c.toNat:Int)) _ (by simp) (grownCap_ge w b.size 0 e) ⟨.inr (.inl hs.hh.bel.size),hlt,fun id hid=>by have h9:=hs.hh.lt hid; simp only at h9; omega⟩ (fun u hu=>?_) (fun j u hu=>?_) (fun j u d hu hd=>?_))⟩
 ·simp [execOp,ho,rel_v h1,hrun]
 ·obtain ⟨c,_,rfl⟩:=List.mem_map.1 hu
  rfl
 ·rw [Addr.add_lit,cell_of_row w' _ _ _ _ _ hnew]
  have hj:j < b.data.toList.length:=by have:=(List.getElem?_eq_some_iff.1 hu).1; simpa using this
  simp only [bytesRow,Nat.zero_add]
  rw [Array.getElem?_append_left (by simpa using hj)]
  rw [← Array.getElem?_toList]
  simpa using hu
 ·simp only [List.getElem?_map,Option.map_eq_some_iff] at hu hd
  obtain ⟨c,hc,rfl⟩:=hu
  obtain ⟨c',hc',rfl⟩:=hd
  rw [hc] at hc'; cases hc'
  exact .v _
theorem Cm5 {t:TypeId} {x i:Operand} {j:Int} {b:ByteArray} {c:UInt8} (ho:o.op=.index t x i) (ht:C.P.underlying t=some .string) (hs:HoldsB C U s β a w) (hi:intD (s.ev i)=some j) (h0:0≤j)
  (hx:s.ev x=.v (.string b)) (hc:b[j.toNat]?=some c):OpOk C U a w o (.v (.int .u8 (c.toNat:Int))) s:=by
 have h1:=hs.ev x
 rw [hx] at h1
 obtain ⟨k,hk⟩:=Ao0 (hs.ev i) hi
 refine .same hs ?_ (WV.v _)
 simp [execOp,ho,rel_v h1,hk,Instr.index,run_underlying ht,asIntOf,h0,hc]
theorem Ce6 (hs:HoldsB C U s β a w) {x:Option Operand} {dflt n:Int} (h:bndD s dflt x=some n):(x=none∧n=dflt)∨∃ y k,x=some y∧a.eval y=.int k n:=by
 unfold bndD at h
 split at h
 ·cases h; exact .inl ⟨rfl,rfl⟩
 ·rename_i y
  obtain ⟨k,hk⟩:=Ao0 (hs.ev y) h
  exact .inr ⟨y,k,rfl,hk⟩
theorem Ah2 {P:Program} {isS:Bool} {len cap:Nat} {lo hi:Option Value} {l h:Int} (hlo:(lo=none∧l=0)∨∃ k,lo=some (.int k l)) (hhi:(hi=none∧h=len)∨∃ k,hi=some (.int k h))
  (h0:0≤l) (hlh:l≤h) (hh:h≤cap) (w:World):(Instr.sliceBounds isS len cap lo hi none).run P w=.ok (l.toNat,h.toNat,cap) w:=by
 have e1:((h.toNat:Nat):Int)=h:=by omega
 rcases hlo with ⟨rfl,rfl⟩ | ⟨k,rfl⟩ <;> rcases hhi with ⟨rfl,rfl⟩ | ⟨k',rfl⟩
 ·simp [Instr.sliceBounds]
 ·simp [Instr.sliceBounds,Instr.sliceBound,asIntOf,hh,show 0≤h by omega]
 ·simp [Instr.sliceBounds,Instr.sliceBound,asIntOf,h0,hlh]
 ·simp [Instr.sliceBounds,Instr.sliceBound,asIntOf,h0,hh,show 0≤h by omega]
  omega
theorem bnds (hs:HoldsB C U s β a w) {x:Option Operand} {dflt n:Int} (h:bndD s dflt x=some n):(x.map a.eval=none∧n=dflt)∨∃ k,x.map a.eval=some (.int k n):=by
 rcases Ce6 hs h with ⟨rfl,rfl⟩ | ⟨y,k,rfl,hk⟩
 ·exact .inl ⟨rfl,rfl⟩
 ·exact .inr ⟨k,by simp [hk]⟩
theorem Bn2 {t e:TypeId} {x:Operand} {lo hi:Option Operand} {l h:Int} (ho:o.op=.slice t x lo hi none) (ht:C.P.underlying t=some (.slice e)) (hinfo:(C.P.info? e).isSome=true) (hs:HoldsB C U s β a w) :
  (∀ cs n,s.ev x=.sl cs n→bndD s 0 lo=some l→bndD s n hi=some h→0≤l→l≤h→h≤n→OpOk C U a w o (.sl ((cs.drop (l.toNat*C.P.cellsOf e)).take ((h.toNat - l.toNat)*C.P.cellsOf e)) (h.toNat - l.toNat)) s)∧
  (∀ id off n,s.ev x=.ms id off n (C.P.cellsOf e)→bndD s 0 lo=some l→bndD s n hi=some h→0≤l→l≤h→h≤n→OpOk C U a w o (if l < h∨l=0 then .ms id (off+l.toNat*C.P.cellsOf e) (h.toNat - l.toNat) (C.P.cellsOf e) else .sl [] 0) s)∧
  (s.ev x=.v (.slice none 0 0)→bndD s 0 lo=some l→bndD s 0 hi=some h→l=0→h=0→OpOk C U a w o (.v (.slice none 0 0)) s):=by
 have h1:=hs.ev x
 have hsz:(sizeOf e).run C.P w=.ok (C.P.cellsOf e) w:=by
  obtain ⟨i,hi⟩:=Option.isSome_iff_exists.1 hinfo
  simp [sizeOf,typeInfo,hi,Program.cellsOf]
 refine ⟨?_,?_,?_⟩
 ·intro cs n hx hlo hhi h0 hlh hhn
  rw [hx] at h1
  rcases Au3 h1 with ⟨ad,cap,e1,rfl,rfl⟩ | ⟨ad,cap,us,e1,hl,hn,ha,h1c,hc,hr⟩
  ·have:l=0:=by omega
   have:h=0:=by omega
   subst l; subst h
   refine .same hs (x:=.slice (if cap=0 then ad else ad.map (·.add (0*C.P.cellsOf e))) 0 cap) ?_ (by simpa using Al3 (.sl0 _ _))
   have hb:=Ah2 (P:=C.P) (isS:=true) (len:=0) (cap:=cap) (bnds hs hlo) (bnds hs hhi) (Int.le_refl _) (Int.le_refl _) (by omega) w
   simp [execOp,ho,e1,Instr.sliceAt,Instr.slice,run_underlying ht,hb,hsz]
  ·have hb:=Ah2 (P:=C.P) (isS:=true) (len:=n) (cap:=cap) (bnds hs hlo) (bnds hs hhi) h0 hlh (by omega) w
   by_cases hcl:cap=l.toNat
   ·subst hcl
    have e2:h.toNat=l.toNat:=by omega
    refine .same hs (x:=.slice (some ad) 0 0) ?_ ?_
    ·simp [execOp,ho,e1,Instr.sliceAt,Instr.slice,run_underlying ht,hb,hsz,e2]
    ·rw [e2]; simpa using Al3 (.sl0 _ _)
   ·refine .same hs (x:=.slice (some (ad.add (l.toNat*C.P.cellsOf e))) (h.toNat - l.toNat) (cap - l.toNat)) ?_ ?_
    ·simp [execOp,ho,e1,Instr.sliceAt,Instr.slice,run_underlying ht,hb,hsz,hcl]
    ·refine Al3 (.sl _ _ _ ((us.drop (l.toNat*C.P.cellsOf e)).take ((h.toNat - l.toNat)*C.P.cellsOf e)) _ (by simp [hl]) (by omega) (by rw [block_add]; exact ha) (fun u hu=>h1c u (List.mem_of_mem_drop (List.mem_of_mem_take hu)))
      (fun j u hu=>?_) fun j u d hu hd=>?_)
     ·rw [List.getElem?_take] at hu
      split at hu
      ·rw [add_add]; exact hc _ u (by simpa using hu)
      ·cases hu
     ·rw [List.getElem?_take] at hu hd
      split at hu
      ·exact hr (l.toNat*C.P.cellsOf e+j) u d (by simpa using hu) (by simpa [*] using hd)
      ·cases hu
 ·intro id off n hx hlo hhi h0 hlh hhn
  rw [hx] at h1
  rcases Al2 h1 with ⟨e1,rfl,rfl⟩ | ⟨b,cap,c,T,e1,hb,hw,hn,hm,hcap⟩
  ·have h2:l=0:=by omega
   have h3:h=0:=by omega
   subst h2; subst h3
   have hbd:=Ah2 (P:=C.P) (isS:=true) (len:=0) (cap:=0) (bnds hs hlo) (bnds hs hhi) (Int.le_refl _) (Int.le_refl _) (by omega) w
   rw [if_pos (.inr rfl)]
   refine .same hs (x:=.slice none 0 0) ?_ (hs.evp x (by simpa using .ms0 id (C.P.cellsOf e)) (by rw [hx]; simp [DV.refs]))
   simp [execOp,ho,e1,Instr.sliceAt,Instr.slice,run_underlying ht,hbd,hsz]
  ·have hbd:=Ah2 (P:=C.P) (isS:=true) (len:=n) (cap:=cap) (bnds hs hlo) (bnds hs hhi) h0 (by omega) (by omega) w
   by_cases hc:l < h∨l=0
   ·rw [if_pos hc]
    by_cases hcl:cap=l.toNat
    ·have h2:l=0:=by omega
     subst h2
     have h3:cap=0:=by simpa using hcl
     subst h3
     have h4:h=0:=by omega
     subst h4
     have hrel:Rel C.P w (alw C w β) β (.slice (some ⟨b,off,none⟩) 0 0) (.ms id (off+(0:Int).toNat*C.P.cellsOf e) ((0:Int).toNat - (0:Int).toNat) (C.P.cellsOf e)):=by
      simpa using .ms id off 0 (C.P.cellsOf e) b 0 c T hb hw (by omega) (by omega) (by simpa using hcap)
     refine .same hs (x:=.slice (some ⟨b,off,none⟩) 0 0) ?_ (hs.evp x hrel (by rw [hx]; simp [DV.refs]))
     simp [execOp,ho,e1,Instr.sliceAt,Instr.slice,run_underlying ht,hbd,hsz]
    ·refine .same hs (x:=.slice (some ⟨b,off+l.toNat*C.P.cellsOf e,none⟩) (h.toNat - l.toNat) (cap - l.toNat)) ?_ (hs.evp x (.ms _ _ _ _ b _ c T hb hw (by omega) (by omega) ?_) (by rw [hx]; simp [DV.refs]))
     ·simp [execOp,ho,e1,Instr.sliceAt,Instr.slice,run_underlying ht,hbd,hsz,hcl,Addr.add_lit]
     ·rw [← hcap,Nat.add_assoc,← Nat.add_mul,Nat.add_sub_cancel' (show l.toNat≤cap by omega)]
   ·rw [if_neg hc]
    have e2:h.toNat=l.toNat:=by omega
    refine .same hs (x:=.slice (if cap=l.toNat then some ⟨b,off,none⟩ else some ((⟨b,off,none⟩:Addr).add (l.toNat*C.P.cellsOf e))) 0 (cap - l.toNat)) ?_ (Al3 (.sl0 _ _))
    simp [execOp,ho,e1,Instr.sliceAt,Instr.slice,run_underlying ht,hbd,hsz,e2]
 ·intro hx hlo hhi hl hh
  rw [hx] at h1
  have e1:=rel_v h1
  subst hl hh
  have hbd:=Ah2 (P:=C.P) (isS:=true) (len:=0) (cap:=0) (bnds hs hlo) (bnds hs hhi) (Int.le_refl _) (Int.le_refl _) (by omega) w
  refine .same hs (x:=.slice none 0 0) ?_ (WV.v _)
  simp [execOp,ho,e1,Instr.sliceAt,Instr.slice,run_underlying ht,hbd,hsz]
theorem Cm6 {t:TypeId} {x:Operand} {lo hi:Option Operand} {l h:Int} {b:ByteArray} (ho:o.op=.slice t x lo hi none) (ht:C.P.underlying t=some .string) (hs:HoldsB C U s β a w) (hx:s.ev x=.v (.string b))
  (hlo:bndD s 0 lo=some l) (hhi:bndD s b.size hi=some h) (h0:0≤l) (hlh:l≤h) (hhn:h≤b.size):OpOk C U a w o (.v (.string (b.extract l.toNat h.toNat))) s:=by
 have h1:=hs.ev x
 rw [hx] at h1
 have hb:=Ah2 (P:=C.P) (isS:=false) (len:=b.size) (cap:=b.size) (bnds hs hlo) (bnds hs hhi) h0 hlh (by omega) w
 refine .same hs ?_ (WV.v _)
 simp [execOp,ho,rel_v h1,Instr.sliceAt,Instr.slice,run_underlying ht,hb]
theorem B52 {t:TypeId} {c:Call} {x:Operand} (ho:o.op=.call c) (hc:c.callee=.builtin .len) (hargs:c.args.toList=[x]) (ht:c.argTypes[0]?=some t) (hs:HoldsB C U s β a w) :
  ((∃ e,C.P.underlying t=some (.slice e))→(∀ cs n,s.ev x=.sl cs n→OpOk C U a w o (.v (.int .i64 n)) s)∧(∀ id off n es,s.ev x=.ms id off n es→OpOk C U a w o (.v (.int .i64 n)) s)∧
   (∀ n c',s.ev x=.v (.slice none n c')→OpOk C U a w o (.v (.int .i64 n)) s))∧
  (C.P.underlying t=some .string→∀ b,s.ev x=.v (.string b)→OpOk C U a w o (.v (.int .i64 b.size)) s):=by
 have h1:=hs.ev x
 have hA:c.args = #[x]:=by apply Array.ext'; simpa using hargs
 constructor
 ·rintro ⟨e,hu⟩
  have hrun:∀ ad n cap,a.eval x=.slice ad n cap→OpOk C U a w o (.v (.int .i64 n)) s:=fun ad n cap hv=>by
   refine .same hs (x:=.int .i64 n) ?_ (WV.v _)
   simp [execOp,ho,resolve,hc,hA,invoke,builtin,Builtin.len_,ht,hv,run_underlying hu,goInt]
  refine ⟨fun cs n hx=>?_,fun id off n es hx=>?_,fun n c' hx=>?_⟩ <;> rw [hx] at h1
  ·rcases Au3 h1 with ⟨ad,cap,e1,_,rfl⟩ | ⟨ad,cap,us,e1,_⟩
   ·exact hrun _ _ _ e1
   ·exact hrun _ _ _ e1
  ·rcases Al2 h1 with ⟨e1,_,rfl⟩ | ⟨b,cap,cc,T,e1,_⟩
   ·exact hrun _ _ _ e1
   ·exact hrun _ _ _ e1
  ·exact hrun _ _ _ (rel_v h1)
 ·intro hu b hx
  rw [hx] at h1
  refine .same hs (x:=.int .i64 b.size) ?_ (WV.v _)
  simp [execOp,ho,resolve,hc,hA,invoke,builtin,Builtin.len_,ht,rel_v h1,run_underlying hu,goInt]
theorem B53 {f:Fn} {first cap:Array Operand} (ho:o.op=.makeFunc f first cap) (hs:HoldsB C U s β a w):OpOk C U a w o (.fn f (.tup (first.toList.map s.ev) :: cap.toList.map s.ev)) s:=by
 have key:∀ l:List Operand,∀ (j:Nat) (u:Value) (d:DV),(l.map a.eval)[j]?=some u→(l.map s.ev)[j]?=some d→Rel C.P w (alw C w β) β u d:=fun l j u d hu hd=>by
  simp only [List.getElem?_map,Option.map_eq_some_iff] at hu hd
  obtain ⟨x,hx,rfl⟩:=hu
  obtain ⟨y,hy,rfl⟩:=hd
  rw [hx] at hy; cases hy
  exact hs.ev x
 refine .same hs (x:=.func f (first.toList.map a.eval).toArray (cap.toList.map a.eval).toArray) ?_ (hs.hh.wv (.fn f _ _ _ (by simp) fun j u d hu hd=>?_) fun id hi=>?_)
 ·have h1:Array.map a.eval cap=(List.map a.eval cap.toList).toArray:=by apply Array.ext'; simp
  have h2:Array.map a.eval first=(List.map a.eval first.toList).toArray:=by apply Array.ext'; simp
  simp [execOp,ho,Instr.makeFunc,h1,h2]
 ·cases j with
  | zero=>cases hu; cases hd; exact .tup _ _ (by simp) (key _)
  | succ j=>exact key cap.toList j u d (by simpa using hu) (by simpa using hd)
 ·have hall:∀ l:List Operand,id∈DV.refsL (l.map s.ev)→(s.vw C id).isSome=true:=fun l h=>by
   obtain ⟨d,hd,hi⟩:=DV.mem_refsL h
   obtain ⟨x,_,rfl⟩:=List.mem_map.1 hd
   exact Ae5 (HoldsB.eva x id hi)
  simp only [DV.refs,DV.refsL,List.mem_append] at hi
  rcases hi with hi | hi
  ·exact hall _ hi
  ·exact hall _ hi
theorem Ce7 {x:Operand} {i:Nat} {ds:List DV} {v:Value} (ho:o.op=.extract x i) (hs:HoldsB C U s β a w) (hx:s.rv x=.tup ds) (hi:ds[i]?=some (.v v)):OpOk C U a w o (.v v) s:=by
 obtain ⟨vs,e1,h1⟩:=(hs.rvw x).2.2 ds hx i v hi
 obtain ⟨hlt,h2⟩:=Array.getElem?_eq_some_iff.1 h1
 refine .same hs (x:=v) ?_ (WV.v v)
 simp [execOp,ho,e1,Instr.extract,hlt,h2]
theorem Cm7 {x:Operand} {i:Nat} {ds:List DV} (ho:o.op=.extract x i) (hs:HoldsB C U s β a w) (hx:s.ev x=.tup ds) (hi:ds[i]?=some d):OpOk C U a w o d s:=by
 have h1:=hs.ev x
 rw [hx] at h1
 obtain ⟨vs,e1,hl,hr⟩:=A96 h1
 have hlt:i < vs.length:=by rw [hl]; exact (List.getElem?_eq_some_iff.1 hi).1
 refine .same hs (x:=vs[i]) ?_ (hs.evp x (hr i _ _ (List.getElem?_eq_getElem hlt) hi) fun id hid=>by rw [hx,DV.refs]; exact DV.refsL_mem (List.mem_of_getElem? hi) hid)
 simp [execOp,ho,e1,Instr.extract,hlt]
end ops
end Go.DD

/- Each operation on deep values is what the model's operation does (third part: memory that is made or written). -/
namespace Go.DD
open Go.RowKit (Below)
theorem DS.ho_upd (s:DS) (nid:Nat) (u:Upd):(s.upd nid u).ho=u.app nid s.ho:=rfl
@[simp] theorem DS.sv_upd (s:DS) (nid:Nat) (u:Upd):(s.upd nid u).sv=s.sv:=rfl
theorem Ce8 {C:Ctx} {s:DS} {nid:Nat} {old:Option Nat} {o:DObj} (hold:∀ i,old=some i→C.Y i=none) (j:Nat) (hj:j≠nid):(s.upd nid (.mv old o)).vw C j=if old=some j then none else s.vw C j:=by
 unfold DS.vw vwF
 rw [DS.ho_upd]
 simp only [Upd.app]
 rw [Ad7 _ _ hj]
 cases old with
 | none=>simp [Au2]
 | some i=>
  simp only [Au2]
  by_cases hij:j=i
  ·subst hij; simp [hold j rfl]
  ·rw [Ad7 _ _ hij]
   have:¬ i=j:=fun e=>hij e.symm
   simp [this]
theorem Cm8 {C:Ctx} {s:DS} {nid:Nat} {old:Option Nat} {o:DObj} : (s.upd nid (.mv old o)).vw C nid=some o:=by
 simp [DS.vw,vwF,DS.ho_upd,Upd.app]
theorem HoldsB.apart {C:Ctx} {U:Nat→Prop} {s:DS} {β:Nat→Option Nat} {a:Act} {w:World} (hs:HoldsB C U s β a w) {i:Nat} (h:(s.ho i).isSome=true):C.Y i=none:=by
 cases hy:C.Y i with
 | none=>rfl
 | some o=>rw [hs.yd i o hy] at h; cases h
theorem HoldsB.turned {C:Ctx} {U:Nat→Prop} {s:DS} {β β':Nat→Option Nat} {a:Act} {w w':World} {nid:Nat} (hs:HoldsB C U s β a w) (hn:¬ U nid) (old:Option Nat) (hold:∀ i,old=some i→(s.ho i).isSome=true) (o:DObj)
  (hother:∀ b,b < w.heap.size→(∀ i,old=some i→β i≠some b)→w'.heap[b]?=w.heap[b]?)
  (hos:w'.os=w.os) (htape:w'.tape=w.tape) (hout:w'.output=w.output) (hsz:w.heap.size≤w'.heap.size)
  (hβ:∀ j,j≠nid→old≠some j→β' j=β j) (hβo:∀ i,old=some i→β' i=none)
  (hnew:∀ b,β' nid=some b→((∃ i,old=some i∧β i=some b)∨w.heap.size≤b)∧b < w'.heap.size)
  (hobj:(∀ x d,WV C U (s.vw C) β w x d→WV C (Un U nid) ((s.upd nid (.mv old o)).vw C) β' w' x d)→RelO C (Un U nid) ((s.upd nid (.mv old o)).vw C) β' w' nid o) :
  HoldsB C (Un U nid) (s.upd nid (.mv old o)) β' a w'∧∀ x d,WV C U (s.vw C) β w x d→WV C (Un U nid) ((s.upd nid (.mv old o)).vw C) β' w' x d:=by
 have ht:=hs.hh.turn (U':=Un U nid) (V':=(s.upd nid (.mv old o)).vw C) (β':=β') (w':=w') nid old hn (fun _=>Iff.rfl) (fun i hi=>hs.hh.used (Ae5 (hold i hi))) hother hos htape hout hsz hβ hβo hnew
  (fun j hj=>Ce8 (fun i hi=>hs.apart (hold i hi)) j hj) (fun o' ho' hrel=>by rw [Cm8] at ho'; cases ho'; exact hobj hrel)
 refine ⟨hs.carry rfl (fun id o' hy=>?_) ht,ht.2.1⟩
 have h1:=hs.yd id o' hy
 have hu:id≠nid:=fun e=>hn (e ▸ hs.hh.used (by unfold DS.vw vwF; rw [h1]; simp [hy]))
 rw [DS.ho_upd]
 simp only [Upd.app]
 rw [Ad7 _ _ hu]
 cases old with
 | none=>exact h1
 | some i=>
  simp only [Au2]
  by_cases hij:id=i
  ·subst hij; simp
  ·rw [Ad7 _ _ hij]; exact h1
theorem HoldsB.fresh {C:Ctx} {U:Nat→Prop} {s:DS} {β:Nat→Option Nat} {a:Act} {w w':World} {nid:Nat} (hs:HoldsB C U s β a w) (hn:¬ U nid) (T:TypeId) (c:Array Value) (cs:List DV) (b:Nat)
  (hk:Below w.heap.size w w') (hb:w.heap.size≤b) (hc:w'.heap[b]?=some (.cells c T (0,0))) (hl:cs.length≤c.size) (hx:isArr C.P T=true→c.size=cs.length)
  (hr:∀ (j:Nat) (u:Value) (d:DV),c[j]?=some u→cs[j]?=some d→WV C U (s.vw C) β w u d∧u.oneCell'=true) :
  HoldsB C (Un U nid) (s.upd nid (.lay (.row T cs))) (upd β nid (some b)) a w':=by
 have hbl:b < w'.heap.size:=by
  rcases Nat.lt_or_ge b w'.heap.size with h | h
  ·exact h
  ·rw [Array.getElem?_eq_none h] at hc; cases hc
 refine (hs.turned (β':=upd β nid (some b)) hn none (fun _ h=>by cases h) _ (fun b' hb' _=>hk.block b' hb') hk.os hk.tape hk.output hk.size (fun j hj _=>Ac8 β _ hj) (fun _ h=>by cases h) (fun b' hb'=>?_) fun hrel=>?_).1
 ·rw [upd_same] at hb'
  cases hb'
  exact ⟨.inr hb,hbl⟩
 ·exact .inr ⟨b,c,by simp,hc,hl,hx,fun j u d hu hd=>⟨hrel _ _ (hr j u d hu hd).1,(hr j u d hu hd).2⟩⟩
theorem Ar7 {C:Ctx} {U:Nat→Prop} {V:Nat→Option DObj} {β:Nat→Option Nat} {w:World} {nid:Nat} {x:Value} {d:DV} (hr:Rel C.P w (alw C w β) β x d) (hd:d.refs=[nid]):WV C (Un U nid) V β w x d:=
 ⟨fun id hi=>by rw [hd] at hi; exact .inr (by simpa using hi),fun _=>hr,TP.of_rel hr⟩
theorem Cm9 {C:Ctx} {U:Nat→Prop} {V:Nat→Option DObj} {β:Nat→Option Nat} {w:World} {us:List Value} {cs:List DV} (hl:us.length=cs.length) (ho:∀ u∈us,u.oneCell'=true)
  (hr:∀ (j:Nat) (u:Value) (d:DV),us[j]?=some u→cs[j]?=some d→WV C U V β w u d):WV C U V β w (.agg us.toArray) (.agg cs):=by
 refine ⟨fun id hi=>?_,fun ha=>.agg us cs hl ho fun j u d hu hd=>(hr j u d hu hd).2.1 fun id hi=>ha id (by rw [DV.refs]; exact DV.refsL_mem (List.mem_of_getElem? hd) hi),TP.nt fun _ h=>by cases h⟩
 rw [DV.refs] at hi
 obtain ⟨d,hd,hi⟩:=DV.mem_refsL hi
 obtain ⟨j,hj,rfl⟩:=List.mem_iff_getElem.1 hd
 exact (hr j us[j] _ (List.getElem?_eq_getElem (by omega)) (List.getElem?_eq_getElem hj)).1 id hi
section ops
variable {C:Ctx} {U:Nat→Prop} {s:DS} {β:Nat→Option Nat} {a:Act} {w:World} {o:Oper} {d:DV} {s':DS} {nid:Nat}
theorem Ao7 {P:Program} {t:TypeId} {z:List Value} (h:zeroL P t=some z):∃ i v,P.info? t=some i∧i.zero=some v∧v.cells.toList=z∧∀ u∈z,u.oneCell'=true:=by
 unfold zeroL at h
 obtain ⟨v,hv,h⟩:=Option.bind_eq_some_iff.1 h
 obtain ⟨i,hi,hv⟩:=Option.bind_eq_some_iff.1 hv
 split at h
 ·rename_i hall
  cases h
  exact ⟨i,v,hi,hv,rfl,fun u hu=>List.all_eq_true.1 hall u hu⟩
 ·cases h
theorem Ao8 {V:Nat→Option DObj} {z:List Value} (h1:∀ u∈z,u.oneCell'=true) (j:Nat) (u:Value) (d:DV) (hu:z[j]?=some u) (hd:(z.map DV.v)[j]?=some d):WV C U V β w u d∧u.oneCell'=true:=by
 simp only [List.getElem?_map,hu,Option.map_some,Option.some.injEq] at hd
 subst hd
 exact ⟨WV.v u,h1 u (List.mem_of_getElem? hu)⟩
theorem ok_al {T:TypeId} {z:List Value} (ho:o.op=.alloc T) (hz:zeroL C.P T=some z) (hs:HoldsB C U s β a w) (hn:¬ U nid):OpOk C (Un U nid) a w o (.pt nid 0) (s.upd nid (.lay (.row T (z.map .v)))):=by
 obtain ⟨i,v,hi,hv,rfl,h1⟩:=Ao7 hz
 have hf:=hs.fresh hn T v.cells (v.cells.toList.map .v) w.heap.size (Ae7 w (.cells v.cells T)) (Nat.le_refl _) (heap_alloc_new w _) (by simp) (fun _=>by simp)
  (fun j u d hu hd=>Ao8 h1 j u d (by simpa using hu) hd)
 refine ⟨.value (.pointer (some ⟨w.heap.size,0,none⟩)),_,_,_,?_,.inl rfl,hf,Ar7 (.pt nid 0 _ (by simp)) rfl⟩
 simp [execOp,ho,Instr.alloc,zeroValue,typeInfo,hi,hv,newVar,newRow]
theorem ok_bx {T:TypeId} {x:Operand} (ho:o.op=.box T x) (hs:HoldsB C U s β a w) (hn:¬ U nid) (hx:(s.ev x).okC=true):OpOk C (Un U nid) a w o (.pt nid 0) (s.upd nid (.lay (.row T (s.ev x).cells))):=by
 obtain ⟨hl,h1,hr⟩:=hs.cells x hx
 have hf:=hs.fresh hn T (a.eval x).cells (s.ev x).cells w.heap.size (Ae7 w (.cells (a.eval x).cells T)) (Nat.le_refl _) (heap_alloc_new w _) (by omega) (fun _=>hl)
  (fun j u d hu hd=>⟨hr j u d hu hd,h1 u (by simpa using Array.mem_of_getElem? hu)⟩)
 refine ⟨.value (.pointer (some ⟨w.heap.size,0,none⟩)),_,_,_,?_,.inl rfl,hf,Ar7 (.pt nid 0 _ (by simp)) rfl⟩
 simp [execOp,ho,Instr.box,newVar,newRow]
theorem Bk0 (xs:List Value):∀ (off i:Nat) (cells:Array Value),off+i+xs.length≤cells.size→
  ((xs.zipIdx i).foldl (fun cs (c,j)=>cs.setIfInBounds (off+j) c) cells).toList=cells.toList.take (off+i) ++ xs ++ cells.toList.drop (off+i+xs.length):=by
 induction xs with
 | nil=>intro off i cells _; simp
 | cons x xs ih=>
  intro off i cells h
  simp only [List.zipIdx_cons,List.foldl_cons]
  rw [ih off (i+1) _ (by simp at h ⊢; omega)]
  have hlt:off+i < cells.toList.length:=by simp at h ⊢; omega
  simp only [Array.toList_setIfInBounds,List.length_cons]
  rw [show off+(i+1)=off+i+1 by omega,List.take_succ_eq_append_getElem (by simpa using hlt),List.take_set_of_le (by omega),List.drop_set_of_lt (by omega)]
  simp [Nat.add_assoc,Nat.add_comm 1]
theorem A98 {W:Value→DV→Prop} (place:Nat→Option (Nat×Nat)) (ρ:Operand→Value) (η:Operand→DV) (hρ:∀ x,(η x).okC=true→(ρ x).cells.size=(η x).cells.length∧(∀ u∈(ρ x).cells.toList,u.oneCell'=true)∧∀ (j:Nat) (u:Value) (e:DV),(ρ x).cells[j]?=some u→(η x).cells[j]?=some e→W u e) :
  ∀ (ps:List (Nat×Operand)) (qs:List (Nat×Nat×Operand)) (cells:Array Value) (cs:List DV) (cs':List DV),
   qs.length=ps.length→(∀ (j:Nat) (p:Nat×Operand) (q:Nat×Nat×Operand),ps[j]?=some p→qs[j]?=some q→place p.1=some (q.1,q.2.1)∧p.2=q.2.2)→
   cells.size=cs.length→(∀ u∈cells.toList,u.oneCell'=true)→(∀ (j:Nat) (u:Value) (d:DV),cells[j]?=some u→cs[j]?=some d→W u d)→
   fillD cs (qs.map fun q=>(q.1,q.2.1,η q.2.2))=some cs'→
   ∃ cells',Instr.fill place cells (ps.map fun p=>(p.1,ρ p.2))=some cells'∧cells'.size=cs'.length∧cs'.length=cs.length∧(∀ u∈cells'.toList,u.oneCell'=true)∧
    ∀ (j:Nat) (u:Value) (d:DV),cells'[j]?=some u→cs'[j]?=some d→W u d
 | [],[],cells,cs,cs',_,_,hl,h1,hr,h=>by
  simp [fillD] at h
  subst h
  exact ⟨cells,by simp [Instr.fill],hl,rfl,h1,hr⟩
 | p :: ps,q :: qs,cells,cs,cs',hlen,hpq,hl,h1,hr,h=>by
  obtain ⟨hp,hop⟩:=hpq 0 p q rfl rfl
  simp only [List.map_cons,fillD] at h
  split at h
  rotate_left
  ·cases h
  rename_i hc
  obtain ⟨hok,hsz,hfit⟩:=hc
  obtain ⟨g1,g2,g3⟩:=hρ q.2.2 hok
  have hfold:=Bk0 (ρ q.2.2).cells.toList q.1 0 cells (by simp; omega)
  simp only [Nat.add_zero] at hfold
  have key:=A98 (W:=W) place ρ η hρ ps qs ((ρ q.2.2).cells.toList.zipIdx.foldl (fun cs (c,j)=>cs.setIfInBounds (q.1+j) c) cells) (cs.take q.1 ++ (η q.2.2).cells ++ cs.drop (q.1+q.2.1)) cs'
   (by simpa using hlen) (fun j p' q' h1 h2=>hpq (j+1) p' q' (by simpa using h1) (by simpa using h2)) ?_ ?_ ?_ h
  ·obtain ⟨cells',k1,k2,k3,k4,k5⟩:=key
   refine ⟨cells',?_,k2,?_,k4,k5⟩
   ·simp only [List.map_cons,Instr.fill,hp,hop]
    rw [if_neg (by simp; omega),← k1]
    congr 1
    rw [← Array.foldl_toList]
    simp
   ·rw [k3]; simp; omega
  ·rw [← Array.length_toList,hfold]; simp; omega
  ·rw [hfold]
   intro u hu
   simp only [List.mem_append] at hu
   rcases hu with (hu | hu) | hu
   ·exact h1 u (List.mem_of_mem_take hu)
   ·exact g2 u hu
   ·exact h1 u (List.mem_of_mem_drop hu)
  ·intro j u d hu hd
   have hu':(cells.toList.take q.1 ++ (ρ q.2.2).cells.toList ++ cells.toList.drop (q.1+(ρ q.2.2).cells.toList.length))[j]?=some u:=by
    rw [← hfold]; simpa using hu
   have hgs:(ρ q.2.2).cells.toList.length=q.2.1:=by simp; omega
   rw [hgs] at hu'
   rw [List.append_assoc,List.getElem?_append] at hu' hd
   simp only [List.length_take,Array.length_toList,hl] at hu' hd
   by_cases hj:j < min q.1 cs.length
   ·rw [if_pos hj] at hu' hd
    rw [List.getElem?_take_of_lt (by omega)] at hu' hd
    exact hr j u d (by simpa using hu') hd
   ·rw [if_neg hj] at hu' hd
    rw [List.getElem?_append] at hu' hd
    rw [hgs] at hu'
    rw [hsz] at hd
    by_cases hj2:j - min q.1 cs.length < q.2.1
    ·rw [if_pos hj2] at hu' hd
     exact g3 _ u d (by simpa using hu') hd
    ·rw [if_neg hj2] at hu' hd
     rw [List.getElem?_drop] at hu' hd
     exact hr _ u d (by simpa using hu') hd
 | [],_ :: _,_,_,_,h,_,_,_,_,_=>by simp at h
 | _ :: _,[],_,_,_,h,_,_,_,_,_=>by simp at h
theorem mapM_some {α β:Type} {f:α→Option β} : ∀ {l:List α} {r:List β},l.mapM f=some r→r.length=l.length∧∀ (j:Nat) (x:α) (y:β),l[j]?=some x→r[j]?=some y→f x=some y
 | [],r,h=>by simp at h; subst h; simp
 | x :: l,r,h=>by
  simp only [List.mapM_cons,Option.bind_eq_bind,Option.bind_eq_some_iff,Option.pure_def] at h
  obtain ⟨y,hy,t,ht,h⟩:=h
  cases h
  obtain ⟨h1,h2⟩:=mapM_some ht
  refine ⟨by simp [h1],fun j u v hu hv=>?_⟩
  cases j with
  | zero=>simp at hu hv; subst hu hv; exact hy
  | succ j=>exact h2 j u v (by simpa using hu) (by simpa using hv)
theorem Au7 {P:Program} : ∀ (fs:List Field),(∀ f∈fs,P.cellsOf f.type≠0)→∀ (w:World),(fs.mapM (fun f=>do pure (f.offset,← sizeOf f.type):Field→Sem (Nat×Nat))).run P w=.ok (fs.map fun f=>(f.offset,P.cellsOf f.type)) w
 | [],_,w=>by simp
 | f :: fs,h,w=>by
  have ih:=Au7 fs (fun g hg=>h g (by simp [hg])) w
  simp only [List.mapM_cons,Sem.run_bind,Ab7 (h f (by simp)),Result.andThen_ok,Sem.run_pure,List.map_cons]
  rw [ih]
  rfl
theorem Cn0 {t:TypeId} {ps:Array (Nat×Operand)} {fs:Array Field} {z:List Value} {l:List (Nat×Nat×Operand)} {cs:List DV} (ho:o.op=.build t ps) (ht:C.P.underlying t=some (.struct fs)) (hz:zeroL C.P t=some z)
  (hpos:∀ f∈fs.toList,C.P.cellsOf f.type≠0)
  (hl:ps.toList.mapM (fun p=>(fs[p.1]?).map fun f=>(f.offset,C.P.cellsOf f.type,p.2))=some l) (hs:HoldsB C U s β a w)
  (hf:fillD (z.map .v) (l.map fun p=>(p.1,p.2.1,s.ev p.2.2))=some cs):OpOk C U a w o (.agg cs) s:=by
 obtain ⟨i,v,hi,hv,rfl,h1⟩:=Ao7 hz
 obtain ⟨m1,m2⟩:=mapM_some hl
 obtain ⟨cells',k1,k2,k3,k4,k5⟩:=A98 (W:=WV C U (s.vw C) β w) ((fs.toList.map fun f=>(f.offset,C.P.cellsOf f.type))[·]?) a.eval s.ev (fun x hx=>hs.cells x hx) ps.toList l v.cells (v.cells.toList.map .v) cs m1
  (fun j p q hp hq=>by
   have:=m2 j p q hp hq
   obtain ⟨f,hf,rfl⟩:=Option.map_eq_some_iff.1 this
   simp [hf])
  (by simp) h1 (fun j u d hu hd=>(Ao8 h1 j u d (by simpa using hu) hd).1) hf
 have hrun:(fs.mapM (fun f=>do pure (f.offset,← sizeOf f.type):Field→Sem (Nat×Nat))).run C.P w=.ok (fs.toList.map fun f=>(f.offset,C.P.cellsOf f.type)).toArray w:=by
  rw [Array.mapM_eq_mapM_toList]
  simp only [Sem.run_map,Au7 fs.toList hpos w,Result.andThen_ok]
 refine .same hs (x:=.agg cells'.toList.toArray) ?_ (Cm9 (by simpa using k2) k4 fun j u d hu hd=>k5 j u d (by simpa using hu) hd)
 have k1':Instr.fill ((fs.toList.map fun f=>(f.offset,C.P.cellsOf f.type)).toArray[·]?) v.cells (ps.map fun p=>(p.1,a.eval p.2)).toList=some cells':=by
  rw [← k1]
  congr 1
  ·funext j; simp
  ·simp
 simp only [execOp,ho,Instr.build,Sem.run_bind,zeroValue,typeInfo,run_program,Result.andThen_ok,hi,hv,Sem.run_pure,run_underlying ht,hrun]
 simp only [k1']
 simp
theorem Ab4 {α:Type} (z:List α):∀ (n j:Nat),((List.replicate n z).flatten)[j]?=if j < n*z.length then z[j % z.length]? else none
 | 0,j=>by simp
 | n+1,j=>by
  rw [List.replicate_succ,List.flatten_cons,List.getElem?_append,Ab4 z n]
  by_cases hj:j < z.length
  ·have h1:j < (n+1)*z.length:=by rw [Nat.add_mul]; omega
   rw [if_pos hj,if_pos h1,Nat.mod_eq_of_lt hj]
  ·rw [if_neg hj]
   have hm:(j - z.length) % z.length=j % z.length:=by
    conv=>rhs; rw [show j=(j - z.length)+z.length by omega]
    rw [Nat.add_mod_right]
   have h2:(j - z.length < n*z.length)↔(j < (n+1)*z.length):=by rw [Nat.add_mul]; omega
   rw [hm]
   simp only [h2]
theorem Au8 (z:Array Value) (n:Nat) (h:0 < z.size):((Array.range (n*z.size)).map (z[· % z.size]!)).toList=(List.replicate n z.toList).flatten:=by
 apply List.ext_getElem?
 intro j
 rw [Ab4]
 simp only [Array.length_toList]
 by_cases hj:j < n*z.size
 ·have hlt:j % z.size < z.size:=Nat.mod_lt _ h
  simp [hj,hlt]
 ·simp [hj]
theorem Ae4 {z:List Value} (h1:∀ u∈z,u.oneCell'=true) (n:Nat):∀ u∈(List.replicate n z).flatten,u.oneCell'=true:=by
 intro u hu
 simp only [List.mem_flatten] at hu
 obtain ⟨l,hl,hu⟩:=hu
 rw [List.mem_replicate] at hl
 exact h1 u (hl.2 ▸ hu)
theorem Ab9 (z:List Value) (n:Nat):(List.replicate n (z.map DV.v)).flatten=((List.replicate n z).flatten).map DV.v:=by
 rw [List.map_flatten,List.map_replicate]
theorem Cn1 {t e:TypeId} (hna:isArr C.P e=false) {n:Nat} {ps:Array (Nat×Operand)} {z:List Value} {cs:List DV} (ho:o.op=.buildSlice t n ps) (ht:C.P.underlying t=some (.slice e)) (hz:zeroL C.P e=some z)
  (hn:n*C.P.cellsOf e≤65536) (he:0 < C.P.cellsOf e) (hzl:z.length=C.P.cellsOf e) (hs:HoldsB C U s β a w) (hnew:¬ U nid)
  (hf:fillD ((List.replicate n (z.map .v)).flatten) ((ps.toList.map fun p=>(p.1*C.P.cellsOf e,C.P.cellsOf e,p.2)).map fun p=>(p.1,p.2.1,s.ev p.2.2))=some cs) :
  OpOk C (Un U nid) a w o (.ms nid 0 n (C.P.cellsOf e)) (s.upd nid (.lay (.row e cs))):=by
 obtain ⟨i,v,hi,hv,rfl,h1⟩:=Ao7 hz
 have hsz:C.P.cellsOf e=i.size:=by simp [Program.cellsOf,hi]
 simp only [hsz] at hn he hzl hf
 have hvs:v.cells.size=i.size:=by simpa using hzl
 have hinit:((Array.range (n*i.size)).map (v.cells[· % v.cells.size]!)).toList=(List.replicate n v.cells.toList).flatten:=by
  rw [← hvs]; exact Au8 v.cells n (by omega)
 have hlenI:((List.replicate n v.cells.toList).flatten).length=n*i.size:=by rw [← hinit]; simp
 obtain ⟨cells',k1,k2,k3,k4,k5⟩:=A98 (W:=WV C U (s.vw C) β w) (fun j=>some (j*i.size,i.size)) a.eval s.ev (fun x hx=>hs.cells x hx) ps.toList (ps.toList.map fun p=>(p.1*i.size,i.size,p.2))
  ((Array.range (n*i.size)).map (v.cells[· % v.cells.size]!)) ((List.replicate n (v.cells.toList.map .v)).flatten) cs (by simp)
  (fun j p q hp hq=>by
   simp only [List.getElem?_map,hp,Option.map_some,Option.some.injEq] at hq
   subst hq
   exact ⟨rfl,rfl⟩)
  (by rw [Ab9,List.length_map,hlenI]; simp)
  (by rw [hinit]; exact Ae4 h1 n)
  (fun j u d hu hd=>(Ao8 (Ae4 h1 n) j u d (by rw [← hinit,Array.getElem?_toList]; exact hu) (by rw [← Ab9]; exact hd)).1) hf
 have hcl:cs.length=n*i.size:=by rw [k3,Ab9,List.length_map,hlenI]
 have hfr:=hs.fresh hnew e cells' cs w.heap.size (Ae7 w (.cells cells' e)) (Nat.le_refl _) (heap_alloc_new w _) (by omega) (fun h=>by rw [hna] at h; cases h)
  (fun j u d hu hd=>⟨k5 j u d hu hd,k4 u (by simpa using Array.mem_of_getElem? hu)⟩)
 refine ⟨.value (.slice (some ⟨w.heap.size,0,none⟩) n n),_,_,_,?_,.inl rfl,hfr,Ar7 (.ms nid 0 n _ w.heap.size n cells' e (by simp) (heap_alloc_new w _) (Nat.le_refl _) ?_ ?_) rfl⟩
 ·have k1':Instr.fill (fun j=>some (j*i.size,i.size)) ((Array.range (n*i.size)).map (v.cells[· % v.cells.size]!)) (ps.map fun p=>(p.1,a.eval p.2)).toList=some cells':=by
   rw [← k1]; congr 1; simp
  have hsmall:¬ (2:Nat) ^ 24 < n*i.size:=by omega
  by_cases hz0:n*i.size=0
  ·have hn0:n=0:=by
    rcases Nat.mul_eq_zero.1 hz0 with h | h
    ·exact h
    ·omega
   subst hn0
   have hr0:Array.range 0 = #[]:=rfl
   have k2':Instr.fill (fun j=>some (j*i.size,i.size)) #[] (List.map (fun x=>(x.fst,a.eval x.snd)) ps.toList)=some cells':=by
    rw [← k1,Nat.zero_mul,hr0]; simp
   simp [execOp,ho,Instr.buildSlice,run_underlying ht,sizeOf,typeInfo,hi,hr0,k2',newRow]
  ·simp only [execOp,ho,Instr.buildSlice,Sem.run_bind,run_underlying ht,Result.andThen_ok,sizeOf,typeInfo,zeroValue,run_program,hi,hv,Sem.run_pure,gt_iff_lt,hsmall,if_false,Sem.run_ite,hz0]
   simp only [k1',newRow]
   simp
 ·have hne:n≤n*i.size:=Nat.le_mul_of_pos_right n he
  simp only [maxLen]; omega
 ·rw [hsz]; omega
theorem Bz1 {C:Ctx} {s:DS} {nid id:Nat} {o:DObj} (j:Nat) (hj:j≠id):(s.upd nid (.wr id o)).vw C j=s.vw C j:=by
 unfold DS.vw vwF
 rw [DS.ho_upd]
 simp only [Upd.app]
 rw [Ad7 _ _ hj]
theorem Bc6 {C:Ctx} {s:DS} {nid id:Nat} {o:DObj} : (s.upd nid (.wr id o)).vw C id=some o:=by simp [DS.vw,vwF,DS.ho_upd,Upd.app]
theorem HoldsB.wrote (hs:HoldsB C U s β a w) {w':World} (nid id b:Nat) (o:DObj) (hb:β id=some b) (hid:(s.ho id).isSome=true)
  (hother:∀ b',b'≠b→w'.heap[b']?=w.heap[b']?)
  (hsz:w'.heap.size=w.heap.size) (hos:w'.os=w.os) (htape:w'.tape=w.tape) (hout:w'.output=w.output)
  (hshape:SameShape w w' b)
  (hobj:(∀ x d,WV C U (s.vw C) β w x d→WV C U ((s.upd nid (.wr id o)).vw C) β w' x d)→RelO C U ((s.upd nid (.wr id o)).vw C) β w' id o) :
  HoldsB C U (s.upd nid (.wr id o)) β a w'∧∀ x d,WV C U (s.vw C) β w x d→WV C U ((s.upd nid (.wr id o)).vw C) β w' x d:=by
 have h:=hs.hh.write (V':=(s.upd nid (.wr id o)).vw C) (w':=w') id b hb (Ae5 hid) hother hsz hos htape hout hshape (fun j hj=>Bz1 j hj) (by rw [Bc6]; rfl)
  (fun o' ho' hrel=>by rw [Bc6] at ho'; cases ho'; exact hobj hrel)
 refine ⟨hs.carry rfl (fun j o' hy=>?_) h,h.2.1⟩
 have h1:=hs.yd j o' hy
 rw [DS.ho_upd]
 simp only [Upd.app]
 rw [Ad7 _ _ (fun e=>by rw [← e,h1] at hid; cases hid)]
 exact h1
theorem ok_st {t T:TypeId} {k:Option Nat} {x y:Operand} {id off n:Nat} {cs:List DV} (ho:o.op=.store t x y) (hk:tkind C.P t=some k) (hkn:n=k.getD 1) (hs:HoldsB C U s β a w) (hx:s.ev x=.pt id off)
  (hid:s.ho id=some (.row T cs)) (hok:(s.ev y).okC=true) (hlen:(s.ev y).cells.length=n) (hfit:off+n≤cs.length) :
  OpOk C U a w o .any (s.upd nid (.wr id (.row T (cs.take off ++ (s.ev y).cells ++ cs.drop (off+n))))):=by
 have h1:=hs.ev x
 rw [hx] at h1
 obtain ⟨b,e1,hb⟩:=Ai3 h1
 obtain ⟨c,hw,hl,hex,hr⟩:=hs.row hb hid
 obtain ⟨g1,g2,g3⟩:=hs.cells y hok
 have hst:=run_storeCells_at C.P b off T (a.eval y).cells.toList 0 c w hw (by simp; omega) g2
 simp only [Nat.add_zero] at hst
 have hsz:(sizeOf t).run C.P w=.ok n w:=by
  cases k with
  | none=>rw [hkn]; exact (Af1 hk w).2.1
  | some m=>rw [hkn]; exact (Ak0 hk w).2.1
 have hwr:HoldsB C U (s.upd nid (.wr id (.row T (cs.take off ++ (s.ev y).cells ++ cs.drop (off+n))))) β a (w.setRow b (c.toList.take off ++ (a.eval y).cells.toList ++ c.toList.drop (off+(a.eval y).cells.toList.length)).toArray):=by
  refine (hs.wrote nid id b _ hb (by rw [hid]; rfl) (fun b' hb'=>setRow_other w b b' _ hb') (by simp) rfl rfl rfl ?_ fun hrel=>?_).1
  ·intro c' T' hc'
   rw [hw] at hc'
   cases hc'
   refine ⟨_,setRow_heap w b c _ T _ hw,?_⟩
   simp; omega
  ·refine .inr ⟨b,_,hb,setRow_heap w b c _ T _ hw,by simp; omega,fun h=>(by have:=hex h; simp; omega),fun j u d hu hd=>?_⟩
   have hgs:(a.eval y).cells.toList.length=n:=by simp; omega
   have hu':(c.toList.take off ++ (a.eval y).cells.toList ++ c.toList.drop (off+n))[j]?=some u:=by rw [← hgs]; simpa using hu
   rw [List.append_assoc,List.getElem?_append] at hu' hd
   simp only [List.length_take,Array.length_toList] at hu' hd
   rw [show min off c.size=off by omega] at hu'
   rw [show min off cs.length=off by omega] at hd
   by_cases hj:j < off
   ·rw [if_pos hj] at hu' hd
    rw [List.getElem?_take_of_lt hj] at hu' hd
    have:=hr j u d (by simpa using hu') hd
    exact ⟨hrel _ _ this.1,this.2⟩
   ·rw [if_neg hj] at hu' hd
    rw [List.getElem?_append] at hu' hd
    rw [hgs] at hu'
    rw [hlen] at hd
    by_cases hj2:j - off < n
    ·rw [if_pos hj2] at hu' hd
     exact ⟨hrel _ _ (g3 _ u d (by simpa using hu') hd),g2 u (List.mem_of_getElem? hu')⟩
    ·rw [if_neg hj2] at hu' hd
     rw [List.getElem?_drop] at hu' hd
     have:=hr _ u d (by simpa using hu') hd
     exact ⟨hrel _ _ this.1,this.2⟩
 refine ⟨.skip,_,β,undef,?_,.inr ⟨rfl,rfl⟩,hwr,WV.any⟩
 have hcs:(a.eval y).cells.size=n:=by omega
 simp [execOp,ho,e1,Instr.storeAt,Instr.sureAddr,storeVar,hsz,hcs,hst]
theorem Cn2 {t e:TypeId} (hna:isArr C.P e=false) {x y:Operand} {z:List Value} {l c:Int} (ho:o.op=.makeSlice t x y) (ht:C.P.underlying t=some (.slice e)) (hz:zeroL C.P e=some z)
  (hzl:z.length=C.P.cellsOf e) (he:0 < C.P.cellsOf e) (hby:C.P.bytesOf e≤65536) (hs:HoldsB C U s β a w) (hnew:¬ U nid) (hx:intD (s.ev x)=some l) (hy:intD (s.ev y)=some c) (h0:0≤l) (hlc:l≤c) (hc:c≤2147483648) :
  OpOk C (Un U nid) a w o (.ms nid 0 l.toNat (C.P.cellsOf e)) (s.upd nid (.lay (.row e ((List.replicate l.toNat (z.map .v)).flatten)))):=by
 obtain ⟨i,v,hi,hv,rfl,h1⟩:=Ao7 hz
 obtain ⟨kl,hkl⟩:=Ao0 (hs.ev x) hx
 obtain ⟨kc,hkc⟩:=Ao0 (hs.ev y) hy
 have hsz:C.P.cellsOf e=i.size:=by simp [Program.cellsOf,hi]
 have hbs:C.P.bytesOf e=i.bytes:=by simp [Program.bytesOf,hi]
 simp only [hsz] at he hzl
 rw [hbs] at hby
 have hvs:v.cells.size=i.size:=by simpa using hzl
 have hrun:=run_make (P:=C.P) w t e i v ht hi hv kl kc l c h0 hlc (by
  have h2:(i.bytes:Int)*c≤65536*2147483648:=Int.mul_le_mul (by omega) hc (by omega) (by omega)
  omega) (by omega)
 have hinit:(madeCells v.cells (c.toNat*i.size)).toList=(List.replicate c.toNat v.cells.toList).flatten:=by
  rw [← hvs]; exact Au8 v.cells c.toNat (by omega)
 have hlenC:(madeCells v.cells (c.toNat*i.size)).size=c.toNat*i.size:=size_madeCells _ _
 have hpre:(List.replicate l.toNat v.cells.toList).flatten=((List.replicate c.toNat v.cells.toList).flatten).take (l.toNat*i.size):=by
  apply List.ext_getElem?
  intro j
  rw [List.getElem?_take,Ab4,Ab4]
  simp only [Array.length_toList,hvs]
  by_cases hj:j < l.toNat*i.size
  ·have:j < c.toNat*i.size:=Nat.lt_of_lt_of_le hj (Nat.mul_le_mul_right _ (by omega))
   simp [hj,this]
  ·simp [hj]
 have hll:((List.replicate l.toNat v.cells.toList).flatten).length=l.toNat*i.size:=by
  rw [hpre,List.length_take,← hinit,Array.length_toList,hlenC]
  exact Nat.min_eq_left (Nat.mul_le_mul_right _ (by omega))
 have hfr:=hs.fresh hnew e (madeCells v.cells (c.toNat*i.size)) ((List.replicate l.toNat (v.cells.toList.map .v)).flatten) w.heap.size (Ae7 w (.cells (madeCells v.cells (c.toNat*i.size)) e)) (Nat.le_refl _) (heap_alloc_new w _)
  (by rw [Ab9,List.length_map,hll,hlenC]; exact Nat.mul_le_mul_right _ (by omega)) (fun h=>by rw [hna] at h; cases h)
  (fun j u d hu hd=>by
   rw [Ab9] at hd
   have hjl:j < l.toNat*i.size:=by
    have:=(List.getElem?_eq_some_iff.1 hd).1
    rwa [List.length_map,hll] at this
   refine Ao8 (Ae4 h1 l.toNat) j u d ?_ hd
   rw [hpre,List.getElem?_take_of_lt hjl,← hinit,Array.getElem?_toList]
   exact hu)
 refine ⟨.value (.slice (some ⟨w.heap.size,0,none⟩) l.toNat c.toNat),_,_,_,?_,.inl rfl,hfr,Ar7 (.ms nid 0 _ _ w.heap.size _ _ e (by simp) (heap_alloc_new w _) (by omega) (by simp only [maxLen]; omega) ?_) rfl⟩
 ·simp [execOp,ho,hkl,hkc,hrun]
 ·rw [hlenC,hsz]; omega
end ops
end Go.DD

/- Each operation on deep values is what the model's operation does (fourth part: append). -/
namespace Go.DD
open Go.RowKit (Below)
section ops
variable {C:Ctx} {U:Nat→Prop} {s:DS} {β:Nat→Option Nat} {a:Act} {w:World} {o:Oper} {d:DV} {s':DS} {nid:Nat}
theorem src_ok {T:TypeId} {es m:Nat} {x:Operand} {news:List DV} (hs:HoldsB C U s β a w) (h:srcD s T es (s.ev x)=some (news,m)) :
  ∃ us:List Value,us.length=news.length∧(∀ u∈us,u.oneCell'=true)∧(∀ (j:Nat) (u:Value) (d:DV),us[j]?=some u→news[j]?=some d→WV C U (s.vw C) β w u d)∧
   ((∃ ad cap,a.eval x=.slice (some ad) m cap∧∀ (j:Nat) (u:Value),us[j]?=some u→w.cell? (ad.add j)=some u)∨(∃ cap,a.eval x=.slice none 0 cap∧m=0∧us=[])):=by
 have h1:=hs.ev x
 unfold srcD at h
 split at h
 ·rename_i cs n hx
  cases h
  rw [hx] at h1
  rcases Au3 h1 with ⟨ad,cap,e1,rfl,rfl⟩ | ⟨ad,cap,us,e1,hl,hn,ha,h1c,hc,hr⟩
  ·refine ⟨[],rfl,by simp,by simp,?_⟩
   cases ad with
   | none=>exact .inr ⟨cap,e1,rfl,rfl⟩
   | some ad=>exact .inl ⟨ad,cap,e1,by simp⟩
  ·exact ⟨us,hl,h1c,fun j u d hu hd=>Al3 (hr j u d hu hd),.inl ⟨ad,cap,e1,hc⟩⟩
 ·rename_i cap hx
  cases h
  rw [hx] at h1
  exact ⟨[],rfl,by simp,by simp,.inr ⟨cap,rel_v h1,rfl,rfl⟩⟩
 ·rename_i ad cap hx
  cases h
  rw [hx] at h1
  exact ⟨[],rfl,by simp,by simp,.inl ⟨ad,cap,rel_v h1,by simp⟩⟩
 ·rename_i id off n es' hx
  rw [hx] at h1
  split at h
  ·rename_i T' cs hrow
   split at h
   ·rename_i hfit
    obtain ⟨rfl,rfl,hfit⟩:=hfit
    cases h
    rcases Al2 h1 with ⟨e1,rfl,rfl⟩ | ⟨b,cap,c,T,e1,hb,hw,hn,hm,hcap⟩
    ·exact ⟨[],by simp,by simp,by simp,.inr ⟨0,e1,rfl,rfl⟩⟩
    ·obtain ⟨c',hw',hl,_,hr⟩:=hs.row hb hrow
     rw [hw] at hw'
     injection hw' with hw'
     injection hw' with hcc hT
     subst hT hcc
     refine ⟨(c.toList.drop off).take (m*es'),by simp; omega,fun u hu=>?_,fun j u d hu hd=>?_,.inl ⟨_,cap,e1,fun j u hu=>?_⟩⟩
     ·obtain ⟨j,hj,rfl⟩:=List.mem_iff_getElem.1 hu
      have hjl:off+j < cs.length:=by simp at hj; omega
      refine (hr (off+j) _ cs[off+j] ?_ (List.getElem?_eq_getElem hjl)).2
      rw [List.getElem_take,List.getElem_drop]
      simp
     ·rw [List.getElem?_take] at hu hd
      split at hu
      ·rename_i hj
       rw [if_pos hj] at hd
       exact (hr (off+j) u d (by simpa using hu) (by simpa using hd)).1
      ·cases hu
     ·rw [List.getElem?_take] at hu
      split at hu
      ·exact Am9 hw j u hu
      ·cases hu
   ·cases h
  ·cases h
 ·cases h
theorem Cn3 {T:TypeId} {es n:Nat} {old:Option Nat} {x:Operand} {cs:List DV} (hes:es=C.P.cellsOf T) (hs:HoldsB C U s β a w) (h:dstD s T es (s.ev x)=some (old,cs,n)) :
  ∃ xs:List Value,w.ownsRow 0 T es (a.eval x) n xs∧xs.length=cs.length∧(∀ (j:Nat) (u:Value) (d:DV),xs[j]?=some u→cs[j]?=some d→WV C U (s.vw C) β w u d∧u.oneCell'=true)∧
   (∀ b,(a.eval x).ownBlock=some b→∃ id,old=some id∧β id=some b)∧∀ id,old=some id→(s.ho id).isSome=true:=by
 have h1:=hs.ev x
 unfold dstD at h
 split at h
 ·rename_i hx
  cases h
  rw [hx] at h1
  rw [rel_v h1]
  exact ⟨[],World.ownsRow_nil w _ _ _,rfl,by simp,by simp [Value.ownBlock],by simp⟩
 ·rename_i id' n' es' hx
  rw [hx] at h1
  split at h
  ·rename_i T' cs' hrow
   split at h
   ·rename_i hc
    obtain ⟨rfl,hes',hlen⟩:=hc
    cases h
    subst es'
    rcases Al2 h1 with ⟨e1,_,rfl⟩ | ⟨b,cap,c,T,e1,hb,hw,hn,hm,hcap⟩
    ·have hcs:cs=[]:=List.eq_nil_of_length_eq_zero (by simpa using hlen)
     subst hcs
     rw [e1]
     exact ⟨[],World.ownsRow_nil w _ _ _,rfl,by simp,by simp [Value.ownBlock],fun i hi=>by cases hi; rw [hrow]; rfl⟩
    ·obtain ⟨c',hw',hl,_,hr⟩:=hs.row hb hrow
     rw [hw] at hw'
     injection hw' with hw'
     injection hw' with hcc hT
     subst hT hcc
     have hlc:(c.toList.take (n*es)).length=n*es:=by simp; omega
     refine ⟨c.toList.take (n*es),⟨hlc,.inr ⟨b,cap,c,e1,Nat.zero_le _,hw,hn,hm,by omega,rfl⟩⟩,by omega,fun j u d hu hd=>?_,fun b' hb'=>?_,fun i hi=>by cases hi; rw [hrow]; rfl⟩
     ·rw [List.getElem?_take] at hu
      split at hu
      ·exact hr j u d (by simpa using hu) hd
      ·cases hu
     ·rw [e1] at hb'
      simp [Value.ownBlock] at hb'
      exact ⟨_,rfl,by rw [← hb']; exact hb⟩
   ·cases h
  ·cases h
 ·cases h
theorem Ao9 {P:Program} (w:World) (base:Nat) (t ty e:TypeId) (i:TypeInfo) (size:Nat) (ht:P.underlying t=some (.slice e)) (hi:P.info? e=some i)
  (v:Value) (n:Nat) (xs:List Value) (hown:w.ownsRow base e size v n xs) (c:Nat):(Builtin.append_ #[t,t] ty #[v,.slice none 0 c]).run P w=.ok v w:=by
 rcases hown.2 with ⟨rfl,rfl⟩ | ⟨g,cap,cur,rfl,_,_,hnc,_⟩
 ·simp [Builtin.append_,run_underlying ht,sizeOf,typeInfo,hi,Builtin.lenOf,Builtin.firstCells]
 ·simp [Builtin.append_,run_underlying ht,sizeOf,typeInfo,hi,Builtin.lenOf,Builtin.firstCells,hnc,storeCells]
def Bn3 (β:Nat→Option Nat):Option Nat→Nat→Option Nat
 | none=>β
 | some i=>upd β i none
theorem Cn4 {t T:TypeId} (hna:isArr C.P T=false) {c:Call} {x y:Operand} {z:List Value} {es bytes n m:Nat} {old:Option Nat} {cs news:List DV} (ho:o.op=.call c) (hc:c.callee=.builtin .append) (hargs:c.args.toList=[x,y]) (hty:c.argTypes.toList=[t,t])
  (ht:C.P.underlying t=some (.slice T)) (hz:zeroL C.P T=some z) (hzl:z.length=C.P.cellsOf T) (hes:es=C.P.cellsOf T) (hby:bytes=C.P.bytesOf T) (hs:HoldsB C U s β a w) (hnew:¬ U nid) (hd:dstD s T es (s.ev x)=some (old,cs,n)) (hsr:srcD s T es (s.ev y)=some (news,m))
  (hnl:news.length=m*es) (he:0 < es) (hbd:n+m≤2147483648) (hb2:bytes≤65536):OpOk C (Un U nid) a w o (.ms nid 0 (n+m) es) (s.upd nid (.mv old (.row T (cs ++ news)))):=by
 obtain ⟨i,v,hi,hv,rfl,h1z⟩:=Ao7 hz
 have hsz:C.P.cellsOf T=i.size:=by simp [Program.cellsOf,hi]
 have hbs:C.P.bytesOf T=i.bytes:=by simp [Program.bytesOf,hi]
 have hA:c.args = #[x,y]:=by apply Array.ext'; simpa using hargs
 have hT:c.argTypes = #[t,t]:=by apply Array.ext'; simpa using hty
 obtain ⟨us,ul,u1,ur,usrc⟩:=src_ok hs hsr
 obtain ⟨xs,hown,xl,xr,hob,hlive⟩:=Cn3 hes hs hd
 have hul:us.length=m*es:=by omega
 have key:∃ v' w',(Builtin.append_ #[t,t] o.type #[a.eval x,a.eval y]).run C.P w=.ok v' w'∧w'.ownsRow 0 T es v' (n+m) (xs ++ us)∧w.grownBy w' (a.eval x).ownBlock∧
   (v'.ownBlock=(a.eval x).ownBlock∨v'.ownBlock=some w.heap.size):=by
  rcases usrc with ⟨ad,cap,e1,hcell⟩ | ⟨cap,e1,rfl,rfl⟩
  ·obtain ⟨v',w',r1,r2,r3,_,r5⟩:=run_append_own_at (P:=C.P) w 0 t o.type T i v es bytes ht hi hv (by omega) (by omega) (by have h:=hzl; rw [Array.length_toList] at h; omega) he (a.eval x) n xs hown ad m cap us hul hcell u1
    (by simp only [maxLen]; omega) (by have:=Nat.mul_le_mul hbd hb2; omega) (Nat.zero_le _)
   exact ⟨v',w',by rw [e1]; exact r1,r2,r3,r5⟩
  ·refine ⟨a.eval x,w,by rw [e1]; exact Ao9 w _ t _ T i es ht hi _ _ _ hown cap,by simpa using hown,⟨rfl,rfl,rfl,Nat.le_refl _,fun _ _ _=>rfl⟩,.inl rfl⟩
 obtain ⟨v',w',hrun,hown',hg,hat⟩:=key
 have hlt':∀ b,v'.ownBlock=some b→0≤b∧b < w'.heap.size:=hown'.lt
 have hne:∀ j,old=some j→j≠nid:=fun j hj e=>hnew (e ▸ hs.hh.used (Ae5 (hlive j hj)))
 have hturn:=hs.turned (β':=upd (Bn3 β old) nid v'.ownBlock) (w':=w') hnew old hlive (.row T (cs ++ news))
  (fun b hb hne=>hg.block b hb (fun e=>by obtain ⟨j,h1,h2⟩:=hob b e.symm; exact hne j h1 h2))
  hg.os hg.tape hg.output hg.size
  (fun j hj hjo=>by
   rw [Ac8 _ _ hj]
   cases old with
   | none=>rfl
   | some i=>exact Ac8 β _ (fun e=>hjo (by rw [e])))
  (fun j hj=>by
   rw [Ac8 _ _ (hne j hj)]
   subst hj
   exact upd_same _ _ _)
  (fun b hb=>by
   rw [upd_same] at hb
   refine ⟨?_,(hlt' b hb).2⟩
   rcases hat with h | h
   ·exact .inl (hob b (by rw [← h]; exact hb))
   ·rw [h] at hb; cases hb; exact .inr (Nat.le_refl _))
  (fun hrel=>by
   have hkl:(cs ++ news).length=(n+m)*es:=by
    simp only [List.length_append]
    have h2:=hown.1
    rw [Nat.add_mul]; omega
   rcases hown'.2 with ⟨e1,e2⟩ | ⟨g,cap,cur,e1,hbg,hgw,hnc,hcm,hcs,htake⟩
   ·refine .inl ⟨by rw [upd_same,e1]; rfl,List.eq_nil_of_length_eq_zero (by rw [hkl,e2]; simp)⟩
   ·refine .inr ⟨g,cur,by rw [upd_same,e1]; rfl,hgw,by rw [hkl,hcs]; exact Nat.mul_le_mul_right _ hnc,fun h=>(by rw [hna] at h; cases h),fun j u d hu he'=>?_⟩
    have hj:j < (n+m)*es:=by
     have:=(List.getElem?_eq_some_iff.1 he').1
     omega
    have hu':(xs ++ us)[j]?=some u:=by
     rw [← htake,List.getElem?_take_of_lt hj]
     simpa using hu
    rw [List.getElem?_append] at hu' he'
    rw [xl] at hu'
    by_cases hjx:j < cs.length
    ·rw [if_pos hjx] at hu' he'
     have:=xr j u d hu' he'
     exact ⟨hrel _ _ this.1,this.2⟩
    ·rw [if_neg hjx] at hu' he'
     exact ⟨hrel _ _ (ur _ u d hu' he'),u1 u (List.mem_of_getElem? hu')⟩)
 refine ⟨.value v',w',_,_,?_,.inl rfl,hturn.1,?_⟩
 ·simp [execOp,ho,resolve,hc,hA,hT,invoke,builtin,hrun]
 ·refine Ar7 ?_ rfl
  rcases hown'.2 with ⟨e1,e2⟩ | ⟨g,cap,cur,e1,hbg,hgw,hnc,hcm,hcs,htake⟩
  ·rw [e1,e2]; exact .ms0 nid es
  ·have h2:upd (Bn3 β old) nid v'.ownBlock nid=some g:=by rw [upd_same,e1]; rfl
   rw [e1] at h2 ⊢
   exact .ms nid 0 _ es g cap cur T h2 hgw hnc hcm (by rw [hcs]; omega)
end ops
end Go.DD

/- Maps among the own objects: made, read, written, counted. Keys: bools, integers, strings. -/
namespace Go.DD
open Go.RowKit (Below)
theorem Bn4 {d:TypeDesc} {v:Value} (h:A50 d v=true):MapKept.IsKey d v:=by
 cases d <;> cases v <;> simp_all [A50,MapKept.IsKey]
theorem bytes_beq (a b:ByteArray):(a == b)=(a.data.toList == b.data.toList):=by
 obtain ⟨x⟩:=a
 obtain ⟨y⟩:=b
 show (x == y)=(x.toList == y.toList)
 rw [Bool.eq_iff_iff]
 simp only [beq_iff_eq]
 exact ⟨fun h=>by rw [h],fun h=>Array.toList_inj.1 h⟩
theorem A06 (d:TypeDesc) (k x:Value):sameD d k x=Instr.sameNow d k x:=by
 cases d <;> cases k <;> cases x <;> simp [sameD,Instr.sameNow,bytes_beq]
theorem Bz2 {kd:TypeDesc} {k x:Value} (h:sameD kd k x=some true):x=k:=by
 unfold sameD at h
 split at h
 ·split at h
  ·rename_i e; subst e; simp at h; rw [h]
  ·cases h
 ·simp only [Option.some.injEq,beq_iff_eq] at h
  congr 1
  rename_i x y
  obtain ⟨x⟩:=x
  obtain ⟨y⟩:=y
  simp only at h
  rw [Array.toList_inj.1 h]
 ·simp at h; rw [h]
 ·cases h
theorem Bn5 {kd:TypeDesc} {k:Value} (h:A50 kd k=true):Instr.sameBits 10000 k k=true:=by
 unfold A50 at h
 split at h
 ·simp [Instr.sameBits]
 ·simp [Instr.sameBits]
 ·rw [Instr.sameBits,bytes_beq]; simp
 ·cases h
theorem bytes_inj {a b:ByteArray} (h:(a.toList == b.toList)=true):a=b:=by
 have e:a.toList=b.toList:=by simpa using h
 rw [ByteArray.toList_eq,ByteArray.toList_eq] at e
 obtain ⟨a⟩:=a
 obtain ⟨b⟩:=b
 congr 1
 exact Array.toList_inj.1 e
theorem Bn6 {ks:List Nat} {a b:Value} {r:Bool} (h:sameK (.f ks) a b=some r):∃ xs ys:Array Value,a=.agg xs∧b=.agg ys∧eqL ks (xs.toList.map .v) (ys.toList.map .v)=some r:=by
 cases a <;> cases b <;> simp only [sameK] at h <;> first | (cases h; done) | exact ⟨_,_,rfl,rfl,h⟩
theorem Bc7 {ks:List Nat} {a:Value} (h:Ai2 (.f ks) a=true):∃ xs:Array Value,a=.agg xs∧cellsB ks xs.toList=true:=by
 cases a <;> simp only [Ai2] at h <;> first | (cases h; done) | exact ⟨_,rfl,h⟩
theorem Bz3 {k:Nat} {x y:Value} (h:eqC k (.v x) (.v y)=some true):x=y:=by
 match k with
 | 0=>
  cases x <;> cases y <;> simp only [eqC] at h <;> first | (cases h; done) | skip
  split at h
  ·rename_i hk; subst hk; simp at h; rw [h]
  ·cases h
 | 1=>cases x <;> cases y <;> simp only [eqC] at h <;> first | (cases h; done) | (have:=(Option.some.inj h); simp at this; rw [this])
 | 2=>cases x <;> cases y <;> simp only [eqC] at h <;> first | (cases h; done) | exact congrArg Value.string (bytes_inj (by simpa using h))
 | k+3=>cases x <;> cases y <;> simp [eqC] at h
theorem Bc8:∀ {ks:List Nat} {xs ys:List Value},eqL ks (xs.map .v) (ys.map .v)=some true→xs=ys
 | [],[],[],_=>rfl
 | k :: ks,x :: xs,y :: ys,h=>by
  simp only [List.map_cons,eqL] at h
  split at h
  ·rename_i hc; rw [Bz3 hc,Bc8 h]
  ·cases h
  ·cases h
 | [],_ :: _,_,h=>by simp [eqL] at h
 | [],[],_ :: _,h=>by simp [eqL] at h
 | _ :: _,[],_,h=>by simp [eqL] at h
 | _ :: _,_ :: _,[],h=>by simp [eqL] at h
structure KLaw (P:Program) (kt:TypeId) (kd:KD):Prop where
 chk:∀ (w:World) (e:Bool) (kv:Value),Ai2 kd kv=true→(Instr.checkKey e 10000 kt kv).run P w=.ok () w
 one:∀ (kv x:Value),sameK kd kv x=some true→x=kv
 bits:∀ kv,Ai2 kd kv=true→Instr.sameBits 10000 kv kv=true
 find:∀ (w:World) (kv:Value) (ms:List MapEntry) (es:List ME) (i:Nat) (r:Option (Nat×ME)),ms.length=es.length→(∀ (j:Nat) (e:MapEntry) (p:ME),ms[j]?=some e→es[j]?=some p→e.key=p.k)→findD kd kv es i=some r→
  (r=none∧∀ f,i=0→f=ms→(Instr.findKey kt kv f).run P w=.ok none w)∨∃ j e p,r=some (i+j,p)∧ms[j]?=some e∧es[j]?=some p∧(∀ f,i=0→f=ms→(Instr.findKey kt kv f).run P w=.ok (some (i+j,e.val)) w)∧sameK kd kv e.key=some true
theorem Bc9 {d:TypeDesc} {k:Value} : ∀ (ms:List MapEntry) (es:List ME) (i:Nat) (r:Option (Nat×ME)),ms.length=es.length→(∀ (j:Nat) (e:MapEntry) (p:ME),ms[j]?=some e→es[j]?=some p→e.key=p.k)→
  findD (.p d) k es i=some r→(r=none∧Instr.findNow d k ms i=some none)∨
   ∃ j e p,r=some (i+j,p)∧ms[j]?=some e∧es[j]?=some p∧Instr.findNow d k ms i=some (some (i+j,e.val))∧sameD d k e.key=some true
 | [],[],i,r,_,_,h=>by simp [findD] at h; subst h; exact .inl ⟨rfl,rfl⟩
 | [],_ :: _,_,_,h,_,_=>by simp at h
 | _ :: _,[],_,_,h,_,_=>by simp at h
 | m :: ms,p :: ps,i,r,hl,hk,h=>by
  have hkey:m.key=p.k:=hk 0 m p rfl rfl
  simp only [findD,sameK] at h
  split at h
  ·rename_i hs
   cases h
   refine .inr ⟨0,m,p,rfl,rfl,rfl,?_,by rw [hkey]; exact hs⟩
   simp [Instr.findNow,← A06,hkey,hs]
  ·rename_i hs
   rcases Bc9 ms ps (i+1) r (by simpa using hl) (fun j e q he hq=>hk (j+1) e q (by simpa using he) (by simpa using hq)) h with ⟨h1,h2⟩ | ⟨j,e,v,h1,h2,h3,h4,h5⟩
   ·refine .inl ⟨h1,?_⟩
    simp [Instr.findNow,← A06,hkey,hs,h2]
   ·refine .inr ⟨j+1,e,v,by rw [h1]; congr 2; omega,by simpa using h2,by simpa using h3,?_,h5⟩
    simp [Instr.findNow,← A06,hkey,hs,h4]; omega
  ·cases h
theorem Cn5 {P:Program} {kt:TypeId} {d:TypeDesc} (hu:P.underlying kt=some d):KLaw P kt (.p d) where
 chk:=fun w e kv h=>MapKept.run_checkKey hu (Bn4 h) e 9999
 one:=fun kv x h=>Bz2 h
 bits:=fun kv h=>Bn5 h
 find:=fun w kv ms es i r hl hk h=>by
  rcases Bc9 ms es i r hl hk h with ⟨h1,h2⟩ | ⟨j,e,p,h1,h2,h3,h4,h5⟩
  ·exact .inl ⟨h1,fun f hi hf=>by subst hi hf; exact MapKept.run_findKey hu h2⟩
  ·exact .inr ⟨j,e,p,h1,h2,h3,fun f hi hf=>by subst hi hf; exact MapKept.run_findKey hu h4,h5⟩
theorem B54 {P:Program} {kt:TypeId} {ks:List Nat} (hwide:(match P.underlying kt with | some (.array _ _) | some (.struct _)=>true | _=>false)=true)
  (hchk:∀ (w:World) (e:Bool) (cs:Array Value),cellsB ks cs.toList=true→(Instr.checkKey e 10000 kt (.agg cs)).run P w=.ok () w)
  (heq:∀ (w:World) (xs ys:Array Value) (r:Bool),eqL ks (xs.toList.map .v) (ys.toList.map .v)=some r→(Op.equal kt (.agg xs) (.agg ys)).run P w=.ok r w):KLaw P kt (.f ks) where
 chk:=fun w e kv h=>by
  obtain ⟨cs,rfl,h⟩:=Bc7 h
  exact hchk w e _ h
 one:=fun kv x h=>by
  obtain ⟨xs,ys,rfl,rfl,h⟩:=Bn6 h
  have:=Bc8 h
  rw [Array.toList_inj.1 this]
 bits:=fun kv h=>by
  obtain ⟨cs,rfl,h⟩:=Bc7 h
  ·have key:∀ (ks:List Nat) (l:List Value),cellsB ks l=true→∀ p∈l.zip l,(Instr.sameBits 9999 p.1 p.2)=true:=by
    intro ks l
    induction l generalizing ks with
    | nil=>simp
    | cons a l ih=>
     intro h p hp
     simp only [List.zip_cons_cons,List.mem_cons] at hp
     unfold cellsB at h
     split at h
     ·rename_i e; cases e
     ·rename_i e; cases e
      rcases hp with rfl | hp
      ·simp [Instr.sameBits]
      ·exact ih _ h p hp
     ·rename_i e; cases e
      rcases hp with rfl | hp
      ·simp [Instr.sameBits]
      ·exact ih _ h p hp
     ·rename_i e; cases e
      rcases hp with rfl | hp
      ·rw [Instr.sameBits,bytes_beq]; simp
      ·exact ih _ h p hp
     ·cases h
   show Instr.sameBits (9999+1) (.agg cs) (.agg cs)=true
   simp only [Instr.sameBits,beq_self_eq_true,Bool.true_and,List.all_eq_true]
   exact key ks cs.toList h
 find:=fun w kv ms es i r hl hk h=>by
  have key:∀ (ms:List MapEntry) (es:List ME) (i:Nat) (r:Option (Nat×ME)),ms.length=es.length→(∀ (j:Nat) (e:MapEntry) (p:ME),ms[j]?=some e→es[j]?=some p→e.key=p.k)→findD (.f ks) kv es i=some r→
    (r=none∧(Instr.findAsking kt kv ms i).run P w=.ok none w)∨∃ j e p,r=some (i+j,p)∧ms[j]?=some e∧es[j]?=some p∧(Instr.findAsking kt kv ms i).run P w=.ok (some (i+j,e.val)) w∧sameK (.f ks) kv e.key=some true:=by
   intro ms
   induction ms with
   | nil=>
    intro es i r hl _ h
    cases es with
    | nil=>simp [findD] at h; subst h; exact .inl ⟨rfl,by simp [Instr.findAsking]⟩
    | cons _ _=>simp at hl
   | cons m ms ih=>
    intro es i r hl hk h
    cases es with
    | nil=>simp at hl
    | cons p ps=>
     have hkey:m.key=p.k:=hk 0 m p rfl rfl
     have hrun:∀ b,sameK (.f ks) kv p.k=some b→(Op.equal kt kv m.key).run P w=.ok b w:=by
      intro b hb
      rw [hkey]
      obtain ⟨xs,ys,e1,e2,hb⟩:=Bn6 hb
      rw [e1,e2]
      exact heq w _ _ b hb
     simp only [findD] at h
     split at h
     ·rename_i hs
      cases h
      refine .inr ⟨0,m,p,rfl,rfl,rfl,?_,by rw [hkey]; exact hs⟩
      simp [Instr.findAsking,hrun _ hs]
     ·rename_i hs
      rcases ih ps (i+1) r (by simpa using hl) (fun j e q he hq=>hk (j+1) e q (by simpa using he) (by simpa using hq)) h with ⟨h1,h2⟩ | ⟨j,e,v,h1,h2,h3,h4,h5⟩
      ·exact .inl ⟨h1,by simp [Instr.findAsking,hrun _ hs,h2]⟩
      ·refine .inr ⟨j+1,e,v,by rw [h1]; congr 2; omega,by simpa using h2,by simpa using h3,?_,h5⟩
       simp [Instr.findAsking,hrun _ hs,h4]; omega
     ·cases h
  rcases key ms es i r hl hk h with ⟨h1,h2⟩ | ⟨j,e,p,h1,h2,h3,h4,h5⟩
  ·exact .inl ⟨h1,fun f hi hf=>by subst hi hf; rw [run_findKey_eq w hwide]; exact h2⟩
  ·exact .inr ⟨j,e,p,h1,h2,h3,fun f hi hf=>by subst hi hf; rw [run_findKey_eq w hwide]; exact h4,h5⟩
theorem Ap0 {P:Program} {w:World} {t:TypeId} {k:Nat} {v:Value} (h:Aj1 P t=some k) (e:Bool) (n:Nat) (hv:cellsB [k] [v]=true):(Instr.checkKey e (n+1) t v).run P w=.ok () w:=by
 unfold Aj1 at h
 unfold Instr.checkKey
 split at h <;> first | (cases h; done) | skip
 all_goals
  rename_i hu
  simp only [Sem.run_bind,run_underlying hu,Result.andThen_ok]
  cases h
  cases v <;> first | (simp [cellsB] at hv; done) | rfl
theorem Au9 {k:Nat} {ks:List Nat} {l:List Value} (h:cellsB (k :: ks) l=true):∃ v l',l=v :: l'∧cellsB [k] [v]=true∧cellsB ks l'=true:=by
 cases l with
 | nil=>unfold cellsB at h; simp at h
 | cons v l=>
  refine ⟨v,l,rfl,?_⟩
  match k with
  | 0=>cases v <;> simp_all [cellsB]
  | 1=>cases v <;> simp_all [cellsB]
  | 2=>cases v <;> simp_all [cellsB]
  | k+3=>cases v <;> simp [cellsB] at h
theorem A53 {P:Program} {t:TypeId} {k:Nat} (h:Aj1 P t=some k) (w:World):(isAgg t).run P w=.ok false w:=by
 unfold Aj1 at h
 simp only [isAgg,Sem.run_bind]
 split at h <;> first | (rename_i hu; rw [run_underlying hu]; rfl) | cases h
theorem A07 {P:Program} {w:World} {t:TypeId} {k:Nat} {x y:Value} {b:Bool} (hp:Aj1 P t=some k) (h:eqC k (.v x) (.v y)=some b) (d:Nat):(Op.equalIn (d+1) t x y).run P w=.ok b w:=by
 unfold Aj1 at hp
 unfold eqC at h
 split at h
 ·rename_i e1 e2; cases e1; cases e2
  split at h
  ·cases h
   rename_i hk
   subst hk
   split at hp <;> cases hp
   rename_i hu; exact run_equalIn_int w d _ _ _ _ _ hu
  ·cases h
 ·rename_i e1 e2; cases e1; cases e2
  cases h
  split at hp <;> cases hp
  rename_i hu; exact run_equalIn_bool' w d _ _ _ hu
 ·rename_i e1 e2; cases e1; cases e2
  cases h
  split at hp <;> cases hp
  rename_i hu; exact run_equalIn_string w d _ _ _ hu
 ·cases h
theorem klaw {P:Program} {kt:TypeId} {kd:KD} (h:keyKd P kt=some kd):KLaw P kt kd:=by
 unfold keyKd at h
 split at h
 ·rename_i fs hu
  split at h
  rotate_left
  ·cases h
  rename_i hst
  obtain ⟨ks,hf,rfl⟩:=Option.map_eq_some_iff.1 h
  refine B54 (by rw [hu]) (fun w e cs hc=>?_) (fun w xs ys r hr=>?_)
  ·show (Instr.checkKey e (9999+1) kt (.agg cs)).run P w=.ok () w
   rw [Instr.checkKey]
   simp only [Sem.run_bind,run_underlying hu,Result.andThen_ok]
   rw [← Array.forIn_toList]
   have key:∀ (L:List Field) (ks:List Nat) (off:Nat),Al0 P off L=some ks→cellsB ks (cs.toList.drop off)=true→
     (forIn L PUnit.unit (fun (f:Field) (_:PUnit)=>(do
      if f.name ≠ "_" then
       Instr.checkKey e 9999 f.type (← part f.type cs f.offset)
       pure (ForInStep.yield PUnit.unit)
      else pure (ForInStep.yield PUnit.unit):Sem (ForInStep PUnit)))).run P w=.ok PUnit.unit w:=by
    intro L
    induction L with
    | nil=>intro ks off _ _; simp
    | cons f L ih=>
     intro ks off hk hc
     simp only [Al0] at hk
     split at hk
     rotate_left
     ·cases hk
     rename_i hno
     simp only [Bool.and_eq_true,bne_iff_ne,ne_eq,beq_iff_eq] at hno
     obtain ⟨hn,ho⟩:=hno
     obtain ⟨k,hp,hk⟩:=Option.bind_eq_some_iff.1 hk
     obtain ⟨ks',hrest,rfl⟩:=Option.map_eq_some_iff.1 hk
     obtain ⟨v,l',e1,hv,hl⟩:=Au9 hc
     have hlt:off < cs.toList.length:=by
      rcases Nat.lt_or_ge off cs.toList.length with h1 | h1
      ·exact h1
      ·rw [List.drop_eq_nil_of_le h1] at e1; cases e1
     rw [List.drop_eq_getElem_cons hlt] at e1
     injection e1 with e1 e2
     have px:(part f.type cs f.offset).run P w=.ok v w:=by
      subst ho
      simp at e1 hlt
      simp [part,A53 hp w,hlt,e1]
     have pc:=Ap0 (w:=w) hp e 9998 hv
     rw [← e2] at hl
     simp only [List.forIn_cons,Sem.run_bind,hn,ne_eq,not_false_eq_true,if_true,Result.andThen_ok,px,pc,Sem.run_pure]
     exact ih ks' (off+1) hrest hl
   have:=key fs.toList ks 0 hf (by simpa using hc)
   rw [this]; rfl
  ·have hfs:P.fieldsOf kt=fs:=by simp [Program.fieldsOf,hu]
   have he:=Bn0 (w:=w) (β:=fun _=>none) (P:=P) (al:=fun _=>True) 9998 fs.toList ks 0 xs.toList ys.toList (xs.toList.map .v) (ys.toList.map .v) r hf (by simpa using hr) (by simp) (by simp)
    (fun j u d hu hd=>by simp only [List.getElem?_map,hu,Option.map_some,Option.some.injEq] at hd; subst hd; exact .imm _ _ (.v u)) (fun j u d hu hd=>by simp only [List.getElem?_map,hu,Option.map_some,Option.some.injEq] at hd; subst hd; exact .imm _ _ (.v u))
   have h3:=run_equalIn_struct (P:=P) w 9999 kt xs ys (by rw [hfs]; exact hu) hst
   rw [hfs] at h3
   exact h3.trans (by simpa using he)
 ·rename_i n el hu
  split at h
  rotate_left
  ·cases h
  rename_i hone
  obtain ⟨k,hp,rfl⟩:=Option.map_eq_some_iff.1 h
  obtain ⟨_,hsz,inf,hi,hi1⟩:=Af1 hone (default:World)
  have hsz:∀ w,(sizeOf el).run P w=.ok 1 w:=fun w=>(Af1 hone w).2.1
  have px:∀ (w:World) (cs:Array Value) (off:Nat) (v:Value),cs[off]?=some v→(part el cs off).run P w=.ok v w:=fun w cs off v hv=>by simp [part,A53 hp w,hv]
  refine B54 (by rw [hu]) (fun w e cs hc=>?_) (fun w xs ys r hr=>?_)
  ·show (Instr.checkKey e (9999+1) kt (.agg cs)).run P w=.ok () w
   rw [Instr.checkKey]
   simp only [Sem.run_bind,run_underlying hu,Result.andThen_ok]
   simp only [Std.Legacy.Range.forIn_eq_forIn_range',Std.Legacy.Range.size,Nat.sub_zero,Nat.add_one_sub_one,Nat.div_one]
   have key:∀ (m off:Nat),cellsB (List.replicate m k) (cs.toList.drop off)=true→
     (forIn (List.range' off m) PUnit.unit (fun (i:Nat) (_:PUnit)=>(do
      Instr.checkKey e 9999 el (← part el cs (i*(← sizeOf el)))
      pure (ForInStep.yield PUnit.unit):Sem (ForInStep PUnit)))).run P w=.ok PUnit.unit w:=by
    intro m
    induction m with
    | zero=>intro off _; simp
    | succ m ih=>
     intro off hc
     rw [List.replicate_succ] at hc
     obtain ⟨v,l',e1,hv,hl⟩:=Au9 hc
     have hlt:off < cs.toList.length:=by
      rcases Nat.lt_or_ge off cs.toList.length with h1 | h1
      ·exact h1
      ·rw [List.drop_eq_nil_of_le h1] at e1; cases e1
     rw [List.drop_eq_getElem_cons hlt] at e1
     injection e1 with e1 e2
     have hcv:cs[off]?=some v:=by
      rw [← e1]; simp at hlt; simp [hlt]
     have pc:=Ap0 (w:=w) hp e 9998 hv
     rw [← e2] at hl
     rw [List.range'_succ]
     simp only [List.forIn_cons,Sem.run_bind,hsz,Result.andThen_ok,Nat.mul_one,px w cs off v hcv,pc,Sem.run_pure]
     exact ih (off+1) hl
   have:=key n 0 (by simpa using hc)
   rw [this]; rfl
  ·have hitems:∀ (m off:Nat),eqL (List.replicate m k) ((xs.toList.drop off).map .v) ((ys.toList.drop off).map .v)=some r→(Op.eqItems 9999 el 1 xs ys (List.range' off m)).run P w=.ok r w:=by
    intro m
    induction m with
    | zero=>
     intro off h
     simp only [List.replicate_zero] at h
     unfold eqL at h
     split at h <;> simp_all [Op.eqItems]
    | succ m ih=>
     intro off h
     rw [List.replicate_succ] at h
     have hc:off < xs.toList.length:=by
      rcases Nat.lt_or_ge off xs.toList.length with h1 | h1
      ·exact h1
      ·rw [List.drop_eq_nil_of_le h1] at h; simp [eqL] at h
     have hd:off < ys.toList.length:=by
      rcases Nat.lt_or_ge off ys.toList.length with h1 | h1
      ·exact h1
      ·rw [List.drop_eq_nil_of_le h1] at h; simp [eqL] at h
     rw [List.drop_eq_getElem_cons hc,List.drop_eq_getElem_cons hd] at h
     simp only [List.map_cons,eqL] at h
     have gx:=px w xs off xs.toList[off] (by simp at hc; simp [hc])
     have gy:=px w ys off ys.toList[off] (by simp at hd; simp [hd])
     rw [List.range'_succ]
     cases hq:eqC k (.v xs.toList[off]) (.v ys.toList[off]) with
     | none=>rw [hq] at h; cases h
     | some b=>
      rw [hq] at h
      have pe:=A07 (w:=w) hp hq 9998
      simp only [Op.eqItems,Sem.run_bind,Nat.mul_one,gx,gy,pe,Result.andThen_ok]
      cases b
      ·simp at h; subst h; simp
      ·simpa using ih (off+1) h
   show (Op.equalIn (9999+1) kt (.agg xs) (.agg ys)).run P w=.ok r w
   rw [run_equalIn_array w 9999 xs ys hu hi]
   have hce:P.cellsOf el=1:=by unfold Program.cellsOf; simp [hi,hi1]
   rw [hce,List.range_eq_range']
   exact hitems n 0 (by simpa using hr)
 ·rename_i d hn1 hn2 hu
  cases h
  exact Cn5 hu
 ·cases h
theorem Bn7 {P:Program} {w:World} {al:Nat→Prop} {β:Nat→Option Nat} : ∀ {us:List Value} {cs:List DV} {l:List Value},unvL cs=some l→us.length=cs.length→(∀ (j:Nat) (u:Value) (d:DV),us[j]?=some u→cs[j]?=some d→Rel P w al β u d)→us=l
 | us,[],l,h,hl,_=>by simp [unvL] at h; subst h; simpa using hl
 | [],_ :: _,_,_,hl,_=>by simp at hl
 | u :: us,c :: cs,l,h,hl,hr=>by
  unfold unvL at h
  split at h
  ·rename_i e; cases e
  ·rename_i x l' e; cases e
   split at h
   ·obtain ⟨r,hr',rfl⟩:=Option.map_eq_some_iff.1 h
    have e1:u=x:=rel_v (hr 0 u _ rfl rfl)
    have e2:us=r:=Bn7 hr' (by simpa using hl) fun j u d hu hd=>hr (j+1) u d (by simpa using hu) (by simpa using hd)
    rw [e1,e2]
   ·cases h
  ·cases h
theorem kv_ok {P:Program} {w:World} {al:Nat→Prop} {β:Nat→Option Nat} {x kv:Value} {d:DV} (h:Rel P w al β x d) (hk:kvOf d=some kv):x=kv:=by
 unfold kvOf at hk
 split at hk
 ·cases hk; exact rel_v h
 ·rename_i cs
  obtain ⟨l,hl,rfl⟩:=Option.map_eq_some_iff.1 hk
  obtain ⟨vs,rfl,h1,_,h2⟩:=Aq6 h
  rw [Bn7 hl h1 h2]
 ·cases hk
section ops
variable {C:Ctx} {U:Nat→Prop} {s:DS} {β:Nat→Option Nat} {a:Act} {w:World} {o:Oper} {d:DV} {s':DS} {nid:Nat}
theorem HoldsB.mapo {id b ck:Nat} {es:List ME} (hs:HoldsB C U s β a w) (hb:β id=some b) (ho:s.ho id=some (.mapo ck es)) :
  ∃ ms,w.heap[b]?=some (.map ms ck)∧ms.size=es.length∧∀ (j:Nat) (e:MapEntry) (p:ME),ms[j]?=some e→es[j]?=some p→e.key=p.k∧e.born=p.b∧WV C U (s.vw C) β w e.val p.v:=by
 obtain ⟨b',ms,hb',h1,h2,h4⟩:=hs.hh.hp id _ (Ad9 ho)
 rw [hb] at hb'; cases hb'
 exact ⟨ms,h1,h2,h4⟩
theorem Cn6 {t:TypeId} (ho:o.op=.makeMap t none) (hs:HoldsB C U s β a w) (hn:¬ U nid):OpOk C (Un U nid) a w o (.mp nid) (s.upd nid (.lay (.mapo 0 []))):=by
 have hbl:=Ae7 w (.map #[] 0)
 have hf:=(hs.turned (β':=upd β nid (some w.heap.size)) (w':=w.alloc (.map #[] 0)) hn none (fun _ h=>by cases h) (.mapo 0 []) (fun b hb _=>hbl.block b hb) hbl.os hbl.tape hbl.output hbl.size (fun j hj _=>Ac8 β _ hj) (fun _ h=>by cases h)
  (fun b hb=>by rw [upd_same] at hb; cases hb; exact ⟨.inr (Nat.le_refl _),by simp⟩) (fun _=>⟨_,#[],upd_same _ _ _,heap_alloc_new w _,rfl,by simp⟩)).1
 refine ⟨.value (.map (some w.heap.size)),_,_,_,?_,.inl rfl,hf,Ar7 (.mp nid _ (by simp)) rfl⟩
 simp [execOp,ho,Instr.makeMap]
theorem Ap1 {V:Nat→Option DObj} {ok b:Bool} {x:Value} {v:DV} (h:WV C U V β w x v):WV C U V β w (if ok then .tuple #[x,.bool b] else x) (lkRes ok v b):=by
 unfold lkRes
 cases ok
 ·exact h
 ·refine ⟨fun id hi=>?_,fun ha=>.tup [x,.bool b] _ rfl fun j u d hu hd=>?_,TP.of_wv (C:=C) (U:=U) (V:=V) (β:=β) (w:=w) (us:=[x,.bool b]) rfl fun j u d hu hd=>?_⟩
  ·simp [DV.refs,DV.refsL] at hi; exact h.1 id hi
  ·match j with
   | 0=>simp at hu hd; subst hu hd; exact h.2.1 fun id hi=>ha id (by simp [DV.refs,DV.refsL,hi])
   | 1=>simp at hu hd; subst hu hd; exact .imm _ _ (.v _)
   | j+2=>simp at hu
  ·match j with
   | 0=>simp at hu hd; subst hu hd; exact h
   | 1=>simp at hu hd; subst hu hd; exact WV.v _
   | j+2=>simp at hu
theorem A08 {P:Program} {et:TypeId} {z:Value} (hz:(P.info? et).bind (·.zero)=some z) (w:World):(zeroValue et:Sem Value).run P w=.ok z w:=by
 obtain ⟨i,hi,hz'⟩:=Option.bind_eq_some_iff.1 hz
 simp [zeroValue,typeInfo,hi,hz']
theorem Cn7 {t kt et:TypeId} {kd:KD} {x k:Operand} {ok:Bool} {kv z:Value} (ho:o.op=.lookup t x k ok) (ht:C.P.underlying t=some (.map kt et)) (hkd:keyKd C.P kt=some kd)
  (hz:(C.P.info? et).bind (·.zero)=some z) (hs:HoldsB C U s β a w) (hk:kvOf (s.ev k)=some kv) (hkey:Ai2 kd kv=true) :
  (s.ev x=.v (.map none)→OpOk C U a w o (lkRes ok (.v z) false) s)∧
  (∀ id ck es r,s.ev x=.mp id→s.ho id=some (.mapo ck es)→findD kd kv es 0=some r→OpOk C U a w o (match r with | some p=>lkRes ok p.2.v true | none=>lkRes ok (.v z) false) s):=by
 have hke:a.eval k=kv:=kv_ok (hs.ev k) hk
 have L:=klaw hkd
 have hzero:=A08 hz w
 have hck:∀ e,(Instr.checkKey e 10000 kt kv).run C.P w=.ok () w:=fun e=>L.chk w e kv hkey
 refine ⟨fun hx=>?_,fun id ck es r hx hid hf=>?_⟩
 ·have hxe:a.eval x=.map none:=by have:=hs.ev x; rw [hx] at this; exact rel_v this
  refine .same hs (x:=if ok then .tuple #[z,.bool false] else z) ?_ (Ap1 (WV.v z))
  rcases L.find w kv [] [] 0 none rfl (by simp) rfl with ⟨_,h2⟩ | ⟨j,e,p,h1,_⟩
  ·have hfk:=h2 [] rfl rfl
   simp [execOp,ho,Instr.lookup,run_underlying ht,hxe,hke,hck,hfk,hzero,Result.andThen]
  ·cases h1
 ·have h1:=hs.ev x
  rw [hx] at h1
  obtain ⟨b,hxe,hb⟩:=An6 h1
  obtain ⟨ms,hm,hsz,hrel⟩:=hs.mapo hb hid
  have hg:(getObj b).run C.P w=.ok (.map ms ck) w:=MapKept.run_getObj_map hm
  rcases L.find w kv ms.toList es 0 r (by simpa using hsz) (fun j e p he hp=>(hrel j e p (by simpa using he) hp).1) hf with ⟨rfl,h2⟩ | ⟨j,e,v,rfl,h2,h3,h4,_⟩
  ·refine .same hs (x:=if ok then .tuple #[z,.bool false] else z) ?_ (Ap1 (WV.v z))
   have hfk:=h2 _ rfl rfl
   simp [execOp,ho,Instr.lookup,run_underlying ht,hxe,hke,hck,hg,hfk,hzero,Result.andThen]
  ·refine .same hs (x:=if ok then .tuple #[e.val,.bool true] else e.val) ?_ (Ap1 (hrel j e _ (by simpa using h2) h3).2.2)
   have hfk:=h4 _ rfl rfl
   simp [execOp,ho,Instr.lookup,run_underlying ht,hxe,hke,hck,hg,hfk,Result.andThen]
theorem Cn8 {t kt et:TypeId} {c:Call} {x:Operand} (ho:o.op=.call c) (hc:c.callee=.builtin .len) (hargs:c.args.toList=[x]) (ht:c.argTypes[0]?=some t) (hu:C.P.underlying t=some (.map kt et)) (hs:HoldsB C U s β a w) :
  (s.ev x=.v (.map none)→OpOk C U a w o (.v (.int .i64 0)) s)∧(∀ id ck es,s.ev x=.mp id→s.ho id=some (.mapo ck es)→OpOk C U a w o (.v (.int .i64 es.length)) s):=by
 have hA:c.args = #[x]:=by apply Array.ext'; simpa using hargs
 refine ⟨fun hx=>?_,fun id ck es hx hid=>?_⟩
 ·have hxe:a.eval x=.map none:=by have:=hs.ev x; rw [hx] at this; exact rel_v this
  refine .same hs (x:=.int .i64 0) ?_ (WV.v _)
  simp [execOp,ho,resolve,hc,hA,invoke,builtin,Builtin.len_,ht,hxe,run_underlying hu,goInt]
 ·have h1:=hs.ev x
  rw [hx] at h1
  obtain ⟨b,hxe,hb⟩:=An6 h1
  obtain ⟨ms,hm,hsz,_⟩:=hs.mapo hb hid
  have hg:(getObj b).run C.P w=.ok (.map ms ck) w:=MapKept.run_getObj_map hm
  refine .same hs (x:=.int .i64 es.length) ?_ (WV.v _)
  simp [execOp,ho,resolve,hc,hA,invoke,builtin,Builtin.len_,ht,hxe,run_underlying hu,hg,goInt,hsz,Result.andThen]
theorem Av0 {id b ck ck':Nat} {ms ms':Array MapEntry} {es es':List ME} {nx:Next} {x:Value} (hs:HoldsB C U s β a w) (hb:β id=some b) (hid:s.ho id=some (.mapo ck es)) (hm:w.heap[b]?=some (.map ms ck))
  (h1:ms'.size=es'.length)
  (h3:∀ (V':Nat→Option DObj) (w':World),(∀ x d,WV C U (s.vw C) β w x d→WV C U V' β w' x d)→∀ (j:Nat) (e:MapEntry) (p:ME),ms'[j]?=some e→es'[j]?=some p→e.key=p.k∧e.born=p.b∧WV C U V' β w' e.val p.v)
  (hrun:(execOp a.eval o).run C.P w=.ok nx { w with heap:=w.heap.setIfInBounds b (.map ms' ck') }) (hnx:nx=.value x∨(nx=.skip∧x=undef)) (hd:WV C U (s.vw C) β w x d):OpOk C U a w o d (s.upd nid (.wr id (.mapo ck' es'))):=by
 have hblt:b < w.heap.size:=(Array.getElem?_eq_some_iff.1 hm).1
 have hw:=hs.wrote nid id b (.mapo ck' es') (w':={ w with heap:=w.heap.setIfInBounds b (.map ms' ck') }) hb (by rw [hid]; rfl) (fun k hk=>by simp [Array.getElem?_setIfInBounds_ne (Ne.symm hk)]) (by simp) rfl rfl rfl
  (fun c T hc=>by rw [hm] at hc; cases hc) (fun hrel'=>⟨b,ms',hb,by simp [hblt],h1,h3 _ _ hrel'⟩)
 exact ⟨nx,_,β,x,hrun,hnx,hw.1,hw.2 _ _ hd⟩
theorem Cn9 {t kt et:TypeId} {kd:KD} {x k y:Operand} {kv:Value} {id ck ck':Nat} {es es':List ME} (ho:o.op=.mapUpdate t x k y∨o.op=.insert t x k y) (ht:C.P.underlying t=some (.map kt et)) (hkd:keyKd C.P kt=some kd)
  (hs:HoldsB C U s β a w) (hk:kvOf (s.ev k)=some kv) (hkey:Ai2 kd kv=true) (hx:s.ev x=.mp id) (hid:s.ho id=some (.mapo ck es)) (hp:putD kd kv (s.ev y) ck es=some (ck',es')):OpOk C U a w o .any (s.upd nid (.wr id (.mapo ck' es'))):=by
 have hke:a.eval k=kv:=kv_ok (hs.ev k) hk
 have L:=klaw hkd
 have hck:∀ e,(Instr.checkKey e 10000 kt kv).run C.P w=.ok () w:=fun e=>L.chk w e kv hkey
 have h1:=hs.ev x
 rw [hx] at h1
 obtain ⟨b,hxe,hb⟩:=An6 h1
 obtain ⟨ms,hm,hsz,hrel⟩:=hs.mapo hb hid
 have hg:(getObj b).run C.P w=.ok (.map ms ck) w:=MapKept.run_getObj_map hm
 have hset:∀ o',(setObj b o').run C.P w=.ok () { w with heap:=w.heap.setIfInBounds b o' }:=fun o'=>MapKept.run_setObj_map o' hm
 have hrunU:∀ w',(Instr.mapUpdate t (a.eval x) (a.eval k) (a.eval y)).run C.P w=.ok () w'→(execOp a.eval o).run C.P w=.ok .skip w':=fun w' h=>by
  rcases ho with ho | ho <;> simp [execOp,ho,h]
 unfold putD at hp
 split at hp
 ·rename_i i e hf
  cases hp
  rcases L.find w kv ms.toList es 0 _ (by simpa using hsz) (fun j e p he hp=>(hrel j e p (by simpa using he) hp).1) hf with ⟨h2,_⟩ | ⟨j,e0,v',h2,h3,h4,h5,h6⟩
  ·cases h2
  ·simp only [Nat.zero_add,Option.some.injEq,Prod.mk.injEq] at h2
   obtain ⟨rfl,rfl⟩:=h2
   have hek:e0.key=kv:=L.one _ _ h6
   have hje:ms[i]?=some e0:=by simpa using h3
   have hilt:i < ms.size:=(Array.getElem?_eq_some_iff.1 hje).1
   refine Av0 (ms':=ms.modify i fun e=>{ e with key:=kv,val:=a.eval y }) (x:=undef) hs hb hid hm (by simpa using hsz) (fun V' w' hmono j e' p he' hp'=>?_) (hrunU _ ?_) (.inr ⟨rfl,rfl⟩) WV.any
   ·rw [Array.getElem?_modify] at he'
    rw [List.getElem?_set] at hp'
    by_cases hij:i=j
    ·subst hij
     rw [if_pos rfl] at he' hp'
     split at hp'
     ·cases hp'
      rw [hje] at he'
      simp only [Option.map_some,Option.some.injEq] at he'
      subst he'
      exact ⟨rfl,(hrel i e0 e hje h4).2.1,hmono _ _ (hs.evw y)⟩
     ·cases hp'
    ·rw [if_neg hij] at he' hp'
     have:=hrel j e' p he' hp'
     exact ⟨this.1,this.2.1,hmono _ _ this.2.2⟩
   ·have hfk:=h5 _ rfl rfl
    simp [Instr.mapUpdate,run_underlying ht,hxe,hke,hck,hg,hfk,hje,hek,Instr.keyThatStays,L.bits kv hkey,hset,Result.andThen]
 ·rename_i hf
  cases hp
  rcases L.find w kv ms.toList es 0 _ (by simpa using hsz) (fun j e p he hp=>(hrel j e p (by simpa using he) hp).1) hf with ⟨_,h2⟩ | ⟨j,e,v',h2,_⟩
  ·refine Av0 (ms':=ms.push { key:=kv,val:=a.eval y,born:=ck }) (x:=undef) hs hb hid hm (by simp [hsz]) (fun V' w' hmono j e' p he' hp'=>?_) (hrunU _ ?_) (.inr ⟨rfl,rfl⟩) WV.any
   ·rw [Array.getElem?_push] at he'
    by_cases hj:j=ms.size
    ·subst hj
     rw [if_pos rfl] at he'
     cases he'
     rw [hsz] at hp'
     simp at hp'
     subst hp'
     exact ⟨rfl,rfl,hmono _ _ (hs.evw y)⟩
    ·rw [if_neg hj] at he'
     have hjl:j < ms.size:=(Array.getElem?_eq_some_iff.1 he').1
     rw [List.getElem?_append_left (by omega)] at hp'
     have:=hrel j e' p he' hp'
     exact ⟨this.1,this.2.1,hmono _ _ this.2.2⟩
   ·have hfk:=h2 _ rfl rfl
    simp [Instr.mapUpdate,run_underlying ht,hxe,hke,hck,hg,hfk,hset,Result.andThen]
  ·cases h2
 ·cases hp
theorem Bd0 {V:Nat→Option DObj} {x y:Value} {v:DV} (h:WV C U V β w x v):WV C U V β w (.tuple #[x,y]) (.tup [v,.v y]):=by
 refine ⟨fun id hi=>?_,fun ha=>.tup [x,y] _ rfl fun j u d hu hd=>?_,TP.of_wv (C:=C) (U:=U) (V:=V) (β:=β) (w:=w) (us:=[x,y]) rfl fun j u d hu hd=>?_⟩
 ·simp [DV.refs,DV.refsL] at hi; exact h.1 id hi
 ·match j with
  | 0=>simp at hu hd; subst hu hd; exact h.2.1 fun id hi=>ha id (by simp [DV.refs,DV.refsL,hi])
  | 1=>simp at hu hd; subst hu hd; exact .imm _ _ (.v _)
  | j+2=>simp at hu
 ·match j with
  | 0=>simp at hu hd; subst hu hd; exact h
  | 1=>simp at hu hd; subst hu hd; exact WV.v _
  | j+2=>simp at hu
theorem B55 {t kt et:TypeId} {kd:KD} {x k:Operand} {kv z:Value} {id ck:Nat} {es:List ME} {r:Option (Nat×ME)} (ho:o.op=.mapEntry t x k) (ht:C.P.underlying t=some (.map kt et)) (hkd:keyKd C.P kt=some kd) (hz:(C.P.info? et).bind (·.zero)=some z)
  (hs:HoldsB C U s β a w) (hk:kvOf (s.ev k)=some kv) (hkey:Ai2 kd kv=true) (hx:s.ev x=.mp id) (hid:s.ho id=some (.mapo ck es)) (hf:findD kd kv es 0=some r) :
  (∀ p,r=some p→OpOk C U a w o (.tup [p.2.v,.v (.int .i64 p.2.b)]) (s.upd nid (.wr id (.mapo ck es))))∧(r=none→OpOk C U a w o (.tup [.v z,.v (.int .i64 ck)]) (s.upd nid (.wr id (.mapo (ck+1) (es ++ [⟨kv,.v z,ck⟩]))))):=by
 have hke:a.eval k=kv:=kv_ok (hs.ev k) hk
 have L:=klaw hkd
 have hck:∀ e,(Instr.checkKey e 10000 kt kv).run C.P w=.ok () w:=fun e=>L.chk w e kv hkey
 have h1:=hs.ev x
 rw [hx] at h1
 obtain ⟨b,hxe,hb⟩:=An6 h1
 obtain ⟨ms,hm,hsz,hrel⟩:=hs.mapo hb hid
 have hg:(getObj b).run C.P w=.ok (.map ms ck) w:=MapKept.run_getObj_map hm
 have hset:∀ o',(setObj b o').run C.P w=.ok () { w with heap:=w.heap.setIfInBounds b o' }:=fun o'=>MapKept.run_setObj_map o' hm
 have hzero:=A08 hz w
 rcases L.find w kv ms.toList es 0 _ (by simpa using hsz) (fun j e p he hp=>(hrel j e p (by simpa using he) hp).1) hf with ⟨rfl,h2⟩ | ⟨i,e,p,rfl,h3,h4,h5,h6⟩
 ·refine ⟨fun _ h=>(by cases h),fun _=>?_⟩
  refine Av0 (ms':=ms.push { key:=kv,val:=z,born:=ck }) (x:=.tuple #[z,.int .i64 ck]) hs hb hid hm (by simp [hsz]) (fun V' w' hmono j e' p he' hp'=>?_) ?_ (.inl rfl) (Bd0 (WV.v z))
  ·rw [Array.getElem?_push] at he'
   by_cases hj:j=ms.size
   ·subst hj
    rw [if_pos rfl] at he'
    cases he'
    rw [hsz] at hp'
    simp at hp'
    subst hp'
    exact ⟨rfl,rfl,WV.v z⟩
   ·rw [if_neg hj] at he'
    have hjl:j < ms.size:=(Array.getElem?_eq_some_iff.1 he').1
    rw [List.getElem?_append_left (by omega)] at hp'
    have:=hrel j e' p he' hp'
    exact ⟨this.1,this.2.1,hmono _ _ this.2.2⟩
  ·have hfk:=h2 _ rfl rfl
   simp [execOp,ho,Instr.mapEntry,run_underlying ht,hxe,hke,hck,hg,hfk,hset,hzero,goInt,Result.andThen]
 ·refine ⟨fun q hq=>?_,fun h=>(by cases h)⟩
  cases hq
  dsimp only
  have hek:e.key=kv:=L.one _ _ h6
  have hje:ms[i]?=some e:=by simpa using h3
  have hr0:=hrel i e p hje h4
  refine Av0 (ms':=ms.modify i fun e=>{ e with key:=kv }) (x:=.tuple #[e.val,.int .i64 p.b]) hs hb hid hm (by simpa using hsz) (fun V' w' hmono j e' p' he' hp'=>?_) ?_ (.inl rfl) (Bd0 hr0.2.2)
  ·rw [Array.getElem?_modify] at he'
   by_cases hij:i=j
   ·subst hij
    rw [if_pos rfl,hje] at he'
    simp only [Option.map_some,Option.some.injEq] at he'
    subst he'
    rw [h4] at hp'
    cases hp'
    exact ⟨by simp only; rw [← hek]; exact hr0.1,hr0.2.1,hmono _ _ hr0.2.2⟩
   ·rw [if_neg hij] at he'
    have:=hrel j e' p' he' hp'
    exact ⟨this.1,this.2.1,hmono _ _ this.2.2⟩
  ·have hfk:=h5 _ rfl rfl
   simp [execOp,ho,Instr.mapEntry,run_underlying ht,hxe,hke,hck,hg,hfk,hje,hek,Instr.keyThatStays,L.bits kv hkey,hset,goInt,hr0.2.1,Result.andThen]
theorem Bd1 {n:Int} : ∀ (es:List ME) (ms:List MapEntry) (i j:Nat),ms.length=es.length→(∀ (j:Nat) (e:MapEntry) (p:ME),ms[j]?=some e→es[j]?=some p→e.born=p.b)→findB n es i=some j→∃ k,j=i+k∧ms.findIdx? (fun e=>(e.born:Int) == n)=some k∧k < ms.length
 | [],_,_,_,_,_,h=>by simp [findB] at h
 | _ :: _,[],_,_,hl,_,_=>by simp at hl
 | p :: ps,m :: ms,i,j,hl,hr,h=>by
  have h0:m.born=p.b:=hr 0 m p rfl rfl
  simp only [findB] at h
  split at h
  ·rename_i hp
   cases h
   exact ⟨0,rfl,by rw [List.findIdx?_cons,h0,if_pos hp],by simp⟩
  ·rename_i hp
   obtain ⟨k,rfl,h2,h3⟩:=Bd1 ps ms (i+1) j (by simpa using hl) (fun j e p he hp=>hr (j+1) e p (by simpa using he) (by simpa using hp)) h
   exact ⟨k+1,by omega,by rw [List.findIdx?_cons,h0,if_neg hp,h2]; rfl,by simp; omega⟩
theorem Co0 {t:TypeId} {x st y:Operand} {n:Int} {id ck i:Nat} {es:List ME} (ho:o.op=.entryStore t x st y) (hs:HoldsB C U s β a w) (hx:s.ev x=.mp id) (hst:intD (s.ev st)=some n) (hid:s.ho id=some (.mapo ck es)) (hf:findB n es 0=some i) :
  OpOk C U a w o .any (s.upd nid (.wr id (.mapo ck (es.modify i fun e=>{ e with v:=s.ev y })))):=by
 have h1:=hs.ev x
 rw [hx] at h1
 obtain ⟨b,hxe,hb⟩:=An6 h1
 obtain ⟨kk,hst'⟩:=Ao0 (hs.ev st) hst
 obtain ⟨ms,hm,hsz,hrel⟩:=hs.mapo hb hid
 have hg:(getObj b).run C.P w=.ok (.map ms ck) w:=MapKept.run_getObj_map hm
 have hset:∀ o',(setObj b o').run C.P w=.ok () { w with heap:=w.heap.setIfInBounds b o' }:=fun o'=>MapKept.run_setObj_map o' hm
 obtain ⟨k,hk,h2,h3⟩:=Bd1 es ms.toList 0 i (by simpa using hsz) (fun j e p he hp=>(hrel j e p (by simpa using he) hp).2.1) hf
 obtain rfl:i=k:=by omega
 have hfi:ms.findIdx? (fun e=>(e.born:Int) == n)=some i:=by
  obtain ⟨l⟩:=ms
  simpa using h2
 refine Av0 (ms':=ms.modify i fun e=>{ e with val:=a.eval y }) (x:=undef) hs hb hid hm (by simpa using hsz) (fun V' w' hmono j e' p he' hp'=>?_) ?_ (.inr ⟨rfl,rfl⟩) WV.any
 ·rw [Array.getElem?_modify] at he'
  rw [List.getElem?_modify] at hp'
  by_cases hij:i=j
  ·subst hij
   rw [if_pos rfl] at he'
   obtain ⟨e0,he0,rfl⟩:=Option.map_eq_some_iff.1 he'
   obtain ⟨p0,hp0,rfl⟩:=Option.map_eq_some_iff.1 hp'
   simp only [if_true]
   have:=hrel i e0 p0 he0 hp0
   exact ⟨this.1,this.2.1,hmono _ _ (hs.evw y)⟩
  ·rw [if_neg hij] at he'
   obtain ⟨p0,hp0,rfl⟩:=Option.map_eq_some_iff.1 hp'
   simp only [hij,if_false]
   have:=hrel j e' p0 he' hp0
   exact ⟨this.1,this.2.1,hmono _ _ this.2.2⟩
 ·simp [execOp,ho,Instr.entryStore,hxe,hst',asInt,asIntOf,hg,hfi,hset,Result.andThen]
end ops
end Go.DD

/- Iterators of maps, interface values, slices of arrays, copies. -/
namespace Go.DD
open Go.RowKit (Below)
section ops
variable {C:Ctx} {U:Nat→Prop} {s:DS} {β:Nat→Option Nat} {a:Act} {w:World} {o:Oper} {d:DV} {s':DS} {nid:Nat}
theorem B56 {t kt et:TypeId} {x:Operand} (ho:o.op=.range t x) (ht:C.P.underlying t=some (.map kt et)) (hs:HoldsB C U s β a w) (hn:¬ U nid) :
  (s.ev x=.v (.map none)→OpOk C (Un U nid) a w o (.pt nid 0) (s.upd nid (.lay (.miter (.v (.map none)) 0 [] 0))))∧
  (∀ id ck es,s.ev x=.mp id→s.ho id=some (.mapo ck es)→OpOk C (Un U nid) a w o (.pt nid 0) (s.upd nid (.lay (.miter (.mp id) ck [] ck)))):=by
 have key:∀ (mv:Option Nat) (m:DV) (ck:Nat),a.eval x=.map mv→s.ev x=m→(Instr.range t (.map mv)).run C.P w=.ok (.pointer (some ⟨w.heap.size,0,none⟩)) (w.alloc (.mapIter mv ck #[] ck))→
   OpOk C (Un U nid) a w o (.pt nid 0) (s.upd nid (.lay (.miter m ck [] ck))):=by
  intro mv m ck h1 h2 hrun
  have hbl:=Ae7 w (.mapIter mv ck #[] ck)
  have hf:=(hs.turned (β':=upd β nid (some w.heap.size)) (w':=w.alloc (.mapIter mv ck #[] ck)) hn none (fun _ h=>by cases h) (.miter m ck [] ck) (fun b hb _=>hbl.block b hb) hbl.os hbl.tape hbl.output hbl.size (fun j hj _=>Ac8 β _ hj) (fun _ h=>by cases h)
   (fun b hb=>by rw [upd_same] at hb; cases hb; exact ⟨.inr (Nat.le_refl _),by simp⟩) (fun hrel=>⟨_,mv,upd_same _ _ _,heap_alloc_new w _,hrel _ _ (by rw [← h1,← h2]; exact hs.evw x)⟩)).1
  refine ⟨.value (.pointer (some ⟨w.heap.size,0,none⟩)),_,_,_,?_,.inl rfl,hf,Ar7 (.pt nid 0 _ (by simp)) rfl⟩
  simp [execOp,ho,h1,hrun]
 refine ⟨fun hx=>?_,fun id ck es hx hid=>?_⟩
 ·have hxe:a.eval x=.map none:=by have:=hs.ev x; rw [hx] at this; exact rel_v this
  refine key none _ 0 hxe hx ?_
  simp [Instr.range,run_underlying ht]
 ·have h1:=hs.ev x
  rw [hx] at h1
  obtain ⟨b,hxe,hb⟩:=An6 h1
  obtain ⟨ms,hm,hsz,hrel⟩:=hs.mapo hb hid
  have hg:(getObj b).run C.P w=.ok (.map ms ck) w:=MapKept.run_getObj_map hm
  refine key (some b) _ ck hxe hx ?_
  simp [Instr.range,run_underlying ht,hg,Result.andThen]
inductive F2 {α β:Type} (R:α→β→Prop):List α→List β→Prop
 | nil:F2 R [] []
 | cons {a b l m} (h:R a b) (t:F2 R l m):F2 R (a :: l) (b :: m)
theorem F2.of {α β:Type} {R:α→β→Prop} : ∀ {l:List α} {m:List β},l.length=m.length→(∀ (j:Nat) (a:α) (b:β),l[j]?=some a→m[j]?=some b→R a b)→F2 R l m
 | [],[],_,_=>.nil
 | a :: l,b :: m,hl,h=>.cons (h 0 a b rfl rfl) (F2.of (by simpa using hl) fun j x y hx hy=>h (j+1) x y (by simpa using hx) (by simpa using hy))
 | [],_ :: _,hl,_=>by simp at hl
 | _ :: _,[],hl,_=>by simp at hl
theorem F2.filter {α β:Type} {R:α→β→Prop} {f:α→Bool} {g:β→Bool} (hfg:∀ a b,R a b→f a=g b):∀ {l:List α} {m:List β},F2 R l m→F2 R (l.filter f) (m.filter g)
 | _,_,.nil=>.nil
 | _,_,.cons (a:=a) (b:=b) h t=>by
  have ih:=F2.filter hfg t
  simp only [List.filter_cons,hfg a b h]
  split
  ·exact .cons h ih
  ·exact ih
theorem F2.append {α β:Type} {R:α→β→Prop} {l l':List α} {m m':List β} (h:F2 R l m) (h':F2 R l' m'):F2 R (l ++ l') (m ++ m'):=by
 induction h with
 | nil=>exact h'
 | cons h _ ih=>exact .cons h ih
theorem F2.length {α β:Type} {R:α→β→Prop} {l:List α} {m:List β} (h:F2 R l m):l.length=m.length:=by
 induction h with
 | nil=>rfl
 | cons _ _ ih=>simp [ih]
theorem F2.get {α β:Type} {R:α→β→Prop} {l:List α} {m:List β} (h:F2 R l m):∀ {j:Nat} {a:α},l[j]?=some a→∃ b,m[j]?=some b∧R a b:=by
 induction h with
 | nil=>intro j a h; simp at h
 | cons h _ ih=>
  intro j a hj
  cases j with
  | zero=>simp at hj; subst hj; exact ⟨_,rfl,h⟩
  | succ j=>simpa using ih (by simpa using hj)
theorem F2.all {α β:Type} {R:α→β→Prop} {f:α→Bool} {g:β→Bool} (hfg:∀ a b,R a b→f a=g b) {l:List α} {m:List β} (h:F2 R l m):l.all f=m.all g:=by
 induction h with
 | nil=>rfl
 | cons h _ ih=>simp [hfg _ _ h,ih]
theorem HoldsB.drawn (hs:HoldsB C U s β a w):HoldsB C U s β a w.drew∧∀ x d,WV C U (s.vw C) β w x d→WV C U (s.vw C) β w.drew x d:=by
 have h:=hs.hh.keep (Bj8 w)
 exact ⟨hs.carry rfl hs.yd h,h.2.1⟩
theorem A99 {V:Nat→Option DObj} : WV C U V β w (.tuple #[.bool false]) (.tup [.v (.bool false)]):=
 WV.flat (.tup [.bool false] _ rfl fun j u d hu hd=>by
  match j with
  | 0=>simp at hu hd; subst hu hd; exact .imm _ _ (.v _)
  | j+1=>simp at hu) rfl
theorem B57 {V:Nat→Option DObj} (x:Value):WV C U V β w x (ofV x):=WV.flat (A04 x) (Aj9 x)
theorem Ce9 {V:Nat→Option DObj} {k x:Value} {v:DV} (h:WV C U V β w x v):WV C U V β w (.tuple #[.bool true,k,x]) (.tup [.v (.bool true),ofV k,v]):=by
 refine ⟨fun id hi=>?_,fun ha=>.tup [.bool true,k,x] _ rfl fun j u d hu hd=>?_,TP.of_wv (C:=C) (U:=U) (V:=V) (β:=β) (w:=w) (us:=[.bool true,k,x]) rfl fun j u d hu hd=>?_⟩
 ·simp [DV.refs,DV.refsL,Aj9] at hi; exact h.1 id hi
 ·match j with
  | 0=>simp at hu hd; subst hu hd; exact .imm _ _ (.v _)
  | 1=>simp at hu hd; subst hu hd; exact A04 _
  | 2=>simp at hu hd; subst hu hd; exact h.2.1 fun id hi=>ha id (by simp [DV.refs,DV.refsL,Aj9,hi])
  | j+3=>simp at hu
 ·match j with
  | 0=>simp at hu hd; subst hu hd; exact WV.v _
  | 1=>simp at hu hd; subst hu hd; exact B57 _
  | 2=>simp at hu hd; subst hu hd; exact h
  | j+3=>simp at hu
theorem Cf0 (since:Nat) (seen:List Nat) (es:List ME):candD since seen es≠[]:=by
 unfold candD
 simp only
 split
 ·simp
 ·rename_i h
  intro e
  simp only [List.nil_append,List.map_append,List.append_eq_nil_iff,List.map_eq_nil_iff] at e
  rw [e.1] at h
  simp at h
theorem Co1 {x:Operand} {id im ck since last:Nat} {seen:List Nat} {es:List ME} (ho:o.op=.next x false) (hs:HoldsB C U s β a w) (hx:s.ev x=.pt id 0) (hid:s.ho id=some (.miter (.mp im) since seen last)) (him:s.ho im=some (.mapo ck es))
  (hgone:(!seen.isEmpty && !es.isEmpty && es.all (fun e=>decide (e.b≥last)))=false) :
  ∃ c∈candD since seen es,OpOk C U a w o (nxtU id (nxtD (.mp im) since seen ck c)).1 (s.upd nid (nxtU id (nxtD (.mp im) since seen ck c)).2):=by
 have h1:=hs.ev x
 rw [hx] at h1
 obtain ⟨b,hxe,hb⟩:=Ai3 h1
 obtain ⟨b',mv,hb',hit,hmv⟩:=hs.hh.hp id _ (Ad9 hid)
 rw [hb] at hb'; cases hb'
 have hmr:=hmv.2.1 (fun i hi=>by simp [DV.refs] at hi; subst hi; rw [Ad9 him]; rfl)
 obtain ⟨bm,e1,hbm⟩:=An6 hmr
 cases e1
 obtain ⟨ms,hm,hsz,hrel⟩:=hs.mapo hbm him
 have hf2:F2 (fun (e:MapEntry) (p:ME)=>e.key=p.k∧e.born=p.b∧WV C U (s.vw C) β w e.val p.v) ms.toList es:=F2.of (by simpa using hsz) fun j e p he hp=>hrel j e p (by simpa using he) hp
 have hgi:(getObj b).run C.P w=.ok (.mapIter (some bm) since seen.toArray last) w:=by simp [getObj,Sem.run,hit]
 have hgm:(getObj bm).run C.P w=.ok (.map ms ck) w:=MapKept.run_getObj_map hm
 have hall:ms.all (fun e=>decide (e.born≥last))=es.all (fun e=>decide (e.b≥last)):=by
  rw [← Array.all_toList]
  exact hf2.all fun e p h=>by rw [h.2.1]
 have hemp:ms.isEmpty=es.isEmpty:=by
  cases es with
  | nil=>simp at hsz; subst hsz; rfl
  | cons p ps=>(have:ms.size≠0:=by simp at hsz; omega); simp [Array.isEmpty,this]
 have hgone':(!seen.toArray.isEmpty && !ms.isEmpty && ms.all (fun e=>decide (e.born≥last)))=false:=by
  rw [hall,hemp,← hgone]; simp
 obtain ⟨old,hold⟩:∃ old,old=(ms.filter fun e=>!seen.toArray.contains e.born).filter (fun e=>decide (e.born < since)):=⟨_,rfl⟩
 obtain ⟨new,hnew⟩:∃ new,new=(ms.filter fun e=>!seen.toArray.contains e.born).filter (fun e=>decide (e.born≥since)):=⟨_,rfl⟩
 obtain ⟨cand,hcand⟩:∃ cand,cand=(if old.isEmpty then #[none] else #[]) ++ (old ++ new).map some:=⟨_,rfl⟩
 have f_left:F2 (fun (e:MapEntry) (p:ME)=>e.key=p.k∧e.born=p.b∧WV C U (s.vw C) β w e.val p.v) (ms.toList.filter fun e=>!seen.toArray.contains e.born) (es.filter fun e=>!seen.contains e.b):=
  F2.filter (fun e p h=>by rw [h.2.1]; simp) hf2
 have f_old:=F2.filter (f:=fun (e:MapEntry)=>decide (e.born < since)) (g:=fun (e:ME)=>decide (e.b < since)) (fun e p h=>by rw [h.2.1]) f_left
 have f_new:=F2.filter (f:=fun (e:MapEntry)=>decide (e.born≥since)) (g:=fun (e:ME)=>decide (e.b≥since)) (fun e p h=>by rw [h.2.1]) f_left
 have holdl:old.toList=(ms.toList.filter fun e=>!seen.toArray.contains e.born).filter (fun e=>decide (e.born < since)):=by rw [hold]; simp
 have hnewl:new.toList=(ms.toList.filter fun e=>!seen.toArray.contains e.born).filter (fun e=>decide (e.born≥since)):=by rw [hnew]; simp
 have f_cand:F2 (fun (e:Option MapEntry) (p:Option ME)=>(e=none∧p=none)∨∃ e' p',e=some e'∧p=some p'∧e'.key=p'.k∧e'.born=p'.b∧WV C U (s.vw C) β w e'.val p'.v) cand.toList (candD since seen es):=by
  have hmap:∀ {l:List MapEntry} {m:List ME},F2 (fun (e:MapEntry) (p:ME)=>e.key=p.k∧e.born=p.b∧WV C U (s.vw C) β w e.val p.v) l m→F2 (fun (e:Option MapEntry) (p:Option ME)=>(e=none∧p=none)∨∃ e' p',e=some e'∧p=some p'∧e'.key=p'.k∧e'.born=p'.b∧WV C U (s.vw C) β w e'.val p'.v) (l.map some) (m.map some):=by
   intro l m h
   induction h with
   | nil=>exact .nil
   | cons h _ ih=>exact .cons (.inr ⟨_,_,rfl,rfl,h⟩) ih
  rw [hcand]
  unfold candD
  simp only [Array.toList_append,Array.toList_map]
  refine F2.append ?_ (hmap (F2.append (by rw [holdl]; exact f_old) (by rw [hnewl]; exact f_new)))
  have hoe:old.isEmpty=((es.filter fun e=>!seen.contains e.b).filter fun e=>decide (e.b < since)).isEmpty:=by
   have hl:=f_old.length
   rw [← holdl] at hl
   cases hq:(es.filter fun e=>!seen.contains e.b).filter fun e=>decide (e.b < since) with
   | nil=>rw [hq] at hl; simp at hl; subst hl; rfl
   | cons p ps=>((rw [hq] at hl); have:old.size≠0:=by simp at hl; omega); simp [Array.isEmpty,this]
  rw [hoe]
  split
  ·exact .cons (.inl ⟨rfl,rfl⟩) .nil
  ·exact .nil
 have hpos:0 < cand.size:=by
  have:=f_cand.length
  have h2:=Cf0 since seen es
  cases hq:candD since seen es with
  | nil=>exact absurd hq h2
  | cons p ps=>rw [hq] at this; simp at this; omega
 -- the tape's word
 obtain ⟨k,w1,hk,hchoose,hw1⟩:∃ k w1,k < cand.size∧(choose (.mapNext cand.size)).run C.P w=.ok k w1∧(w1=w∨w1=w.drew):=by
  by_cases hf:(Question.mapNext cand.size).forced=true
  ·exact ⟨0,w,hpos,by simp [choose,Sem.run,hf],.inl rfl⟩
  ·refine ⟨(Question.mapNext cand.size).cut (w.tape w.drawn (.mapNext cand.size)),w.drew,?_,?_,.inr rfl⟩
   ·exact Nat.mod_lt _ hpos
   ·simp only [choose,Sem.run]
    rw [if_neg hf]
    rfl
 obtain ⟨hs1,hrel1⟩:HoldsB C U s β a w1∧∀ x d,WV C U (s.vw C) β w x d→WV C U (s.vw C) β w1 x d:=by
  rcases hw1 with rfl | rfl
  ·exact ⟨hs,fun _ _ h=>h⟩
  ·exact hs.drawn
 have hheap:w1.heap=w.heap:=by rcases hw1 with rfl | rfl <;> rfl
 have hck:cand.toList[k]?=some cand[k]:=by simp [hk]
 obtain ⟨c,hc,hcr⟩:=f_cand.get hck
 refine ⟨c,List.mem_of_getElem? hc,?_⟩
 have hnext:∀ (r:Value) (w2:World),((match cand[k]? with
   | some (some e)=>(do
    setObj b (.mapIter (some bm) since (seen.toArray.push e.born) ck)
    pure (.tuple #[.bool true,e.key,e.val]):Sem Value)
   | some none=>pure (.tuple #[.bool false])
   | none=>stuck "Next: no such candidate").run C.P w1=.ok r w2)→(execOp a.eval o).run C.P w=.ok (.value r) w2:=by
  intro r w2 h
  have hin:(Instr.next (.pointer (some ⟨b,0,none⟩)) false o.type).run C.P w=.ok r w2:=by
   simp only [Instr.next,Sem.run_bind,hgi,Result.andThen_ok,hgm]
   simp only [hgone',Bool.false_eq_true,if_false]
   rw [← hold,← hnew,← hcand]
   simp only [Sem.run_bind,hchoose,Result.andThen_ok]
   exact h
  simp [execOp,ho,hxe,hin]
 have hck2:cand[k]?=some cand[k]:=by simp [hk]
 rcases hcr with ⟨h1,rfl⟩ | ⟨e',p',h1,rfl,hek,heb,hev⟩
 ·refine ⟨_,w1,β,.tuple #[.bool false],hnext _ w1 (by rw [hck2,h1]; rfl),.inl rfl,hs1,?_⟩
  exact A99
 ·have hit1:w1.heap[b]?=some (.mapIter (some bm) since seen.toArray last):=by rw [hheap]; exact hit
  have hblt:b < w1.heap.size:=(Array.getElem?_eq_some_iff.1 hit1).1
  have hset:∀ o',(setObj b o').run C.P w1=.ok () { w1 with heap:=w1.heap.setIfInBounds b o' }:=fun o'=>by simp [setObj,Sem.run,hit1]
  have hw:=hs1.wrote nid id b (.miter (.mp im) since (seen ++ [p'.b]) ck) (w':={ w1 with heap:=w1.heap.setIfInBounds b (.mapIter (some bm) since (seen.toArray.push e'.born) ck) }) hb (by rw [hid]; rfl)
   (fun k hk=>by simp [Array.getElem?_setIfInBounds_ne (Ne.symm hk)]) (by simp) rfl rfl rfl (fun c T hc=>by rw [hit1] at hc; cases hc)
   (fun hrel'=>⟨b,some bm,hb,by simp [hblt,heb],hrel' _ _ (hrel1 _ _ hmv)⟩)
  refine ⟨_,_,β,.tuple #[.bool true,e'.key,e'.val],hnext _ { w1 with heap:=w1.heap.setIfInBounds b (.mapIter (some bm) since (seen.toArray.push e'.born) ck) } ?_,.inl rfl,hw.1,?_⟩
  ·rw [hck2,h1]
   simp only [Sem.run_bind,hset,Result.andThen_ok,Sem.run_pure]
  ·rw [hek]
   exact Ce9 (hw.2 _ _ (hrel1 _ _ hev))
theorem Cf1 {x:Operand} {id since last:Nat} {seen:List Nat} (ho:o.op=.next x false) (hs:HoldsB C U s β a w) (hx:s.ev x=.pt id 0) (hid:s.ho id=some (.miter (.v (.map none)) since seen last)):OpOk C U a w o (.tup [.v (.bool false)]) s:=by
 have h1:=hs.ev x
 rw [hx] at h1
 obtain ⟨b,hxe,hb⟩:=Ai3 h1
 obtain ⟨b',mv,hb',hit,hmv⟩:=hs.hh.hp id _ (Ad9 hid)
 rw [hb] at hb'; cases hb'
 have e1:=rel_v (hmv.2.1 (fun i hi=>by simp [DV.refs] at hi))
 cases e1
 have hgi:(getObj b).run C.P w=.ok (.mapIter none since seen.toArray last) w:=by simp [getObj,Sem.run,hit]
 exact .same hs (x:=.tuple #[.bool false]) (by simp [execOp,ho,hxe,Instr.next,hgi,Result.andThen]) A99
theorem F2.find {α β:Type} {R:α→β→Prop} {f:α→Bool} {g:β→Bool} (hfg:∀ a b,R a b→f a=g b) {l:List α} {m:List β} (h:F2 R l m):∀ {b:β},m.find? g=some b→∃ a,l.find? f=some a∧R a b:=by
 induction h with
 | nil=>intro b hb; simp at hb
 | cons h _ ih=>
  intro b hb
  rw [List.find?_cons] at hb ⊢
  rw [hfg _ _ h]
  split at hb
  ·cases hb; exact ⟨_,rfl,h⟩
  ·exact ih hb
theorem Cf2 {V:Nat→Option DObj} {k x:Value} {v:DV} (h:WV C U V β w x v):WV C U V β w (.tuple #[k,x]) (.tup [ofV k,v]):=by
 refine ⟨fun id hi=>?_,fun ha=>.tup [k,x] _ rfl fun j u d hu hd=>?_,TP.of_wv (C:=C) (U:=U) (V:=V) (β:=β) (w:=w) (us:=[k,x]) rfl fun j u d hu hd=>?_⟩
 ·simp [DV.refs,DV.refsL,Aj9] at hi; exact h.1 id hi
 ·match j with
  | 0=>simp at hu hd; subst hu hd; exact A04 _
  | 1=>simp at hu hd; subst hu hd; exact h.2.1 fun id hi=>ha id (by simp [DV.refs,DV.refsL,Aj9,hi])
  | j+2=>simp at hu
 ·match j with
  | 0=>simp at hu hd; subst hu hd; exact B57 _
  | 1=>simp at hu hd; subst hu hd; exact h
  | j+2=>simp at hu
theorem Co2 {x:Operand} {l:List (DV×Upd)} (ho:o.op=.entry x) (hs:HoldsB C U s β a w) (h:entL s x=some l):∃ p∈l,OpOk C U a w o p.1 (s.upd nid p.2):=by
 unfold entL at h
 split at h
 rotate_left
 ·cases h
 rename_i id hx
 split at h
 rotate_left
 ·cases h
 rename_i im since seen last hid
 split at h
 rotate_left
 ·cases h
 rename_i ck es him
 split at h
 rotate_left
 ·cases h
 rename_i hck
 subst hck
 split at h
 rotate_left
 ·cases h
 rename_i st hst
 split at h
 rotate_left
 ·cases h
 rename_i e he
 cases h
 have h1:=hs.ev x
 rw [hx] at h1
 obtain ⟨b,hxe,hb⟩:=Ai3 h1
 obtain ⟨b',mv,hb',hit,hmv⟩:=hs.hh.hp id _ (Ad9 hid)
 rw [hb] at hb'; cases hb'
 have hmr:=hmv.2.1 (fun i hi=>by simp [DV.refs] at hi; subst hi; rw [Ad9 him]; rfl)
 obtain ⟨bm,e1,hbm⟩:=An6 hmr
 cases e1
 obtain ⟨ms,hm,hsz,hrel⟩:=hs.mapo hbm him
 have hf2:F2 (fun (e:MapEntry) (p:ME)=>e.key=p.k∧e.born=p.b∧WV C U (s.vw C) β w e.val p.v) ms.toList es:=F2.of (by simpa using hsz) fun j e p he hp=>hrel j e p (by simpa using he) hp
 have hgi:(getObj b).run C.P w=.ok (.mapIter (some bm) since seen.toArray ck) w:=by simp [getObj,Sem.run,hit]
 have hgm:(getObj bm).run C.P w=.ok (.map ms ck) w:=MapKept.run_getObj_map hm
 obtain ⟨e0,hf,hk,hbn,hv⟩:=hf2.find (f:=fun (e:MapEntry)=>e.born == st) (g:=fun (e:ME)=>e.b == st) (fun a b hr=>by rw [hr.2.1]) he
 have hf':ms.find? (fun e=>e.born == st)=some e0:=by
  obtain ⟨l⟩:=ms
  simpa using hf
 have hbk:seen.toArray.back?=some st:=by rw [List.back?_toArray]; exact hst
 refine ⟨_,List.mem_singleton.2 rfl,.same (x:=.tuple #[e0.key,e0.val]) hs ?_ ?_⟩
 ·simp [execOp,ho,hxe,Instr.entry,hgi,hbk,hgm,hf',Result.andThen]
 ·rw [hk]; exact Cf2 hv
theorem Co3 {k:Bool} {x:Operand} {l:List (DV×Upd)} (ho:o.op=if k then .entry x else .next x false) (hs:HoldsB C U s β a w) (h:nxmL s k x=some l):∃ p∈l,OpOk C U a w o p.1 (s.upd nid p.2):=by
 unfold nxmL at h
 cases k with
 | true=>exact Co2 ho hs h
 | false=>
  simp only [Bool.false_eq_true,if_false] at h ho
  split at h
  ·rename_i id hx
   split at h
   ·rename_i hid
    cases h
    exact ⟨_,List.mem_singleton.2 rfl,Cf1 ho hs hx hid⟩
   ·rename_i im since seen last hid
    split at h
    ·rename_i ck es him
     split at h
     ·cases h
     ·rename_i hg
      cases h
      obtain ⟨c,hc,hok⟩:=Co1 (nid:=nid) ho hs hx hid him (by simpa using hg)
      exact ⟨_,List.mem_map.2 ⟨c,hc,rfl⟩,hok⟩
    ·cases h
   ·cases h
  ·cases h
theorem Co4 {t:TypeId} {x:Operand} {b:ByteArray} (ho:o.op=.range t x) (ht:C.P.underlying t=some .string) (hs:HoldsB C U s β a w) (hn:¬ U nid) (hx:s.ev x=.v (.string b)):OpOk C (Un U nid) a w o (.pt nid 0) (s.upd nid (.lay (.siter b 0))):=by
 have hxe:a.eval x=.string b:=by have:=hs.ev x; rw [hx] at this; exact rel_v this
 have hbl:=Ae7 w (.stringIter b 0)
 have hf:=(hs.turned (β':=upd β nid (some w.heap.size)) (w':=w.alloc (.stringIter b 0)) hn none (fun _ h=>by cases h) (.siter b 0) (fun b hb _=>hbl.block b hb) hbl.os hbl.tape hbl.output hbl.size (fun j hj _=>Ac8 β _ hj) (fun _ h=>by cases h)
  (fun b hb=>by rw [upd_same] at hb; cases hb; exact ⟨.inr (Nat.le_refl _),by simp⟩) (fun hrel=>⟨_,upd_same _ _ _,heap_alloc_new w _⟩)).1
 refine ⟨.value (.pointer (some ⟨w.heap.size,0,none⟩)),_,_,_,?_,.inl rfl,hf,Ar7 (.pt nid 0 _ (by simp)) rfl⟩
 simp [execOp,ho,hxe,Instr.range,run_underlying ht]
theorem Bz4 {V:Nat→Option DObj} (x y z:Value):WV C U V β w (.tuple #[x,y,z]) (.tup [.v x,.v y,.v z]):=
 WV.flat (.tup [x,y,z] _ rfl fun j u d hu hd=>by
  match j with
  | 0=>simp at hu hd; subst hu hd; exact .imm _ _ (.v _)
  | 1=>simp at hu hd; subst hu hd; exact .imm _ _ (.v _)
  | 2=>simp at hu hd; subst hu hd; exact .imm _ _ (.v _)
  | j+3=>simp at hu) rfl
theorem B58 {x:Operand} {id pos:Nat} {t:ByteArray} (ho:o.op=.next x true) (hs:HoldsB C U s β a w) (hx:s.ev x=.pt id 0) (hid:s.ho id=some (.siter t pos)) :
  (pos < t.size→OpOk C U a w o (.tup [.v (.bool true),.v (.int .i64 (pos:Nat)),.v (.int .i32 ((Utf8.decode t pos).1:Nat))]) (s.upd nid (.wr id (.siter t (pos+(Utf8.decode t pos).2)))))∧
  (¬ pos < t.size→OpOk C U a w o (.tup [.v (.bool false)]) s):=by
 have h1:=hs.ev x
 rw [hx] at h1
 obtain ⟨b,hxe,hb⟩:=Ai3 h1
 obtain ⟨b',hb',hit⟩:=hs.hh.hp id _ (Ad9 hid)
 rw [hb] at hb'; cases hb'
 have hgi:(getObj b).run C.P w=.ok (.stringIter t pos) w:=by simp [getObj,Sem.run,hit]
 have hset:∀ o',(setObj b o').run C.P w=.ok () { w with heap:=w.heap.setIfInBounds b o' }:=fun o'=>by simp [setObj,Sem.run,hit]
 have hblt:b < w.heap.size:=(Array.getElem?_eq_some_iff.1 hit).1
 refine ⟨fun hp=>?_,fun hp=>?_⟩
 ·have hw:=hs.wrote nid id b (.siter t (pos+(Utf8.decode t pos).2)) (w':={ w with heap:=w.heap.setIfInBounds b (.stringIter t (pos+(Utf8.decode t pos).2)) }) hb (by rw [hid]; rfl)
   (fun k hk=>by simp [Array.getElem?_setIfInBounds_ne (Ne.symm hk)]) (by simp) rfl rfl rfl (fun c T hc=>by rw [hit] at hc; cases hc)
   (fun hrel'=>⟨b,hb,by simp [hblt]⟩)
  refine ⟨.value (.tuple #[.bool true,.int .i64 (pos:Nat),.int .i32 ((Utf8.decode t pos).1:Nat)]),_,β,_,?_,.inl rfl,hw.1,Bz4 _ _ _⟩
  simp [execOp,ho,hxe,Instr.next,hgi,hp,hset,goInt,Result.andThen]
 ·exact .same hs (x:=.tuple #[.bool false]) (by simp [execOp,ho,hxe,Instr.next,hgi,hp,Result.andThen]) A99
theorem Co5 {t:TypeId} {x:Operand} {td:TypeDesc} (ho:o.op=.makeInterface t x) (ht:C.P.underlying t=some td) (hni:∀ ms,td≠.interface ms) (hs:HoldsB C U s β a w):OpOk C U a w o (.ifc t (s.ev x)) s:=by
 have h1:=hs.evw x
 refine .same hs (x:=.iface t (a.eval x)) ?_ ⟨fun id hi=>h1.1 id (by simpa [DV.refs] using hi),fun ha=>.ifc t _ _ (h1.2.1 fun id hi=>ha id (by simpa [DV.refs] using hi)),TP.nt fun _ h=>by cases h⟩
 have:(Instr.makeInterface t (a.eval x)).run C.P w=.ok (.iface t (a.eval x)) w:=by
  unfold Instr.makeInterface
  simp only [Sem.run_bind,run_underlying ht,Result.andThen_ok]
  cases td <;> first | rfl | (exact absurd rfl (hni _))
 simp [execOp,ho,this]
theorem Co6 {xt t:TypeId} {x:Operand} {td:TypeDesc} {z:Value} {ok:Bool} (ho:o.op=.typeAssert x xt t ok) (ht:C.P.underlying t=some td) (hni:∀ ms,td≠.interface ms) (hz:(C.P.info? t).bind (·.zero)=some z) (hs:HoldsB C U s β a w) :
  (∀ d,s.ev x=.ifc t d→OpOk C U a w o (lkRes ok d true) s)∧(ok=true→(∀ T d,T≠t→s.ev x=.ifc T d→OpOk C U a w o (.tup [.v z,.v (.bool false)]) s)∧(s.ev x=.v .nilIface→OpOk C U a w o (.tup [.v z,.v (.bool false)]) s)):=by
 have h1:=hs.ev x
 have hzero:=A08 hz w
 refine ⟨fun d hx=>?_,fun hok=>⟨fun T d hT hx=>?_,fun hx=>?_⟩⟩
 ·rw [hx] at h1
  obtain ⟨u,e1,hr⟩:=Al1 h1
  refine .same hs (x:=if ok then .tuple #[u,.bool true] else u) ?_ (Ap1 (hs.evp x hr (by rw [hx]; simp [DV.refs])))
  have:(Instr.typeAssert (.iface t u) xt t ok).run C.P w=.ok (if ok then .tuple #[u,.bool true] else u) w:=by
   unfold Instr.typeAssert
   simp only [Sem.run_bind,run_underlying ht,Result.andThen_ok]
   cases td <;> first | (simp; done) | (exact absurd rfl (hni _))
  simp [execOp,ho,e1,this]
 ·subst hok
  rw [hx] at h1
  obtain ⟨u,e1,hr⟩:=Al1 h1
  refine .same hs (x:=.tuple #[z,.bool false]) ?_ (Bd0 (WV.v z))
  have:(Instr.typeAssert (.iface T u) xt t true).run C.P w=.ok (.tuple #[z,.bool false]) w:=by
   unfold Instr.typeAssert
   simp only [Sem.run_bind,run_underlying ht,Result.andThen_ok]
   cases td <;> first | (simp [hT,hzero]; done) | (exact absurd rfl (hni _))
  simp [execOp,ho,e1,this]
 ·subst hok
  rw [hx] at h1
  have e1:=rel_v h1
  refine .same hs (x:=.tuple #[z,.bool false]) ?_ (Bd0 (WV.v z))
  have:(Instr.typeAssert .nilIface xt t true).run C.P w=.ok (.tuple #[z,.bool false]) w:=by
   unfold Instr.typeAssert
   simp only [Sem.run_bind,run_underlying ht,Result.andThen_ok]
   cases td <;> first | (simp [hzero]; done) | (exact absurd rfl (hni _))
  simp [execOp,ho,e1,this]
theorem Co7 {ar e:TypeId} {x:Operand} {n id:Nat} {cs:List DV} (ho:o.op=.slice ar x none none none) (har:C.P.underlying ar=some (.array n e)) (hce:0 < C.P.cellsOf e) (hn0:0 < n) (hnb:n≤2147483648)
  (hs:HoldsB C U s β a w) (hx:s.ev x=.pt id 0) (hid:s.ho id=some (.row ar cs)) (hl:cs.length=n*C.P.cellsOf e):OpOk C U a w o (.ms id 0 n (C.P.cellsOf e)) s:=by
 have h1:=hs.ev x
 rw [hx] at h1
 obtain ⟨b,hxe,hb⟩:=Ai3 h1
 obtain ⟨c,hw,hlc,hex,hr⟩:=hs.row hb hid
 have hsz:=hex (by simp [isArr,har])
 refine .same hs (x:=.slice (some ⟨b,0,none⟩) n n) ?_ (hs.evp x (.ms id 0 n (C.P.cellsOf e) b n c ar hb hw (Nat.le_refl _) (by simp only [maxLen]; omega) (by omega)) (by rw [hx]; simp [DV.refs]))
 have hso:=Ab7 (P:=C.P) (t:=e) (by omega) w
 have hne:¬ n=0:=by omega
 simp [execOp,ho,hxe,Instr.sliceAt,run_underlying har,Instr.sureAddr,Instr.sliceBounds,hso,Addr.add]
theorem Bn8 {es m:Nat} {x:Operand} {news:List DV} (hs:HoldsB C U s β a w) (h:srcC s es (s.ev x)=some (news,m)) (hnl:news.length=m*es) :
  ∃ us:List Value,us.length=news.length∧(∀ u∈us,u.oneCell'=true)∧(∀ (j:Nat) (u:Value) (d:DV),us[j]?=some u→news[j]?=some d→WV C U (s.vw C) β w u d)∧
   ((∃ ad cap,a.eval x=.slice (some ad) m cap∧∀ (j:Nat) (u:Value),us[j]?=some u→w.cell? (ad.add j)=some u)∨(∃ cap,a.eval x=.slice none 0 cap∧m=0∧us=[])):=by
 have h1:=hs.ev x
 unfold srcC at h
 split at h
 ·rename_i cs n hx
  cases h
  rw [hx] at h1
  rcases Au3 h1 with ⟨ad,cap,e1,rfl,rfl⟩ | ⟨ad,cap,us,e1,hl,hn,ha,h1c,hc,hr⟩
  ·refine ⟨[],rfl,by simp,by simp,?_⟩
   cases ad with
   | none=>exact .inr ⟨cap,e1,rfl,rfl⟩
   | some ad=>exact .inl ⟨ad,cap,e1,by simp⟩
  ·exact ⟨us,hl,h1c,fun j u d hu hd=>Al3 (hr j u d hu hd),.inl ⟨ad,cap,e1,hc⟩⟩
 ·rename_i cap hx
  cases h
  rw [hx] at h1
  exact ⟨[],rfl,by simp,by simp,.inr ⟨cap,rel_v h1,rfl,rfl⟩⟩
 ·rename_i id off n es' hx
  rw [hx] at h1
  split at h
  ·rename_i T' cs hrow
   split at h
   ·rename_i hfit
    obtain ⟨rfl,hfit⟩:=hfit
    cases h
    rcases Al2 h1 with ⟨e1,rfl,rfl⟩ | ⟨b,cap,c,T,e1,hb,hw,hn,hm,hcap⟩
    ·exact ⟨[],by simp,by simp,by simp,.inr ⟨0,e1,rfl,rfl⟩⟩
    ·obtain ⟨c',hw',hl,_,hr⟩:=hs.row hb hrow
     rw [hw] at hw'
     injection hw' with hw'
     injection hw' with hcc hT
     subst hT hcc
     refine ⟨(c.toList.drop off).take (m*es'),by simp; omega,fun u hu=>?_,fun j u d hu hd=>?_,.inl ⟨_,cap,e1,fun j u hu=>?_⟩⟩
     ·obtain ⟨j,hj,rfl⟩:=List.mem_iff_getElem.1 hu
      have hjl:off+j < cs.length:=by simp at hj; omega
      refine (hr (off+j) _ cs[off+j] ?_ (List.getElem?_eq_getElem hjl)).2
      rw [List.getElem_take,List.getElem_drop]
      simp
     ·rw [List.getElem?_take] at hu hd
      split at hu
      ·rename_i hj
       rw [if_pos hj] at hd
       exact (hr (off+j) u d (by simpa using hu) (by simpa using hd)).1
      ·cases hu
     ·rw [List.getElem?_take] at hu
      split at hu
      ·exact Am9 hw j u hu
      ·cases hu
   ·cases h
  ·cases h
 ·cases h
theorem HoldsB.rowSet {T:TypeId} {id b off:Nat} {cs gd:List DV} {g:List Value} {c:Array Value} (hs:HoldsB C U s β a w) (hb:β id=some b) (hid:s.ho id=some (.row T cs)) (hw:w.heap[b]?=some (.cells c T (0,0)))
  (hgl:g.length=gd.length) (g1:∀ u∈g,u.oneCell'=true) (gr:∀ (j:Nat) (u:Value) (d:DV),g[j]?=some u→gd[j]?=some d→WV C U (s.vw C) β w u d) (hfit:off+gd.length≤cs.length) :
  HoldsB C U (s.upd nid (.wr id (.row T (cs.take off ++ gd ++ cs.drop (off+gd.length))))) β a (w.setRow b (c.toList.take off ++ g ++ c.toList.drop (off+g.length)).toArray):=by
 obtain ⟨c0,hw0,hl,hex,hr⟩:=hs.row hb hid
 rw [hw] at hw0
 injection hw0 with hw0
 injection hw0 with hcc
 subst hcc
 refine (hs.wrote nid id b _ hb (by rw [hid]; rfl) (fun b' hb'=>setRow_other w b b' _ hb') (by simp) rfl rfl rfl ?_ fun hrel=>?_).1
 ·intro c' T' hc'
  rw [hw] at hc'
  cases hc'
  refine ⟨_,setRow_heap w b c _ T _ hw,?_⟩
  simp; omega
 ·refine .inr ⟨b,_,hb,setRow_heap w b c _ T _ hw,by simp; omega,fun h=>(by have:=hex h; simp; omega),fun j u d hu hd=>?_⟩
  have hu':(c.toList.take off ++ g ++ c.toList.drop (off+gd.length))[j]?=some u:=by rw [← hgl]; simpa using hu
  rw [List.append_assoc,List.getElem?_append] at hu' hd
  simp only [List.length_take,Array.length_toList] at hu' hd
  rw [show min off c.size=off by omega] at hu'
  rw [show min off cs.length=off by omega] at hd
  by_cases hj:j < off
  ·rw [if_pos hj] at hu' hd
   rw [List.getElem?_take_of_lt hj] at hu' hd
   have:=hr j u d (by simpa using hu') hd
   exact ⟨hrel _ _ this.1,this.2⟩
  ·rw [if_neg hj] at hu' hd
   rw [List.getElem?_append] at hu' hd
   rw [hgl] at hu'
   by_cases hj2:j - off < gd.length
   ·rw [if_pos hj2] at hu' hd
    exact ⟨hrel _ _ (gr _ u d hu' hd),g1 u (List.mem_of_getElem? hu')⟩
   ·rw [if_neg hj2] at hu' hd
    rw [List.getElem?_drop] at hu' hd
    have:=hr _ u d (by simpa using hu') hd
    exact ⟨hrel _ _ this.1,this.2⟩
theorem Co8 {t T e:TypeId} {c:Call} {x y:Operand} {id off n m es:Nat} {cs news:List DV} (ho:o.op=.call c) (hc:c.callee=.builtin .copy) (hargs:c.args.toList=[x,y]) (hty:c.argTypes[0]?=some t) (ht:C.P.underlying t=some (.slice e))
  (hes:es=C.P.cellsOf e) (hce:0 < C.P.cellsOf e) (hs:HoldsB C U s β a w) (hx:s.ev x=.ms id off n es) (hid:s.ho id=some (.row T cs)) (hy:srcC s es (s.ev y)=some (news,m)) (hn0:0 < n) (hfit:off+n*es≤cs.length) (hnl:news.length=m*es) :
  OpOk C U a w o (.v (.int .i64 (min m n:Nat))) (s.upd nid (.wr id (.row T (cs.take off ++ news.take (min m n*es) ++ cs.drop (off+min m n*es))))):=by
 have hA:c.args = #[x,y]:=by apply Array.ext'; simpa using hargs
 have h1:=hs.ev x
 rw [hx] at h1
 obtain ⟨us,ul,u1,ur,usrc⟩:=Bn8 hs hy hnl
 rcases Al2 h1 with ⟨_,_,h0⟩ | ⟨b,cap,cc,T',e1,hb,hw,hn,hm,hcap⟩
 ·omega
 obtain ⟨c0,hw0,hl,hex,hr⟩:=hs.row hb hid
 rw [hw] at hw0
 injection hw0 with hw0
 injection hw0 with hcc hTT
 subst hcc hTT
 have hso:(sizeOf e).run C.P w=.ok es w:=by rw [hes]; exact Ab7 (by omega) w
 have hmn:min m n*es≤m*es:=Nat.mul_le_mul_right _ (Nat.min_le_left _ _)
 have hmn2:min m n*es≤n*es:=Nat.mul_le_mul_right _ (Nat.min_le_right _ _)
 have htl:(us.take (min m n*es)).length=min m n*es:=by simp; omega
 have htd:(news.take (min m n*es)).length=min m n*es:=by simp; omega
 have hst:=run_storeCells_at C.P b off T' (us.take (min m n*es)) 0 cc w hw (by rw [htl]; omega) (fun u hu=>u1 u (List.mem_of_mem_take hu))
 simp only [Nat.add_zero] at hst
 have hfirst:(Builtin.firstCells es (min m n) (a.eval y)).run C.P w=.ok (us.take (min m n*es)).toArray w:=by
  rcases usrc with ⟨ad,cap',e2,hcell⟩ | ⟨cap',e2,rfl,rfl⟩
  ·rw [e2]
   have:=run_loadCells_list (P:=C.P) w ad (us.take (min m n*es)) (fun j v hv=>hcell j v (by
    rw [List.getElem?_take] at hv
    split at hv
    ·exact hv
    ·cases hv))
   rw [htl] at this
   exact this
  ·rw [e2]; simp [Builtin.firstCells]
 have hlen:(Builtin.lenOf (a.eval y)).run C.P w=.ok m w:=by
  rcases usrc with ⟨ad,cap',e2,_⟩ | ⟨cap',e2,rfl,_⟩ <;> rw [e2] <;> rfl
 have hwr:=hs.rowSet (nid:=nid) (off:=off) (g:=us.take (min m n*es)) (gd:=news.take (min m n*es)) hb hid hw (by rw [htl,htd]) (fun u hu=>u1 u (List.mem_of_mem_take hu))
  (fun j u d hu hd=>by
   rw [List.getElem?_take] at hu hd
   split at hu
   ·rename_i hj
    rw [if_pos hj] at hd
    exact ur j u d hu hd
   ·cases hu) (by rw [htd]; omega)
 rw [htd,htl] at hwr
 rw [htl] at hst
 refine ⟨.value (.int .i64 (min m n:Nat)),_,β,_,?_,.inl rfl,hwr,WV.v _⟩
 have hmin:Nat.min m n=min m n:=rfl
 simp [execOp,ho,resolve,hc,hA,invoke,builtin,Builtin.copy_,hty,e1,run_underlying ht,hlen,hso,hmin,hfirst,hst,goInt,Result.andThen]
theorem Co9 {t t' e:TypeId} {x:Operand} {news:List DV} {m:Nat} {ns:List Int} (ho:o.op=.convert t t' x) (hs1:C.P.underlying t=some (.slice e)) (he:C.P.underlying e=some (.int .u8)) (hd:C.P.underlying t'=some .string)
  (hs:HoldsB C U s β a w) (h:srcC s 1 (s.ev x)=some (news,m)) (hl:news.length=m) (hn:numsV news=some ns):OpOk C U a w o (.v (.string (strOfNums ns))) s:=by
 obtain ⟨us,hul,huo,hur,hcase⟩:=Bn8 hs h (by omega)
 obtain ⟨hnl,hng⟩:=Au1 hn
 have hus:us=ns.map (Value.int .u8):=by
  apply List.ext_getElem?
  intro j
  rw [List.getElem?_map]
  by_cases hj:j < us.length
  ·have h1:=List.getElem?_eq_getElem hj
   have h2:=List.getElem?_eq_getElem (l:=news) (i:=j) (by omega)
   obtain ⟨n,h3,h4⟩:=hng j _ h2
   have h5:=hur j _ _ h1 h2
   rw [h4] at h5
   rw [h1,h3,h5.v_eq]
   rfl
  ·rw [List.getElem?_eq_none (by omega),List.getElem?_eq_none (by omega)]
   rfl
 refine .same hs (x:=.string (strOfNums ns)) ?_ (WV.v _)
 rcases hcase with ⟨ad,cap,e1,hc⟩ | ⟨cap,e1,rfl,rfl⟩
 ·have hlc:=run_loadCells_list (P:=C.P) w ad us hc
  have hum:us.length=m:=by omega
  rw [hum,hus] at hlc
  have hb:=run_bytesToString (P:=C.P) w ad m cap ns hlc
  rw [foldl_push_bytes] at hb
  have e2:(⟨ByteArray.empty.data ++ (ns.map fun n=>UInt8.ofNat n.toNat).toArray⟩:ByteArray)=strOfNums ns:=by
   simp [strOfNums,ByteArray.empty,ByteArray.emptyWithCapacity]
   rfl
  rw [e2] at hb
  simp only [execOp,ho,e1,Sem.run_bind,run_convert_bytes_string w t t' e (some ad) m cap hs1 he hd,hb,Result.andThen_ok,Sem.run_pure]
 ·have hns:ns=[]:=List.eq_nil_of_length_eq_zero (by rw [hnl,hl])
  subst hns
  have hb:=run_convert_bytes_nil (P:=C.P) w t e hs1 he 0 cap t' hd
  have e2:ByteArray.empty=strOfNums []:=rfl
  rw [e2] at hb
  simp only [execOp,ho,e1,Sem.run_bind,hb,Result.andThen_ok,Sem.run_pure]
theorem Ba0 {w:World} {b k:Nat} {c:Array Value} {T:TypeId} (h:w.heap[b]?=some (.cells c T (0,0))) :
  (w.freeze ⟨b,k,none⟩ 1).heap[b]?=some (.cells c T (k,k+1))∧(∀ i,i≠b→(w.freeze ⟨b,k,none⟩ 1).heap[i]?=w.heap[i]?)∧(w.freeze ⟨b,k,none⟩ 1).heap.size=w.heap.size:=by
 unfold World.freeze
 rw [if_neg (by decide)]
 refine ⟨?_,fun i hi=>?_,by simp⟩
 ·simp [Array.getElem?_modify,h]
 ·simp only [Array.getElem?_modify]
  rw [if_neg (fun e=>hi e.symm)]
theorem Cp0 {t e T:TypeId} {x:Operand} {id n:Nat} {cs:List DV} {ns:List Int} (ho:o.op=.convert t t x) (ht:C.P.underlying t=some (.slice e)) (he:C.P.underlying e=some (.int .u8))
  (hs:HoldsB C U s β a w) (hn:¬ U nid) (hx:s.ev x=.ms id 0 n 1) (hid:s.ho id=some (.row T cs)) (h0:0 < n) (hl:cs.length=n) (hns:numsV cs=some ns):OpOk C (Un U nid) a w o (.sl cs n) (s.upd nid (.mv (some id) (.row T []))):=by
 have h1:=hs.ev x
 rw [hx] at h1
 rcases Al2 h1 with ⟨_,_,hz⟩ | ⟨b,cap,c,T',e1,hb,hw,hnc,hm,hcap⟩
 ·omega
 ·obtain ⟨c',hw',hlc,_,hr⟩:=hs.row hb hid
  rw [hw] at hw'
  cases hw'
  have hblt:b < w.heap.size:=hs.hh.lt hb
  obtain ⟨f1,f2,f3⟩:=Ba0 (k:=c.size) hw
  obtain ⟨w',hw'⟩:∃ w',w.freeze ⟨b,c.size,none⟩ 1=w':=⟨_,rfl⟩
  rw [hw'] at f1 f2 f3
  have hos:w'.os=w.os∧w'.tape=w.tape∧w'.output=w.output:=by
   rw [← hw']; unfold World.freeze; rw [if_neg (by decide)]; exact ⟨rfl,rfl,rfl⟩
  have hidn:id≠nid:=fun h=>hn (h ▸ hs.hh.used (Ae5 (by rw [hid]; rfl)))
  have htn:=hs.turned (β':=upd (upd β id none) nid none) (w':=w') hn (some id) (fun i hi=>by cases hi; rw [hid]; rfl) (.row T []) (fun k hk hne=>f2 k fun h=>hne id rfl (by rw [h]; exact hb))
   hos.1 hos.2.1 hos.2.2 (by omega) (fun j hj hjo=>by rw [Ac8 _ _ hj,Ac8 _ _ (fun h=>hjo (by rw [h]))]) (fun i hi=>by cases hi; rw [Ac8 _ _ hidn,upd_same])
   (fun b' hb'=>by rw [upd_same] at hb'; cases hb') (fun _=>.inl ⟨upd_same _ _ _,rfl⟩)
  obtain ⟨hnl,hng⟩:=Au1 hns
  have hnob:∀ j,upd (upd β id none) nid none j≠some b:=fun j hj=>by
   unfold upd at hj
   split at hj
   ·cases hj
   ·split at hj
    ·cases hj
    ·rename_i h2
     exact h2 (hs.hh.inj j id b hj hb)
  have hrun:(execOp a.eval o).run C.P w=.ok (.value (.slice (some ⟨b,0,none⟩) n cap)) w':=by
   have hsh:w.shape? b=some (T,c.size):=by unfold World.shape?; rw [hw]
   simp [execOp,ho,e1,convert,run_underlying ht,run_underlying he,markStringish,hsh,hw']
  refine ⟨_,w',_,_,hrun,.inl rfl,htn.1,Al3 ?_⟩
  refine .sl ⟨b,0,none⟩ n cap (c.toList.take n) cs (by simp; omega) hnc ⟨?_,by show b < w'.heap.size; omega,hnob⟩ (fun u hu=>?_) (fun j u hu=>?_) (fun j u d hu hd=>?_)
  ·rcases (hs.hh.bge id b hb).1 with h | h
   ·exact .inr (.inl h)
   ·exact .inr (.inr h)
  ·obtain ⟨j,hj,rfl⟩:=List.mem_iff_getElem.1 hu
   simp at hj
   have hjc:j < cs.length:=by omega
   have:=(hr j c[j] cs[j] (by simp) (List.getElem?_eq_getElem hjc)).2
   simpa using this
  ·have hj:=(List.getElem?_eq_some_iff.1 hu).1
   simp at hj
   rw [Addr.add_lit,cell_of_row w' _ _ _ _ _ f1]
   rw [List.getElem?_take_of_lt (by omega)] at hu
   simpa using hu
  ·have hj:=(List.getElem?_eq_some_iff.1 hu).1
   simp at hj
   rw [List.getElem?_take_of_lt (by omega)] at hu
   obtain ⟨m,_,rfl⟩:=hng j d hd
   have h5:=(hr j u _ (by simpa using hu) hd).1
   rw [h5.v_eq]
   exact .v _
end ops
end Go.DD
