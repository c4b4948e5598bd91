/- A part. -/
import Derived.Test.YtnphfnhhpcelbaaGreatYa
import Derived.Laws.CopyRow
import Derived.Laws.Slices
import Derived.Laws.IdiomStrings
import Derived.Laws.OwnMore
import Derived.Laws.MakeOwn
import Derived.ArgAppend
import Derived.Maps.AppendAt
import Derived.MapKept
import Derived.ChangeKeysEq
import Derived.WideKeyRuns
namespace Go.DD
open Go.RowKit (Below)
section ops
variable {C:Ctx} {U:Nat->Prop} {s:DS} {β:Nat->Option Nat} {a:Act} {w:World} {o:Oper} {d:DV} {s':DS} {nid:Nat}
theorem uW{P:Program}{t:TypeId}(h:P.cellsOf t≠0)(w:World):(sizeOf t).run P w=.ok (P.cellsOf t) w:=by
 unfold Program.cellsOf at *
 cases hi:P.info? t with
 | none=>simp [hi] at h
 | some i=>simp [sizeOf,typeInfo,hi]
theorem yp{P:Program}{t:TypeId}{k:Option Nat}(hk:Nb P t=some k)(ad:Addr)(us:List Value)(hc:∀ (j:Nat) (u:Value),us[j]?=some u->w.cell? (ad.add j)=some u) :
  (k=none->∀ u,us[0]?=some u->(loadVar t ad).run P w=.ok u w)/\(∀ n,k=some n->n<=us.length->(loadVar t ad).run P w=.ok (.agg (us.take n).toArray) w):=by
 constructor
 .rintro rfl u hu
  obtain ⟨h1,_,_⟩:=PT hk w
  have:=hc 0 u hu
  simp [Addr.add] at this
  simp [loadVar,h1,this]
 .rintro n rfl hn
  obtain ⟨h1,h2,_⟩:=yo hk w
  have h3:=run_loadCells_list (P:=P) w ad (us.take n) (λj v hv=>hc j v (by
   rw [Cc] at hv
   split at hv
   .exact hv
   .cases hv))
  rw [Bt,Nat.min_eq_left hn] at h3
  simp [loadVar,h1,h2,h3]
theorem yc{al:Nat->Prop}{x:Value}{d:DV}(h:RelI w al x d):d.refs=[]:=by
 have hl:∀ cs:List DV,(∀ d∈cs,d.refs=[])->DV.refsL cs=[]:=λcs=>by
  induction cs with
  | nil=>intro _;rfl
  | cons c cs ih=>intro hc;simp only [DV.refsL];rw [hc c (by simp),ih λd hd=>hc d (by simp [hd])];rfl
 induction h with
 | any x=>rfl
 | v x=>rfl
 | agg vs cs cK _ _ ih=>
  rw [DV.refs]
  refine hl cs λd hd=>?_
  obtain ⟨j,hj,rfl⟩:=Br.1 hd
  exact ih j vs[j] _ (Aa (by omega)) (Aa hj)
 | tup vs cs cK _ ih=>
  rw [DV.refs]
  refine hl cs λd hd=>?_
  obtain ⟨j,hj,rfl⟩:=Br.1 hd
  exact ih j vs[j] _ (Aa (by omega)) (Aa hj)
 | fn f us vs cs cK _ ih=>
  rw [DV.refs]
  refine hl cs λd hd=>?_
  obtain ⟨j,hj,rfl⟩:=Br.1 hd
  exact ih j (Value.tuple us.toArray::vs)[j] _ (Aa (by omega)) (Aa hj)
 | ifc T u d _ ih=>rw [DV.refs];exact ih
 | _=>rfl
theorem qI{V:Nat->Option DObj}{x:Value}{d:DV}(h:RelI w (So C w β) x d):WV C U V β w x d:=WV.flat (.imm _ _ h) (yc h)
theorem UO{V:Nat->Option DObj}{k:Option Nat}{us:List Value}{cs:List DV}(hl:cs.length<=us.length)(ho:∀ (j:Nat) (u:Value),us[j]?=some u->j<cs.length->u.oneCell'=true)
  (hr:∀ (j:Nat) (u:Value) (d:DV),us[j]?=some u->cs[j]?=some d->WV C U V β w u d) (hp:Io k cs=some d) :
  (k=none->∃ u,us[0]?=some u/\WV C U V β w u d)/\(∀ n,k=some n->n<=us.length/\WV C U V β w (.agg (us.take n).toArray) d):=by
 cases k with
 | none=>
  refine ⟨λ_=>?_,λn hn=>(by cases hn)⟩
  simp only [Io] at hp
  split at hp
  .rename_i c tl
   cases hp
   have h0:0<us.length:=by simp at hl;omega
   exact ⟨us[0],Aa h0,hr 0 _ _ (Aa h0) (by simp)⟩
  .cases hp
 | some n=>
  refine ⟨λh=>(by cases h),λn' W0=>?_⟩
  cases W0
  simp only [Io] at hp
  split at hp
  rotate_left
  .cases hp
  rename_i hn
  cases hp
  have Wc:∀ (j:Nat) (u:Value) (d:DV),(us.take n)[j]?=some u->(cs.take n)[j]?=some d->WV C U V β w u d:=λj u d hu hd=>by
   rw [Cc] at hu hd
   split at hu
   .exact hr j u d hu (by simpa [*] using hd)
   .cases hu
  have Et:(us.take n).length=(cs.take n).length:=by simp;omega
  refine ⟨by omega,λid hi=>?_,λha=>.agg (us.take n) (cs.take n) Et (λu hu=>?_) λj u d hu hd=>?_,TP.nt λ_ h=>by cases h⟩
  .rw [DV.refs] at hi
   obtain ⟨d,hd,hi⟩:=DV.mem_refsL hi
   obtain ⟨j,hj,rfl⟩:=Br.1 hd
   exact (Wc j (us.take n)[j] _ (Aa (by omega)) (Aa hj)).1 id hi
  .obtain ⟨j,hj,rfl⟩:=Br.1 hu
   simp at hj
   refine ho j _ ?_ (by omega)
   rw [Er]
   exact Aa (by omega)
  .exact (Wc j u d hu hd).2.1 λid hi=>ha id (by rw [DV.refs];exact DV.refsL_mem (Aw hd) hi)
theorem HoldsB.row(hs:HoldsB C U s β a w){id b:Nat}{T:TypeId}{cs:List DV}(hb:β id=some b)(ho:s.ho id=some (.row T cs)) :
  ∃ c:Array Value,w.heap[b]?=some (.cells c T (0,0))/\cs.length<=c.size/\(Nh C.P T=true->c.size=cs.length)/\∀ (j:Nat) (u:Value) (d:DV),c[j]?=some u->cs[j]?=some d->WV C U (s.vw C) β w u d/\u.oneCell'=true:=by
 rcases hs.hh.hp id _ (bL ho) with ⟨h1,_⟩ | ⟨b',c,Gz,hc,hl,hx,hr⟩
 .rw [hb] at h1;cases h1
 .rw [hb] at Gz;cases Gz;exact ⟨c,hc,hl,hx,hr⟩
theorem AB{b off:Nat}{c:Array Value}{T:TypeId}{f:Nat×Nat}(h:w.heap[b]?=some (.cells c T f))(j:Nat)(u:Value)(hu:(c.toList.drop off)[j]?=some u) :
  w.cell? ((⟨b,off,none⟩:Addr).add j)=some u:=by
 rw [Addr.add_lit,cell_of_row w b (off+j) c T f h]
 simpa using hu
theorem B56{k:Option Nat}{t:TypeId}{x:Operand}{cs:List DV}(ho:o.op=.load t x)(hk:Nb C.P t=some k)(hs:HoldsB C U s β a w)(hx:s.ev x=.ia cs)(hp:Io k cs=some d):OpOk C U a w o d s:=by
 have h1:=hs.ev x
 rw [hx] at h1
 obtain ⟨ad,us,e1,hl,_,fV,hc,hr⟩:=AY h1
 obtain ⟨g1,g2⟩:=yp hk ad us hc
 obtain ⟨p1,p2⟩:=UO (C:=C) (U:=U) (V:=s.vw C) (w:=w) (β:=β) (by omega) (λj u hu _=>fV u (Aw hu)) (λj u d hu hd=>qI (hr j u d hu hd)) hp
 cases k with
 | none=>
  obtain ⟨u,hu,Cl⟩:=p1 rfl
  exact .same hs (by simp [execOp,ho,e1,Instr.loadAt,Instr.sureAddr,g1 rfl u hu]) Cl
 | some n=>
  obtain ⟨hn,Cl⟩:=p2 n rfl
  exact .same hs (by simp [execOp,ho,e1,Instr.loadAt,Instr.sureAddr,g2 n rfl hn]) Cl
theorem B57{k:Option Nat}{t T:TypeId}{x:Operand}{id off:Nat}{cs:List DV}(ho:o.op=.load t x)(hk:Nb C.P t=some k)(hs:HoldsB C U s β a w)(hx:s.ev x=.pt id off)
  (hid:s.ho id=some (.row T cs)) (hp:Io k (cs.drop off)=some d):OpOk C U a w o d s:=by
 have h1:=hs.ev x
 rw [hx] at h1
 obtain ⟨b,e1,hb⟩:=iW h1
 obtain ⟨c,hw,hl,_,hr⟩:=hs.row hb hid
 obtain ⟨g1,g2⟩:=yp hk ⟨b,off,none⟩ (c.toList.drop off) (AB hw)
 obtain ⟨p1,p2⟩:=UO (C:=C) (U:=U) (V:=s.vw C) (w:=w) (β:=β) (us:=c.toList.drop off) (cs:=cs.drop off) (by simp;omega)
  (λj u hu hj=>by
   have Tx:off+j<cs.length:=by simp at hj;omega
   exact (hr (off+j) u _ (by simpa using hu) (Aa Tx)).2)
  (λj u d hu hd=>(hr (off+j) u d (by simpa using hu) (by simpa using hd)).1) hp
 cases k with
 | none=>
  obtain ⟨u,hu,Cl⟩:=p1 rfl
  exact .same hs (by simp [execOp,ho,e1,Instr.loadAt,Instr.sureAddr,g1 rfl u hu]) Cl
 | some n=>
  obtain ⟨hn,Cl⟩:=p2 n rfl
  exact .same hs (by simp [execOp,ho,e1,Instr.loadAt,Instr.sureAddr,g2 n rfl hn]) Cl
theorem Cw0{k:Option Nat}{t:TypeId}{x:Operand}{i:Nat}{fs:Array Field}{f:Field}{cs:List DV}(ho:o.op=.field t x i)(ht:C.P.underlying t=some (.struct fs))(hf:fs[i]?=some f)
  (hk:Nb C.P f.type=some k) (hs:HoldsB C U s β a w) (hx:s.ev x=.agg cs) (hp:Io k (cs.drop f.offset)=some d):OpOk C U a w o d s:=by
 have h1:=hs.ev x
 rw [hx] at h1
 obtain ⟨vs,e1,hl,fV,hr⟩:=Z2 h1
 obtain ⟨p1,p2⟩:=UO (C:=C) (U:=U) (V:=s.vw C) (w:=w) (β:=β) (us:=vs.drop f.offset) (cs:=cs.drop f.offset) (by simp;omega)
  (λj u hu _=>fV u (by have:=Aw hu;exact Di this))
  (λj u d hu hd=>hs.evp x (hr (f.offset+j) u d (by simpa using hu) (by simpa using hd)) λid hi=>by
   rw [hx,DV.refs]
   exact DV.refsL_mem (Aw (by simpa using hd)) hi) hp
 cases k with
 | none=>
  obtain ⟨u,hu,Cl⟩:=p1 rfl
  obtain ⟨g1,_,_⟩:=PT hk w
  have Jg:vs[f.offset]?=some u:=by simpa using hu
  exact .same hs (by simp [execOp,ho,e1,Instr.field,run_underlying ht,hf,asAgg,part,g1,Jg]) Cl
 | some n=>
  obtain ⟨hn,Cl⟩:=p2 n rfl
  obtain ⟨g1,g2,_⟩:=yo hk w
  have he:vs.toArray.extract f.offset (f.offset+n)=(List.take n (List.drop f.offset vs)).toArray:=by
   apply Dj
   simp [List.take_drop]
  refine .same hs ?_ Cl
  simp [execOp,ho,e1,Instr.field,run_underlying ht,hf,asAgg,part,g1,g2,Ss]
theorem Cw1{x:Operand}(ho:o.op=.nilCheck x)(hs:HoldsB C U s β a w)(hx:(∃ cs,s.ev x=.ia cs)\/(∃ id off,s.ev x=.pt id off)\/(∃ f cs,s.ev x=.fn (.func f) cs)\/∃ T d,s.ev x=.ifc T d):OpOk C U a w o (s.ev x) s:=by
 have h1:=hs.ev x
 refine .same hs (x:=a.eval x) ?_ (hs.evw x)
 rcases hx with ⟨cs,hx⟩ | ⟨id,off,hx⟩ | ⟨f,cs,hx⟩ | ⟨T,d,hx⟩ <;> rw [hx] at h1
 .obtain ⟨ad,us,e1,_⟩:=AY h1
  simp [execOp,ho,e1]
 .obtain ⟨b,e1,hb⟩:=iW h1
  simp [execOp,ho,e1]
 .obtain ⟨us,vs,e1,_⟩:=QA h1
  simp [execOp,ho,e1]
 .obtain ⟨u,e1,_⟩:=E7 h1
  simp [execOp,ho,e1]
theorem yb{P:Program}{al:Nat->Prop}{ad:Addr}{us:List Value}{cs:List DV}(m:Nat)(hl:us.length=cs.length)(ha:al ad.block)(h1:∀ u∈us,u.oneCell'=true)
  (hc:∀ (j:Nat) (u:Value),us[j]?=some u->w.cell? (ad.add j)=some u) (h:∀ (j:Nat) (u:Value) (d:DV),us[j]?=some u->cs[j]?=some d->RelI w al u d) :
  Rel P w al β (.pointer (some (ad.add m))) (.ia (cs.drop m)):=
 .imm _ _ (.ia (ad.add m) (us.drop m) (cs.drop m) (by simp [hl]) (by rw [block_add];exact ha) (λu hu=>h1 u (Di hu))
  (λj u hu=>by rw [add_add];exact hc _ u (by simpa using hu)) λj u d hu hd=>h (m+j) u d (by simpa using hu) (by simpa using hd))
theorem wX{t:TypeId}{x:Operand}{i:Nat}{fs:Array Field}{f:Field}(ho:o.op=.fieldAddr t x i)(ht:C.P.underlying t=some (.struct fs))(hf:fs[i]?=some f)(hz:C.P.cellsOf f.type≠0)
  (hs:HoldsB C U s β a w):(∀ cs,s.ev x=.ia cs->OpOk C U a w o (.ia (cs.drop f.offset)) s)/\(∀ id off,s.ev x=.pt id off->OpOk C U a w o (.pt id (off+f.offset)) s):=by
 have h1:=hs.ev x
 constructor
 .intro cs hx
  rw [hx] at h1
  obtain ⟨ad,us,e1,hl,ha,fV,hc,hr⟩:=AY h1
  refine .same hs ?_ (WV.flat (yb f.offset hl ha fV hc hr) rfl)
  simp [execOp,ho,e1,Instr.fieldAt,run_underlying ht,hf,Instr.sureAddr,fieldPlace,uW hz,hz]
 .intro id off hx
  rw [hx] at h1
  obtain ⟨b,e1,hb⟩:=iW h1
  refine .same hs ?_ (hs.evp x (.pt id (off+f.offset) b hb) (by rw [hx];simp [DV.refs]))
  simp [execOp,ho,e1,Instr.fieldAt,run_underlying ht,hf,Instr.sureAddr,fieldPlace,uW hz,hz,Addr.add_lit]
theorem E6{P:Program}{al:Nat->Prop}{x:Value}{d:DV}{n:Int}(h:Rel P w al β x d)(hd:Ku d=some n):∃ k,x=.int k n:=by
 unfold Ku at hd
 split at hd
 .cases hd;exact ⟨_,Eb h⟩
 .cases hd
theorem wV{t e:TypeId}{x i:Operand}{j:Int}(ho:o.op=.indexAddr t x i)(ht:C.P.underlying t=some (.slice e))(hz:C.P.cellsOf e≠0)(hs:HoldsB C U s β a w)(hi:Ku (s.ev i)=some j)(h0:0<=j) :
  (∀ cs n,s.ev x=.sl cs n->j<n->OpOk C U a w o (.ia (cs.drop (j.toNat*C.P.cellsOf e))) s)/\(∀ id off n es,s.ev x=.ms id off n es->j<n->OpOk C U a w o (.pt id (off+j.toNat*C.P.cellsOf e)) s):=by
 have h1:=hs.ev x
 obtain ⟨k,hk⟩:=E6 (hs.ev i) hi
 constructor
 .intro cs n hx hj
  rw [hx] at h1
  rcases T4 h1 with ⟨_,_,_,_,rfl⟩ | ⟨ad,cap,us,e1,hl,hn,ha,fV,hc,hr⟩
  .omega
  .refine .same hs ?_ (WV.flat (yb _ hl ha fV hc hr) rfl)
   simp [execOp,ho,e1,hk,Instr.indexAt,run_underlying ht,asIntOf,h0,hj,uW hz]
 .intro id off n es hx hj
  rw [hx] at h1
  rcases lZ h1 with ⟨_,_,rfl⟩ | ⟨b,cap,c,T,e1,hb,hw,hn,hm,Ol⟩
  .omega
  .refine .same hs ?_ (hs.evp x (.pt id _ b hb) (by rw [hx];simp [DV.refs]))
   simp [execOp,ho,e1,hk,Instr.indexAt,run_underlying ht,asIntOf,h0,hj,uW hz,Addr.add_lit]
theorem wW{t e:TypeId}{n:Nat}{x i:Operand}{j:Int}(ho:o.op=.indexAddr t x i)(ht:C.P.underlying t=some (.array n e))(hz:C.P.cellsOf e≠0)(hs:HoldsB C U s β a w)(hi:Ku (s.ev i)=some j)(h0:0<=j)(hj:j<n) :
  (∀ cs,s.ev x=.ia cs->OpOk C U a w o (.ia (cs.drop (j.toNat*C.P.cellsOf e))) s)/\(∀ id off,s.ev x=.pt id off->OpOk C U a w o (.pt id (off+j.toNat*C.P.cellsOf e)) s):=by
 have h1:=hs.ev x
 obtain ⟨k,hk⟩:=E6 (hs.ev i) hi
 constructor
 .intro cs hx
  rw [hx] at h1
  obtain ⟨ad,us,e1,hl,ha,fV,hc,hr⟩:=AY h1
  refine .same hs ?_ (WV.flat (yb _ hl ha fV hc hr) rfl)
  simp [execOp,ho,e1,hk,Instr.indexAt,run_underlying ht,asIntOf,h0,hj,uW hz,Instr.sureAddr]
 .intro id off hx
  rw [hx] at h1
  obtain ⟨b,e1,hb⟩:=iW h1
  refine .same hs ?_ (hs.evp x (.pt id _ b hb) (by rw [hx];simp [DV.refs]))
  simp [execOp,ho,e1,hk,Instr.indexAt,run_underlying ht,asIntOf,h0,hj,uW hz,Addr.add_lit,Instr.sureAddr]
theorem Cw2{t t' e:TypeId}{x:Operand}{b:ByteArray}(ho:o.op=.convert t t' x)(fG:C.P.underlying t=some .string)(hd:C.P.underlying t'=some (.slice e))(he:C.P.underlying e=some (.int .u8))(hs:HoldsB C U s β a w)(hx:s.ev x=.v (.string b)) :
  OpOk C U a w o (.sl (b.data.toList.map λc=>.v (.int .u8 (c.toNat:Int))) b.size) s:=by
 have h1:=hs.ev x
 rw [hx] at h1
 obtain ⟨w',Rr⟩:∃ w',w.drew.alloc (.cells (bytesRow b (grownCap w b.size 0 e)) e ((bytesRow b (grownCap w b.size 0 e)).size,(bytesRow b (grownCap w b.size 0 e)).size+1))=w':=⟨_,rfl⟩
 have Fm:=run_bytes_of_string (P:=C.P) w t t' e b fG hd he
 rw [Rr] at Fm
 have Mb:Below w.heap.size w w':=by rw [<- Rr];exact ((Below.refl _ _).drew).alloc (by simp) _
 have Jt:w'.heap[w.heap.size]?=some (.cells (bytesRow b (grownCap w b.size 0 e)) e ((bytesRow b (grownCap w b.size 0 e)).size,(bytesRow b (grownCap w b.size 0 e)).size+1)):=by
  rw [<- Rr]
  exact heap_alloc_new w.drew (.cells (bytesRow b (grownCap w b.size 0 e)) e ((bytesRow b (grownCap w b.size 0 e)).size,(bytesRow b (grownCap w b.size 0 e)).size+1))
 have Et:w.heap.size<w'.heap.size:=(Bu.1 Jt).1
 refine ⟨_,w',β,_,?_,.inl rfl,hs.keep Mb,qI (.sl ⟨w.heap.size,0,none⟩ b.size (grownCap w b.size 0 e) (b.data.toList.map λc=>.int .u8 (c.toNat:Int)) _ (by simp) (grownCap_ge w b.size 0 e) ⟨.inr (.inl hs.hh.bel.size),Et,λid hid=>by have h9:=hs.hh.lt hid;simp only at h9;omega⟩ (λu hu=>?_) (λj u hu=>?_) (λj u d hu hd=>?_))⟩
 .simp [execOp,ho,Eb h1,Fm]
 .obtain ⟨c,_,rfl⟩:=Bn.1 hu
  rfl
 .rw [Addr.add_lit,cell_of_row w' _ _ _ _ _ Jt]
  have hj:j<b.data.toList.length:=by have:=(Aq.1 hu).1;simpa using this
  simp only [bytesRow,Df]
  rw [Array.getElem?_append_left (by simpa using hj)]
  rw [<- Dk]
  simpa using hu
 .simp only [Dr,Ac] at hu hd
  obtain ⟨c,hc,rfl⟩:=hu
  obtain ⟨c',Km,rfl⟩:=hd
  rw [hc] at Km;cases Km
  exact .v _
theorem Cw3{t:TypeId}{x i:Operand}{j:Int}{b:ByteArray}{c:UInt8}(ho:o.op=.index t x i)(ht:C.P.underlying t=some .string)(hs:HoldsB C U s β a w)(hi:Ku (s.ev i)=some j)(h0:0<=j)
  (hx:s.ev x=.v (.string b)) (hc:b[j.toNat]?=some c):OpOk C U a w o (.v (.int .u8 (c.toNat:Int))) s:=by
 have h1:=hs.ev x
 rw [hx] at h1
 obtain ⟨k,hk⟩:=E6 (hs.ev i) hi
 refine .same hs ?_ (WV.v _)
 simp [execOp,ho,Eb h1,hk,Instr.index,run_underlying ht,asIntOf,h0,hc]
theorem Cn0(hs:HoldsB C U s β a w){x:Option Operand}{Yn n:Int}(h:Ig s Yn x=some n):(x=none/\n=Yn)\/∃ y k,x=some y/\a.eval y=.int k n:=by
 unfold Ig at h
 split at h
 .cases h;exact .inl ⟨rfl,rfl⟩
 .rename_i y
  obtain ⟨k,hk⟩:=E6 (hs.ev y) h
  exact .inr ⟨y,k,rfl,hk⟩
theorem AJ{P:Program}{isS:Bool}{len cap:Nat}{lo hi:Option Value}{l h:Int}(Gi:(lo=none/\l=0)\/∃ k,lo=some (.int k l))(Si:(hi=none/\h=len)\/∃ k,hi=some (.int k h))
  (h0:0<=l) (W2:l<=h) (hh:h<=cap) (w:World):(Instr.sliceBounds isS len cap lo hi none).run P w=.ok (l.toNat,h.toNat,cap) w:=by
 have e1:((h.toNat:Nat):Int)=h:=by omega
 rcases Gi with ⟨rfl,rfl⟩ | ⟨k,rfl⟩ <;> rcases Si with ⟨rfl,rfl⟩ | ⟨k',rfl⟩
 .simp [Instr.sliceBounds]
 .simp [Instr.sliceBounds,Instr.sliceBound,asIntOf,hh,show 0<=h by omega]
 .simp [Instr.sliceBounds,Instr.sliceBound,asIntOf,h0,W2]
 .simp [Instr.sliceBounds,Instr.sliceBound,asIntOf,h0,hh,show 0<=h by omega]
  omega
theorem Wf(hs:HoldsB C U s β a w){x:Option Operand}{Yn n:Int}(h:Ig s Yn x=some n):(x.map a.eval=none/\n=Yn)\/∃ k,x.map a.eval=some (.int k n):=by
 rcases Cn0 hs h with ⟨rfl,rfl⟩ | ⟨y,k,rfl,hk⟩
 .exact .inl ⟨rfl,rfl⟩
 .exact .inr ⟨k,by simp [hk]⟩
theorem va{t e:TypeId}{x:Operand}{lo hi:Option Operand}{l h:Int}(ho:o.op=.slice t x lo hi none)(ht:C.P.underlying t=some (.slice e))(cO:(C.P.info? e).isSome=true)(hs:HoldsB C U s β a w) :
  (∀ cs n,s.ev x=.sl cs n->Ig s 0 lo=some l->Ig s n hi=some h->0<=l->l<=h->h<=n->OpOk C U a w o (.sl ((cs.drop (l.toNat*C.P.cellsOf e)).take ((h.toNat-l.toNat)*C.P.cellsOf e)) (h.toNat-l.toNat)) s)/\
  (∀ id off n,s.ev x=.ms id off n (C.P.cellsOf e)->Ig s 0 lo=some l->Ig s n hi=some h->0<=l->l<=h->h<=n->OpOk C U a w o (if l<h\/l=0 then .ms id (off+l.toNat*C.P.cellsOf e) (h.toNat-l.toNat) (C.P.cellsOf e) else .sl [] 0) s)/\
  (s.ev x=.v (.slice none 0 0)->Ig s 0 lo=some l->Ig s 0 hi=some h->l=0->h=0->OpOk C U a w o (.v (.slice none 0 0)) s):=by
 have h1:=hs.ev x
 have Hj:(sizeOf e).run C.P w=.ok (C.P.cellsOf e) w:=by
  obtain ⟨i,hi⟩:=Dw.1 cO
  simp [sizeOf,typeInfo,hi,Program.cellsOf]
 refine ⟨?_,?_,?_⟩
 .intro cs n hx Gi Si h0 W2 hhn
  rw [hx] at h1
  rcases T4 h1 with ⟨ad,cap,e1,rfl,rfl⟩ | ⟨ad,cap,us,e1,hl,hn,ha,fV,hc,hr⟩
  .have:l=0:=by omega
   have:h=0:=by omega
   subst l;subst h
   refine .same hs (x:=.slice (if cap=0 then ad else ad.map (·.add (0*C.P.cellsOf e))) 0 cap) ?_ (by simpa using qI (.sl0 _ _))
   have hb:=AJ (P:=C.P) (isS:=true) (len:=0) (cap:=cap) (Wf hs Gi) (Wf hs Si) (Tu _) (Tu _) (by omega) w
   simp [execOp,ho,e1,Instr.sliceAt,Instr.slice,run_underlying ht,hb,Hj]
  .have hb:=AJ (P:=C.P) (isS:=true) (len:=n) (cap:=cap) (Wf hs Gi) (Wf hs Si) h0 W2 (by omega) w
   by_cases Tz:cap=l.toNat
   .subst Tz
    have e2:h.toNat=l.toNat:=by omega
    refine .same hs (x:=.slice (some ad) 0 0) ?_ ?_
    .simp [execOp,ho,e1,Instr.sliceAt,Instr.slice,run_underlying ht,hb,Hj,e2]
    .rw [e2];simpa using qI (.sl0 _ _)
   .refine .same hs (x:=.slice (some (ad.add (l.toNat*C.P.cellsOf e))) (h.toNat-l.toNat) (cap-l.toNat)) ?_ ?_
    .simp [execOp,ho,e1,Instr.sliceAt,Instr.slice,run_underlying ht,hb,Hj,Tz]
    .refine qI (.sl _ _ _ ((us.drop (l.toNat*C.P.cellsOf e)).take ((h.toNat-l.toNat)*C.P.cellsOf e)) _ (by simp [hl]) (by omega) (by rw [block_add];exact ha) (λu hu=>fV u (Di (Gv hu)))
      (λj u hu=>?_) λj u d hu hd=>?_)
     .rw [Cc] at hu
      split at hu
      .rw [add_add];exact hc _ u (by simpa using hu)
      .cases hu
     .rw [Cc] at hu hd
      split at hu
      .exact hr (l.toNat*C.P.cellsOf e+j) u d (by simpa using hu) (by simpa [*] using hd)
      .cases hu
 .intro id off n hx Gi Si h0 W2 hhn
  rw [hx] at h1
  rcases lZ h1 with ⟨e1,rfl,rfl⟩ | ⟨b,cap,c,T,e1,hb,hw,hn,hm,Ol⟩
  .have h2:l=0:=by omega
   have h3:h=0:=by omega
   subst h2;subst h3
   have Yl:=AJ (P:=C.P) (isS:=true) (len:=0) (cap:=0) (Wf hs Gi) (Wf hs Si) (Tu _) (Tu _) (by omega) w
   rw [Af (.inr rfl)]
   refine .same hs (x:=.slice none 0 0) ?_ (hs.evp x (by simpa using .ms0 id (C.P.cellsOf e)) (by rw [hx];simp [DV.refs]))
   simp [execOp,ho,e1,Instr.sliceAt,Instr.slice,run_underlying ht,Yl,Hj]
  .have Yl:=AJ (P:=C.P) (isS:=true) (len:=n) (cap:=cap) (Wf hs Gi) (Wf hs Si) h0 (by omega) (by omega) w
   by_cases hc:l<h\/l=0
   .rw [Af hc]
    by_cases Tz:cap=l.toNat
    .have h2:l=0:=by omega
     subst h2
     have h3:cap=0:=by simpa using Tz
     subst h3
     have h4:h=0:=by omega
     subst h4
     have Cl:Rel C.P w (So C w β) β (.slice (some ⟨b,off,none⟩) 0 0) (.ms id (off+(0:Int).toNat*C.P.cellsOf e) ((0:Int).toNat-(0:Int).toNat) (C.P.cellsOf e)):=by
      simpa using .ms id off 0 (C.P.cellsOf e) b 0 c T hb hw (by omega) (by omega) (by simpa using Ol)
     refine .same hs (x:=.slice (some ⟨b,off,none⟩) 0 0) ?_ (hs.evp x Cl (by rw [hx];simp [DV.refs]))
     simp [execOp,ho,e1,Instr.sliceAt,Instr.slice,run_underlying ht,Yl,Hj]
    .refine .same hs (x:=.slice (some ⟨b,off+l.toNat*C.P.cellsOf e,none⟩) (h.toNat-l.toNat) (cap-l.toNat)) ?_ (hs.evp x (.ms _ _ _ _ b _ c T hb hw (by omega) (by omega) ?_) (by rw [hx];simp [DV.refs]))
     .simp [execOp,ho,e1,Instr.sliceAt,Instr.slice,run_underlying ht,Yl,Hj,Tz,Addr.add_lit]
     .rw [<- Ol,Pm,<- Dq,Nat.add_sub_cancel' (show l.toNat<=cap by omega)]
   .rw [Ae hc]
    have e2:h.toNat=l.toNat:=by omega
    refine .same hs (x:=.slice (if cap=l.toNat then some ⟨b,off,none⟩ else some ((⟨b,off,none⟩:Addr).add (l.toNat*C.P.cellsOf e))) 0 (cap-l.toNat)) ?_ (qI (.sl0 _ _))
    simp [execOp,ho,e1,Instr.sliceAt,Instr.slice,run_underlying ht,Yl,Hj,e2]
 .intro hx Gi Si hl hh
  rw [hx] at h1
  have e1:=Eb h1
  subst hl hh
  have Yl:=AJ (P:=C.P) (isS:=true) (len:=0) (cap:=0) (Wf hs Gi) (Wf hs Si) (Tu _) (Tu _) (by omega) w
  refine .same hs (x:=.slice none 0 0) ?_ (WV.v _)
  simp [execOp,ho,e1,Instr.sliceAt,Instr.slice,run_underlying ht,Yl,Hj]
theorem Cw4{t:TypeId}{x:Operand}{lo hi:Option Operand}{l h:Int}{b:ByteArray}(ho:o.op=.slice t x lo hi none)(ht:C.P.underlying t=some .string)(hs:HoldsB C U s β a w)(hx:s.ev x=.v (.string b))
  (Gi:Ig s 0 lo=some l) (Si:Ig s b.size hi=some h) (h0:0<=l) (W2:l<=h) (hhn:h<=b.size):OpOk C U a w o (.v (.string (b.extract l.toNat h.toNat))) s:=by
 have h1:=hs.ev x
 rw [hx] at h1
 have hb:=AJ (P:=C.P) (isS:=false) (len:=b.size) (cap:=b.size) (Wf hs Gi) (Wf hs Si) h0 W2 (by omega) w
 refine .same hs ?_ (WV.v _)
 simp [execOp,ho,Eb h1,Instr.sliceAt,Instr.slice,run_underlying ht,hb]
theorem Cc7{t:TypeId}{c:Call}{x:Operand}(ho:o.op=.call c)(hc:c.callee=.builtin .len)(Du:c.args.toList=[x])(ht:c.argTypes[0]?=some t)(hs:HoldsB C U s β a w) :
  ((∃ e,C.P.underlying t=some (.slice e))->(∀ cs n,s.ev x=.sl cs n->OpOk C U a w o (.v (.int .i64 n)) s)/\(∀ id off n es,s.ev x=.ms id off n es->OpOk C U a w o (.v (.int .i64 n)) s)/\
   (∀ n c',s.ev x=.v (.slice none n c')->OpOk C U a w o (.v (.int .i64 n)) s))/\
  (C.P.underlying t=some .string->∀ b,s.ev x=.v (.string b)->OpOk C U a w o (.v (.int .i64 b.size)) s):=by
 have h1:=hs.ev x
 have hA:c.args = #[x]:=by apply Dj;simpa using Du
 constructor
 .rintro ⟨e,hu⟩
  have Fm:∀ ad n cap,a.eval x=.slice ad n cap->OpOk C U a w o (.v (.int .i64 n)) s:=λad n cap hv=>by
   refine .same hs (x:=.int .i64 n) ?_ (WV.v _)
   simp [execOp,ho,resolve,hc,hA,invoke,builtin,Builtin.len_,ht,hv,run_underlying hu,goInt]
  refine ⟨λcs n hx=>?_,λid off n es hx=>?_,λn c' hx=>?_⟩ <;> rw [hx] at h1
  .rcases T4 h1 with ⟨ad,cap,e1,_,rfl⟩ | ⟨ad,cap,us,e1,_⟩
   .exact Fm _ _ _ e1
   .exact Fm _ _ _ e1
  .rcases lZ h1 with ⟨e1,_,rfl⟩ | ⟨b,cap,cc,T,e1,_⟩
   .exact Fm _ _ _ e1
   .exact Fm _ _ _ e1
  .exact Fm _ _ _ (Eb h1)
 .intro hu b hx
  rw [hx] at h1
  refine .same hs (x:=.int .i64 b.size) ?_ (WV.v _)
  simp [execOp,ho,resolve,hc,hA,invoke,builtin,Builtin.len_,ht,Eb h1,run_underlying hu,goInt]
theorem Cw5{t:TypeId}{c:Call}{x:Operand}(ho:o.op=.call c)(hc:c.callee=.builtin .cap)(Du:c.args.toList=[x])(ht:c.argTypes[0]?=some t)(hs:HoldsB C U s β a w){e:TypeId}(hu:C.P.underlying t=some (.slice e))(hx:s.ev x=.v (.slice none 0 0)) :
  OpOk C U a w o (.v (.int .i64 0)) s:=by
 have h1:=hs.ev x
 rw [hx] at h1
 have hA:c.args = #[x]:=by apply Dj;simpa using Du
 refine .same hs (x:=.int .i64 0) ?_ (WV.v _)
 simp [execOp,ho,resolve,hc,hA,invoke,builtin,Builtin.cap_,ht,Eb h1,run_underlying hu,goInt]
theorem Cc8{f:Fn}{first cap:Array Operand}(ho:o.op=.makeFunc f first cap)(hs:HoldsB C U s β a w):OpOk C U a w o (.fn f (.tup (first.toList.map s.ev)::cap.toList.map s.ev)) s:=by
 have key:∀ l:List Operand,∀ (j:Nat) (u:Value) (d:DV),(l.map a.eval)[j]?=some u->(l.map s.ev)[j]?=some d->Rel C.P w (So C w β) β u d:=λl j u d hu hd=>by
  simp only [Dr,Ac] at hu hd
  obtain ⟨x,hx,rfl⟩:=hu
  obtain ⟨y,hy,rfl⟩:=hd
  rw [hx] at hy;cases hy
  exact hs.ev x
 refine .same hs (x:=.func f (first.toList.map a.eval).toArray (cap.toList.map a.eval).toArray) ?_ (hs.hh.wv (.fn f _ _ _ (by simp) λj u d hu hd=>?_) λid hi=>?_)
 .have h1:Array.map a.eval cap=(List.map a.eval cap.toList).toArray:=by apply Dj;simp
  have h2:Array.map a.eval first=(List.map a.eval first.toList).toArray:=by apply Dj;simp
  simp [execOp,ho,Instr.makeFunc,h1,h2]
 .cases j with
  | zero=>cases hu;cases hd;exact .tup _ _ (by simp) (key _)
  | succ j=>exact key cap.toList j u d (by simpa using hu) (by simpa using hd)
 .have Ju:∀ l:List Operand,id∈DV.refsL (l.map s.ev)->(s.vw C id).isSome=true:=λl h=>by
   obtain ⟨d,hd,hi⟩:=DV.mem_refsL h
   obtain ⟨x,_,rfl⟩:=Bn.1 hd
   exact kV (HoldsB.eva x id hi)
  simp only [DV.refs,DV.refsL,Ax] at hi
  rcases hi with hi | hi
  .exact Ju _ hi
  .exact Ju _ hi
theorem Cn1{x:Operand}{i:Nat}{ds:List DV}{v:Value}(ho:o.op=.extract x i)(hs:HoldsB C U s β a w)(hx:s.rv x=.tup ds)(hi:ds[i]?=some (.v v)):OpOk C U a w o (.v v) s:=by
 obtain ⟨vs,e1,h1⟩:=(hs.rvw x).2.2 ds hx i v hi
 obtain ⟨Et,h2⟩:=Bu.1 h1
 refine .same hs (x:=v) ?_ (WV.v v)
 simp [execOp,ho,e1,Instr.extract,Et,h2]
theorem Cw6{x:Operand}{i:Nat}{ds:List DV}(ho:o.op=.extract x i)(hs:HoldsB C U s β a w)(hx:s.ev x=.tup ds)(hi:ds[i]?=some d):OpOk C U a w o d s:=by
 have h1:=hs.ev x
 rw [hx] at h1
 obtain ⟨vs,e1,hl,hr⟩:=wm h1
 have Et:i<vs.length:=by rw [hl];exact (Aq.1 hi).1
 refine .same hs (x:=vs[i]) ?_ (hs.evp x (hr i _ _ (Aa Et) hi) λid hid=>by rw [hx,DV.refs];exact DV.refsL_mem (Aw hi) hid)
 simp [execOp,ho,e1,Instr.extract,Et]
end ops
end Go.DD

/- Each operation on deep values is what the model's operation does (third part: memory that is made or written). -/
namespace Go.DD
open Go.RowKit (Below)
theorem DS.ho_upd(s:DS)(nid:Nat)(u:Upd):(s.upd nid u).ho=u.app nid s.ho:=rfl
@[simp] theorem DS.sv_upd(s:DS)(nid:Nat)(u:Upd):(s.upd nid u).sv=s.sv:=rfl
theorem Cn2{C:Ctx}{s:DS}{nid:Nat}{Hr:Option Nat}{o:DObj}(hold:∀ i,Hr=some i->C.Y i=none)(j:Nat)(hj:j≠nid):(s.upd nid (.mv Hr o)).vw C j=if Hr=some j then none else s.vw C j:=by
 unfold DS.vw Lc
 rw [DS.ho_upd]
 simp only [Upd.app]
 rw [rY _ _ hj]
 cases Hr with
 | none=>simp [PA]
 | some i=>
  simp only [PA]
  by_cases Nu:j=i
  .subst Nu;simp [hold j rfl]
  .rw [rY _ _ Nu]
   have:¬ i=j:=λe=>Nu e.symm
   simp [this]
theorem Cw7{C:Ctx}{s:DS}{nid:Nat}{Hr:Option Nat}{o:DObj} : (s.upd nid (.mv Hr o)).vw C nid=some o:=by
 simp [DS.vw,Lc,DS.ho_upd,Upd.app]
theorem HoldsB.apart{C:Ctx}{U:Nat->Prop}{s:DS}{β:Nat->Option Nat}{a:Act}{w:World}(hs:HoldsB C U s β a w){i:Nat}(h:(s.ho i).isSome=true):C.Y i=none:=by
 cases hy:C.Y i with
 | none=>rfl
 | some o=>rw [hs.yd i o hy] at h;cases h
theorem HoldsB.turned{C:Ctx}{U:Nat->Prop}{s:DS}{β β':Nat->Option Nat}{a:Act}{w w':World}{nid:Nat}(hs:HoldsB C U s β a w)(hn:¬ U nid)(Hr:Option Nat)(hold:∀ i,Hr=some i->(s.ho i).isSome=true)(o:DObj)
  (He:∀ b,b<w.heap.size->(∀ i,Hr=some i->β i≠some b)->w'.heap[b]?=w.heap[b]?)
  (oE:w'.os=w.os) (Xe:w'.tape=w.tape) (Lj:w'.output=w.output) (Hj:w.heap.size<=w'.heap.size)
  (hβ:∀ j,j≠nid->Hr≠some j->β' j=β j) (di:∀ i,Hr=some i->β' i=none)
  (Jt:∀ b,β' nid=some b->((∃ i,Hr=some i/\β i=some b)\/w.heap.size<=b)/\b<w'.heap.size)
  (fJ:(∀ x d,WV C U (s.vw C) β w x d->WV C (Un U nid) ((s.upd nid (.mv Hr o)).vw C) β' w' x d)->RelO C (Un U nid) ((s.upd nid (.mv Hr o)).vw C) β' w' nid o) :
  HoldsB C (Un U nid) (s.upd nid (.mv Hr o)) β' a w'/\∀ x d,WV C U (s.vw C) β w x d->WV C (Un U nid) ((s.upd nid (.mv Hr o)).vw C) β' w' x d:=by
 have ht:=hs.hh.turn (U':=Un U nid) (V':=(s.upd nid (.mv Hr o)).vw C) (β':=β') (w':=w') nid Hr hn (λ_=>Dg) (λi hi=>hs.hh.used (kV (hold i hi))) He oE Xe Lj Hj hβ di Jt
  (λj hj=>Cn2 (λi hi=>hs.apart (hold i hi)) j hj) (λo' Ns Cl=>by rw [Cw7] at Ns;cases Ns;exact fJ Cl)
 refine ⟨hs.carry rfl (λid o' hy=>?_) ht,ht.2.1⟩
 have h1:=hs.yd id o' hy
 have hu:id≠nid:=λe=>hn (e ▸ hs.hh.used (by unfold DS.vw Lc;rw [h1];simp [hy]))
 rw [DS.ho_upd]
 simp only [Upd.app]
 rw [rY _ _ hu]
 cases Hr with
 | none=>exact h1
 | some i=>
  simp only [PA]
  by_cases Nu:id=i
  .subst Nu;simp
  .rw [rY _ _ Nu];exact h1
theorem HoldsB.fresh{C:Ctx}{U:Nat->Prop}{s:DS}{β:Nat->Option Nat}{a:Act}{w w':World}{nid:Nat}(hs:HoldsB C U s β a w)(hn:¬ U nid)(T:TypeId)(c:Array Value)(cs:List DV)(b:Nat)
  (hk:Below w.heap.size w w') (hb:w.heap.size<=b) (hc:w'.heap[b]?=some (.cells c T (0,0))) (hl:cs.length<=c.size) (hx:Nh C.P T=true->c.size=cs.length)
  (hr:∀ (j:Nat) (u:Value) (d:DV),c[j]?=some u->cs[j]?=some d->WV C U (s.vw C) β w u d/\u.oneCell'=true) :
  HoldsB C (Un U nid) (s.upd nid (.lay (.row T cs))) (upd β nid (some b)) a w':=by
 have Mb:b<w'.heap.size:=by
  rcases Cr b w'.heap.size with h | h
  .exact h
  .rw [Ws h] at hc;cases hc
 refine (hs.turned (β':=upd β nid (some b)) hn none (λ_ h=>by cases h) _ (λb' Gz _=>hk.block b' Gz) hk.os hk.tape hk.output hk.size (λj hj _=>Zv β _ hj) (λ_ h=>by cases h) (λb' Gz=>?_) λCl=>?_).1
 .rw [De] at Gz
  cases Gz
  exact ⟨.inr hb,Mb⟩
 .exact .inr ⟨b,c,by simp,hc,hl,hx,λj u d hu hd=>⟨Cl _ _ (hr j u d hu hd).1,(hr j u d hu hd).2⟩⟩
theorem qH{C:Ctx}{U:Nat->Prop}{V:Nat->Option DObj}{β:Nat->Option Nat}{w:World}{nid:Nat}{x:Value}{d:DV}(hr:Rel C.P w (So C w β) β x d)(hd:d.refs=[nid]):WV C (Un U nid) V β w x d:=
 ⟨λid hi=>by rw [hd] at hi;exact .inr (by simpa using hi),λ_=>hr,TP.of_rel hr⟩
theorem Cw8{C:Ctx}{U:Nat->Prop}{V:Nat->Option DObj}{β:Nat->Option Nat}{w:World}{us:List Value}{cs:List DV}(hl:us.length=cs.length)(ho:∀ u∈us,u.oneCell'=true)
  (hr:∀ (j:Nat) (u:Value) (d:DV),us[j]?=some u->cs[j]?=some d->WV C U V β w u d):WV C U V β w (.agg us.toArray) (.agg cs):=by
 refine ⟨λid hi=>?_,λha=>.agg us cs hl ho λj u d hu hd=>(hr j u d hu hd).2.1 λid hi=>ha id (by rw [DV.refs];exact DV.refsL_mem (Aw hd) hi),TP.nt λ_ h=>by cases h⟩
 rw [DV.refs] at hi
 obtain ⟨d,hd,hi⟩:=DV.mem_refsL hi
 obtain ⟨j,hj,rfl⟩:=Br.1 hd
 exact (hr j us[j] _ (Aa (by omega)) (Aa hj)).1 id hi
section ops
variable {C:Ctx} {U:Nat->Prop} {s:DS} {β:Nat->Option Nat} {a:Act} {w:World} {o:Oper} {d:DV} {s':DS} {nid:Nat}
theorem U1{P:Program}{t:TypeId}{z:List Value}(h:Lz P t=some z):∃ i v,P.info? t=some i/\i.zero=some v/\v.cells.toList=z/\∀ u∈z,u.oneCell'=true:=by
 unfold Lz at h
 obtain ⟨v,hv,h⟩:=Ay.1 h
 obtain ⟨i,hi,hv⟩:=Ay.1 hv
 split at h
 .rename_i Ju
  cases h
  exact ⟨i,v,hi,hv,rfl,λu hu=>Bd.1 Ju u hu⟩
 .cases h
theorem UY{V:Nat->Option DObj}{z:List Value}(h1:∀ u∈z,u.oneCell'=true)(j:Nat)(u:Value)(d:DV)(hu:z[j]?=some u)(hd:(z.map DV.v)[j]?=some d):WV C U V β w u d/\u.oneCell'=true:=by
 simp only [Dr,hu,Ca,Ed] at hd
 subst hd
 exact ⟨WV.v u,h1 u (Aw hu)⟩
theorem GJ{T:TypeId}{z:List Value}(ho:o.op=.alloc T)(hz:Lz C.P T=some z)(hs:HoldsB C U s β a w)(hn:¬ U nid):OpOk C (Un U nid) a w o (.pt nid 0) (s.upd nid (.lay (.row T (z.map .v)))):=by
 obtain ⟨i,v,hi,hv,rfl,h1⟩:=U1 hz
 have hf:=hs.fresh hn T v.cells (v.cells.toList.map .v) w.heap.size (U5 w (.cells v.cells T)) (Ag _) (heap_alloc_new w _) (by simp) (λ_=>by simp)
  (λj u d hu hd=>UY h1 j u d (by simpa using hu) hd)
 refine ⟨.value (.pointer (some ⟨w.heap.size,0,none⟩)),_,_,_,?_,.inl rfl,hf,qH (.pt nid 0 _ (by simp)) rfl⟩
 simp [execOp,ho,Instr.alloc,zeroValue,typeInfo,hi,hv,newVar,newRow]
theorem GH{T:TypeId}{x:Operand}(ho:o.op=.box T x)(hs:HoldsB C U s β a w)(hn:¬ U nid)(hx:(s.ev x).okC=true):OpOk C (Un U nid) a w o (.pt nid 0) (s.upd nid (.lay (.row T (s.ev x).cells))):=by
 obtain ⟨hl,h1,hr⟩:=hs.cells x hx
 have hf:=hs.fresh hn T (a.eval x).cells (s.ev x).cells w.heap.size (U5 w (.cells (a.eval x).cells T)) (Ag _) (heap_alloc_new w _) (by omega) (λ_=>hl)
  (λj u d hu hd=>⟨hr j u d hu hd,h1 u (by simpa using Array.mem_of_getElem? hu)⟩)
 refine ⟨.value (.pointer (some ⟨w.heap.size,0,none⟩)),_,_,_,?_,.inl rfl,hf,qH (.pt nid 0 _ (by simp)) rfl⟩
 simp [execOp,ho,Instr.box,newVar,newRow]
theorem Bo9(xs:List Value):∀ (off i:Nat) (cells:Array Value),off+i+xs.length<=cells.size->
  ((xs.zipIdx i).foldl (λcs (c,j)=>cs.setIfInBounds (off+j) c) cells).toList=cells.toList.take (off+i)++xs++cells.toList.drop (off+i+xs.length):=by
 induction xs with
 | nil=>intro off i cells _;simp
 | cons x xs ih=>
  intro off i cells h
  simp only [List.zipIdx_cons,List.foldl_cons]
  rw [ih off (i+1) _ (by simp at h ⊢;omega)]
  have Et:off+i<cells.toList.length:=by simp at h ⊢;omega
  simp only [Ks,Ec]
  rw [show off+(i+1)=off+i+1 by omega,Ga (by simpa using Et),List.take_set_of_le (by omega),List.drop_set_of_lt (by omega)]
  simp [Pm,Wo 1]
theorem wj{W:Value->DV->Prop}(place:Nat->Option (Nat×Nat))(ρ:Operand->Value)(η:Operand->DV)(hρ:∀ x,(η x).okC=true->(ρ x).cells.size=(η x).cells.length/\(∀ u∈(ρ x).cells.toList,u.oneCell'=true)/\∀ (j:Nat) (u:Value) (e:DV),(ρ x).cells[j]?=some u->(η x).cells[j]?=some e->W u e) :
  ∀ (ps:List (Nat×Operand)) (qs:List (Nat×Nat×Operand)) (cells:Array Value) (cs:List DV) (B7:List DV),
   qs.length=ps.length->(∀ (j:Nat) (p:Nat×Operand) (q:Nat×Nat×Operand),ps[j]?=some p->qs[j]?=some q->place p.1=some (q.1,q.2.1)/\p.2=q.2.2)->
   cells.size=cs.length->(∀ u∈cells.toList,u.oneCell'=true)->(∀ (j:Nat) (u:Value) (d:DV),cells[j]?=some u->cs[j]?=some d->W u d)->
   Ho cs (qs.map λq=>(q.1,q.2.1,η q.2.2))=some B7->
   ∃ Jq,Instr.fill place cells (ps.map λp=>(p.1,ρ p.2))=some Jq/\Jq.size=B7.length/\B7.length=cs.length/\(∀ u∈Jq.toList,u.oneCell'=true)/\
    ∀ (j:Nat) (u:Value) (d:DV),Jq[j]?=some u->B7[j]?=some d->W u d
 | [],[],cells,cs,B7,_,_,hl,h1,hr,h=>by
  simp [Ho] at h
  subst h
  exact ⟨cells,by simp [Instr.fill],hl,rfl,h1,hr⟩
 | p::ps,q::qs,cells,cs,B7,hlen,qU,hl,h1,hr,h=>by
  obtain ⟨hp,Mv⟩:=qU 0 p q rfl rfl
  simp only [Am,Ho] at h
  split at h
  rotate_left
  .cases h
  rename_i hc
  obtain ⟨Ph,Hj,Px⟩:=hc
  obtain ⟨g1,g2,g3⟩:=hρ q.2.2 Ph
  have iH:=Bo9 (ρ q.2.2).cells.toList q.1 0 cells (by simp;omega)
  simp only [Lb] at iH
  have key:=wj (W:=W) place ρ η hρ ps qs ((ρ q.2.2).cells.toList.zipIdx.foldl (λcs (c,j)=>cs.setIfInBounds (q.1+j) c) cells) (cs.take q.1++(η q.2.2).cells++cs.drop (q.1+q.2.1)) B7
   (by simpa using hlen) (λj p' q' h1 h2=>qU (j+1) p' q' (by simpa using h1) (by simpa using h2)) ?_ ?_ ?_ h
  .obtain ⟨Jq,k1,k2,k3,k4,k5⟩:=key
   refine ⟨Jq,?_,k2,?_,k4,k5⟩
   .simp only [Am,Instr.fill,hp,Mv]
    rw [Ae (by simp;omega),<- k1]
    congr 1
    rw [<- Array.foldl_toList]
    simp
   .rw [k3];simp;omega
  .rw [<- Cv,iH];simp;omega
  .rw [iH]
   intro u hu
   simp only [Ax] at hu
   rcases hu with (hu | hu) | hu
   .exact h1 u (Gv hu)
   .exact g2 u hu
   .exact h1 u (Di hu)
  .intro j u d hu hd
   have Jg:(cells.toList.take q.1++(ρ q.2.2).cells.toList++cells.toList.drop (q.1+(ρ q.2.2).cells.toList.length))[j]?=some u:=by
    rw [<- iH];simpa using hu
   have O1:(ρ q.2.2).cells.toList.length=q.2.1:=by simp;omega
   rw [O1] at Jg
   rw [Bv,Ds] at Jg hd
   simp only [Bt,Cv,hl] at Jg hd
   by_cases hj:j<min q.1 cs.length
   .rw [Af hj] at Jg hd
    rw [Dx (by omega)] at Jg hd
    exact hr j u d (by simpa using Jg) hd
   .rw [Ae hj] at Jg hd
    rw [Ds] at Jg hd
    rw [O1] at Jg
    rw [Hj] at hd
    by_cases Pj:j-min q.1 cs.length<q.2.1
    .rw [Af Pj] at Jg hd
     exact g3 _ u d (by simpa using Jg) hd
    .rw [Ae Pj] at Jg hd
     rw [Jm] at Jg hd
     exact hr _ u d (by simpa using Jg) hd
 | [],_::_,_,_,_,h,_,_,_,_,_=>by simp at h
 | _::_,[],_,_,_,h,_,_,_,_,_=>by simp at h
theorem mapM_some{α β:Type}{f:α->Option β} : ∀ {l:List α} {r:List β},l.mapM f=some r->r.length=l.length/\∀ (j:Nat) (x:α) (y:β),l[j]?=some x->r[j]?=some y->f x=some y
 | [],r,h=>by simp at h;subst h;simp
 | x::l,r,h=>by
  simp only [Gx,Ge,Ay,Hd] at h
  obtain ⟨y,hy,t,ht,h⟩:=h
  cases h
  obtain ⟨h1,h2⟩:=mapM_some ht
  refine ⟨by simp [h1],λj u v hu hv=>?_⟩
  cases j with
  | zero=>simp at hu hv;subst hu hv;exact hy
  | succ j=>exact h2 j u v (by simpa using hu) (by simpa using hv)
theorem Aw8{P:Program} : ∀ (fs:List Field),(∀ f∈fs,P.cellsOf f.type≠0)->∀ (w:World),(fs.mapM (λf=>do pure (f.offset,<- sizeOf f.type):Field->Sem (Nat×Nat))).run P w=.ok (fs.map λf=>(f.offset,P.cellsOf f.type)) w
 | [],_,w=>by simp
 | f::fs,h,w=>by
  have ih:=Aw8 fs (λg hg=>h g (by simp [hg])) w
  simp only [Gx,Sem.run_bind,uW (h f (by simp)),Result.andThen_ok,Sem.run_pure,Am]
  rw [ih]
  rfl
theorem Cw9{t:TypeId}{ps:Array (Nat×Operand)}{fs:Array Field}{z:List Value}{l:List (Nat×Nat×Operand)}{cs:List DV}(ho:o.op=.build t ps)(ht:C.P.underlying t=some (.struct fs))(hz:Lz C.P t=some z)
  (Js:∀ f∈fs.toList,C.P.cellsOf f.type≠0)
  (hl:ps.toList.mapM (λp=>(fs[p.1]?).map λf=>(f.offset,C.P.cellsOf f.type,p.2))=some l) (hs:HoldsB C U s β a w)
  (hf:Ho (z.map .v) (l.map λp=>(p.1,p.2.1,s.ev p.2.2))=some cs):OpOk C U a w o (.agg cs) s:=by
 obtain ⟨i,v,hi,hv,rfl,h1⟩:=U1 hz
 obtain ⟨m1,m2⟩:=mapM_some hl
 obtain ⟨Jq,k1,k2,k3,k4,k5⟩:=wj (W:=WV C U (s.vw C) β w) ((fs.toList.map λf=>(f.offset,C.P.cellsOf f.type))[·]?) a.eval s.ev (λx hx=>hs.cells x hx) ps.toList l v.cells (v.cells.toList.map .v) cs m1
  (λj p q hp hq=>by
   have:=m2 j p q hp hq
   obtain ⟨f,hf,rfl⟩:=Ac.1 this
   simp [hf])
  (by simp) h1 (λj u d hu hd=>(UY h1 j u d (by simpa using hu) hd).1) hf
 have Fm:(fs.mapM (λf=>do pure (f.offset,<- sizeOf f.type):Field->Sem (Nat×Nat))).run C.P w=.ok (fs.toList.map λf=>(f.offset,C.P.cellsOf f.type)).toArray w:=by
  rw [Array.mapM_eq_mapM_toList]
  simp only [Sem.run_map,Aw8 fs.toList Js w,Result.andThen_ok]
 refine .same hs (x:=.agg Jq.toList.toArray) ?_ (Cw8 (by simpa using k2) k4 λj u d hu hd=>k5 j u d (by simpa using hu) hd)
 have cn:Instr.fill ((fs.toList.map λf=>(f.offset,C.P.cellsOf f.type)).toArray[·]?) v.cells (ps.map λp=>(p.1,a.eval p.2)).toList=some Jq:=by
  rw [<- k1]
  congr 1
  .funext j;simp
  .simp
 simp only [execOp,ho,Instr.build,Sem.run_bind,zeroValue,typeInfo,run_program,Result.andThen_ok,hi,hv,Sem.run_pure,run_underlying ht,Fm]
 simp only [cn]
 simp
theorem VD{α:Type}(z:List α):∀ (n j:Nat),((List.replicate n z).flatten)[j]?=if j<n*z.length then z[j % z.length]? else none
 | 0,j=>by simp
 | n+1,j=>by
  rw [Ix,List.flatten_cons,Ds,VD z n]
  by_cases hj:j<z.length
  .have h1:j<(n+1)*z.length:=by rw [Dq];omega
   rw [Af hj,Af h1,Nat.mod_eq_of_lt hj]
  .rw [Ae hj]
   have hm:(j-z.length) % z.length=j % z.length:=by
    conv=>rhs;rw [show j=(j-z.length)+z.length by omega]
    rw [Nat.add_mod_right]
   have h2:(j-z.length<n*z.length)↔(j<(n+1)*z.length):=by rw [Dq];omega
   rw [hm]
   simp only [h2]
theorem Aw9(z:Array Value)(n:Nat)(h:0<z.size):((Array.range (n*z.size)).map (z[· % z.size]!)).toList=(List.replicate n z.toList).flatten:=by
 apply Ik
 intro j
 rw [VD]
 simp only [Cv]
 by_cases hj:j<n*z.size
 .have Et:j % z.size<z.size:=Nat.mod_lt _ h
  simp [hj,Et]
 .simp [hj]
theorem yq{z:List Value}(h1:∀ u∈z,u.oneCell'=true)(n:Nat):∀ u∈(List.replicate n z).flatten,u.oneCell'=true:=by
 intro u hu
 simp only [List.mem_flatten] at hu
 obtain ⟨l,hl,hu⟩:=hu
 rw [List.mem_replicate] at hl
 exact h1 u (hl.2 ▸ hu)
theorem PU(z:List Value)(n:Nat):(List.replicate n (z.map DV.v)).flatten=((List.replicate n z).flatten).map DV.v:=by
 rw [List.map_flatten,List.map_replicate]
theorem Cx0{t e:TypeId}(hZ:Nh C.P e=false){n:Nat}{ps:Array (Nat×Operand)}{z:List Value}{cs:List DV}(ho:o.op=.buildSlice t n ps)(ht:C.P.underlying t=some (.slice e))(hz:Lz C.P e=some z)
  (hn:n*C.P.cellsOf e<=65536) (he:0<C.P.cellsOf e) (Rb:z.length=C.P.cellsOf e) (hs:HoldsB C U s β a w) (Jt:¬ U nid)
  (hf:Ho ((List.replicate n (z.map .v)).flatten) ((ps.toList.map λp=>(p.1*C.P.cellsOf e,C.P.cellsOf e,p.2)).map λp=>(p.1,p.2.1,s.ev p.2.2))=some cs) :
  OpOk C (Un U nid) a w o (.ms nid 0 n (C.P.cellsOf e)) (s.upd nid (.lay (.row e cs))):=by
 obtain ⟨i,v,hi,hv,rfl,h1⟩:=U1 hz
 have Hj:C.P.cellsOf e=i.size:=by simp [Program.cellsOf,hi]
 simp only [Hj] at hn he Rb hf
 have lG:v.cells.size=i.size:=by simpa using Rb
 have Vf:((Array.range (n*i.size)).map (v.cells[· % v.cells.size]!)).toList=(List.replicate n v.cells.toList).flatten:=by
  rw [<- lG];exact Aw9 v.cells n (by omega)
 have zK:((List.replicate n v.cells.toList).flatten).length=n*i.size:=by rw [<- Vf];simp
 obtain ⟨Jq,k1,k2,k3,k4,k5⟩:=wj (W:=WV C U (s.vw C) β w) (λj=>some (j*i.size,i.size)) a.eval s.ev (λx hx=>hs.cells x hx) ps.toList (ps.toList.map λp=>(p.1*i.size,i.size,p.2))
  ((Array.range (n*i.size)).map (v.cells[· % v.cells.size]!)) ((List.replicate n (v.cells.toList.map .v)).flatten) cs (by simp)
  (λj p q hp hq=>by
   simp only [Dr,hp,Ca,Ed] at hq
   subst hq
   exact ⟨rfl,rfl⟩)
  (by rw [PU,Bp,zK];simp)
  (by rw [Vf];exact yq h1 n)
  (λj u d hu hd=>(UY (yq h1 n) j u d (by rw [<- Vf,Dk];exact hu) (by rw [<- PU];exact hd)).1) hf
 have Tz:cs.length=n*i.size:=by rw [k3,PU,Bp,zK]
 have Cy:=hs.fresh Jt e Jq cs w.heap.size (U5 w (.cells Jq e)) (Ag _) (heap_alloc_new w _) (by omega) (λh=>by rw [hZ] at h;cases h)
  (λj u d hu hd=>⟨k5 j u d hu hd,k4 u (by simpa using Array.mem_of_getElem? hu)⟩)
 refine ⟨.value (.slice (some ⟨w.heap.size,0,none⟩) n n),_,_,_,?_,.inl rfl,Cy,qH (.ms nid 0 n _ w.heap.size n Jq e (by simp) (heap_alloc_new w _) (Ag _) ?_ ?_) rfl⟩
 .have cn:Instr.fill (λj=>some (j*i.size,i.size)) ((Array.range (n*i.size)).map (v.cells[· % v.cells.size]!)) (ps.map λp=>(p.1,a.eval p.2)).toList=some Jq:=by
   rw [<- k1];congr 1;simp
  have L9:¬ (2:Nat) ^ 24<n*i.size:=by omega
  by_cases hz0:n*i.size=0
  .have N0:n=0:=by
    rcases Nat.mul_eq_zero.1 hz0 with h | h
    .exact h
    .omega
   subst N0
   have zB:Array.range 0 = #[]:=rfl
   have L3:Instr.fill (λj=>some (j*i.size,i.size)) #[] (List.map (λx=>(x.fst,a.eval x.snd)) ps.toList)=some Jq:=by
    rw [<- k1,Nat.zero_mul,zB];simp
   simp [execOp,ho,Instr.buildSlice,run_underlying ht,sizeOf,typeInfo,hi,zB,L3,newRow]
  .simp only [execOp,ho,Instr.buildSlice,Sem.run_bind,run_underlying ht,Result.andThen_ok,sizeOf,typeInfo,zeroValue,run_program,hi,hv,Sem.run_pure,gt_iff_lt,L9,Kp,Sem.run_ite,hz0]
   simp only [cn,newRow]
   simp
 .have Gt:n<=n*i.size:=Nat.le_mul_of_pos_right n he
  simp only [maxLen];omega
 .rw [Hj];omega
theorem B58{C:Ctx}{s:DS}{nid id:Nat}{o:DObj}(j:Nat)(hj:j≠id):(s.upd nid (.wr id o)).vw C j=s.vw C j:=by
 unfold DS.vw Lc
 rw [DS.ho_upd]
 simp only [Upd.app]
 rw [rY _ _ hj]
theorem Bh0{C:Ctx}{s:DS}{nid id:Nat}{o:DObj} : (s.upd nid (.wr id o)).vw C id=some o:=by simp [DS.vw,Lc,DS.ho_upd,Upd.app]
theorem HoldsB.wrote(hs:HoldsB C U s β a w){w':World}(nid id b:Nat)(o:DObj)(hb:β id=some b)(hid:(s.ho id).isSome=true)
  (He:∀ b',b'≠b->w'.heap[b']?=w.heap[b']?)
  (Hj:w'.heap.size=w.heap.size) (oE:w'.os=w.os) (Xe:w'.tape=w.tape) (Lj:w'.output=w.output)
  (fD:SameShape w w' b)
  (fJ:(∀ x d,WV C U (s.vw C) β w x d->WV C U ((s.upd nid (.wr id o)).vw C) β w' x d)->RelO C U ((s.upd nid (.wr id o)).vw C) β w' id o) :
  HoldsB C U (s.upd nid (.wr id o)) β a w'/\∀ x d,WV C U (s.vw C) β w x d->WV C U ((s.upd nid (.wr id o)).vw C) β w' x d:=by
 have h:=hs.hh.write (V':=(s.upd nid (.wr id o)).vw C) (w':=w') id b hb (kV hid) He Hj oE Xe Lj fD (λj hj=>B58 j hj) (by rw [Bh0];rfl)
  (λo' Ns Cl=>by rw [Bh0] at Ns;cases Ns;exact fJ Cl)
 refine ⟨hs.carry rfl (λj o' hy=>?_) h,h.2.1⟩
 have h1:=hs.yd j o' hy
 rw [DS.ho_upd]
 simp only [Upd.app]
 rw [rY _ _ (λe=>by rw [<- e,h1] at hid;cases hid)]
 exact h1
theorem GG{t T:TypeId}{k:Option Nat}{x y:Operand}{id off n:Nat}{cs:List DV}(ho:o.op=.store t x y)(hk:Nb C.P t=some k)(hkn:n=k.getD 1)(hs:HoldsB C U s β a w)(hx:s.ev x=.pt id off)
  (hid:s.ho id=some (.row T cs)) (Ph:(s.ev y).okC=true) (hlen:(s.ev y).cells.length=n) (Px:off+n<=cs.length) :
  OpOk C U a w o .any (s.upd nid (.wr id (.row T (cs.take off++(s.ev y).cells++cs.drop (off+n))))):=by
 have h1:=hs.ev x
 rw [hx] at h1
 obtain ⟨b,e1,hb⟩:=iW h1
 obtain ⟨c,hw,hl,hex,hr⟩:=hs.row hb hid
 obtain ⟨g1,g2,g3⟩:=hs.cells y Ph
 have Ib:=run_storeCells_at C.P b off T (a.eval y).cells.toList 0 c w hw (by simp;omega) g2
 simp only [Lb] at Ib
 have Hj:(sizeOf t).run C.P w=.ok n w:=by
  cases k with
  | none=>rw [hkn];exact (PT hk w).2.1
  | some m=>rw [hkn];exact (yo hk w).2.1
 have RD:HoldsB C U (s.upd nid (.wr id (.row T (cs.take off++(s.ev y).cells++cs.drop (off+n))))) β a (w.setRow b (c.toList.take off++(a.eval y).cells.toList++c.toList.drop (off+(a.eval y).cells.toList.length)).toArray):=by
  refine (hs.wrote nid id b _ hb (by rw [hid];rfl) (λb' Gz=>setRow_other w b b' _ Gz) (by simp) rfl rfl rfl ?_ λCl=>?_).1
  .intro c' T' Km
   rw [hw] at Km
   cases Km
   refine ⟨_,setRow_heap w b c _ T _ hw,?_⟩
   simp;omega
  .refine .inr ⟨b,_,hb,setRow_heap w b c _ T _ hw,by simp;omega,λh=>(by have:=hex h;simp;omega),λj u d hu hd=>?_⟩
   have O1:(a.eval y).cells.toList.length=n:=by simp;omega
   have Jg:(c.toList.take off++(a.eval y).cells.toList++c.toList.drop (off+n))[j]?=some u:=by rw [<- O1];simpa using hu
   rw [Bv,Ds] at Jg hd
   simp only [Bt,Cv] at Jg hd
   rw [show min off c.size=off by omega] at Jg
   rw [show min off cs.length=off by omega] at hd
   by_cases hj:j<off
   .rw [Af hj] at Jg hd
    rw [Dx hj] at Jg hd
    have:=hr j u d (by simpa using Jg) hd
    exact ⟨Cl _ _ this.1,this.2⟩
   .rw [Ae hj] at Jg hd
    rw [Ds] at Jg hd
    rw [O1] at Jg
    rw [hlen] at hd
    by_cases Pj:j-off<n
    .rw [Af Pj] at Jg hd
     exact ⟨Cl _ _ (g3 _ u d (by simpa using Jg) hd),g2 u (Aw Jg)⟩
    .rw [Ae Pj] at Jg hd
     rw [Jm] at Jg hd
     have:=hr _ u d (by simpa using Jg) hd
     exact ⟨Cl _ _ this.1,this.2⟩
 refine ⟨.skip,_,β,undef,?_,.inr ⟨rfl,rfl⟩,RD,WV.any⟩
 have kC:(a.eval y).cells.size=n:=by omega
 simp [execOp,ho,e1,Instr.storeAt,Instr.sureAddr,storeVar,Hj,kC,Ib]
theorem Cx1{t e:TypeId}(hZ:Nh C.P e=false){x y:Operand}{z:List Value}{l c:Int}(ho:o.op=.makeSlice t x y)(ht:C.P.underlying t=some (.slice e))(hz:Lz C.P e=some z)
  (Rb:z.length=C.P.cellsOf e) (he:0<C.P.cellsOf e) (W7:C.P.bytesOf e<=65536) (hs:HoldsB C U s β a w) (Jt:¬ U nid) (hx:Ku (s.ev x)=some l) (hy:Ku (s.ev y)=some c) (h0:0<=l) (cJ:l<=c) (hc:c<=2147483648) :
  OpOk C (Un U nid) a w o (.ms nid 0 l.toNat (C.P.cellsOf e)) (s.upd nid (.lay (.row e ((List.replicate l.toNat (z.map .v)).flatten)))):=by
 obtain ⟨i,v,hi,hv,rfl,h1⟩:=U1 hz
 obtain ⟨kl,W3⟩:=E6 (hs.ev x) hx
 obtain ⟨kc,hkc⟩:=E6 (hs.ev y) hy
 have Hj:C.P.cellsOf e=i.size:=by simp [Program.cellsOf,hi]
 have P9:C.P.bytesOf e=i.bytes:=by simp [Program.bytesOf,hi]
 simp only [Hj] at he Rb
 rw [P9] at W7
 have lG:v.cells.size=i.size:=by simpa using Rb
 have Fm:=run_make (P:=C.P) w t e i v ht hi hv kl kc l c h0 cJ (by
  have h2:(i.bytes:Int)*c<=65536*2147483648:=Int.mul_le_mul (by omega) hc (by omega) (by omega)
  omega) (by omega)
 have Vf:(madeCells v.cells (c.toNat*i.size)).toList=(List.replicate c.toNat v.cells.toList).flatten:=by
  rw [<- lG];exact Aw9 v.cells c.toNat (by omega)
 have oK:(madeCells v.cells (c.toNat*i.size)).size=c.toNat*i.size:=size_madeCells _ _
 have Ul:(List.replicate l.toNat v.cells.toList).flatten=((List.replicate c.toNat v.cells.toList).flatten).take (l.toNat*i.size):=by
  apply Ik
  intro j
  rw [Cc,VD,VD]
  simp only [Cv,lG]
  by_cases hj:j<l.toNat*i.size
  .have:j<c.toNat*i.size:=Bs hj (Cz _ (by omega))
   simp [hj,this]
  .simp [hj]
 have RU:((List.replicate l.toNat v.cells.toList).flatten).length=l.toNat*i.size:=by
  rw [Ul,Bt,<- Vf,Cv,oK]
  exact Nat.min_eq_left (Cz _ (by omega))
 have Cy:=hs.fresh Jt e (madeCells v.cells (c.toNat*i.size)) ((List.replicate l.toNat (v.cells.toList.map .v)).flatten) w.heap.size (U5 w (.cells (madeCells v.cells (c.toNat*i.size)) e)) (Ag _) (heap_alloc_new w _)
  (by rw [PU,Bp,RU,oK];exact Cz _ (by omega)) (λh=>by rw [hZ] at h;cases h)
  (λj u d hu hd=>by
   rw [PU] at hd
   have Wb:j<l.toNat*i.size:=by
    have:=(Aq.1 hd).1
    rwa [Bp,RU] at this
   refine UY (yq h1 l.toNat) j u d ?_ hd
   rw [Ul,Dx Wb,<- Vf,Dk]
   exact hu)
 refine ⟨.value (.slice (some ⟨w.heap.size,0,none⟩) l.toNat c.toNat),_,_,_,?_,.inl rfl,Cy,qH (.ms nid 0 _ _ w.heap.size _ _ e (by simp) (heap_alloc_new w _) (by omega) (by simp only [maxLen];omega) ?_) rfl⟩
 .simp [execOp,ho,W3,hkc,Fm]
 .rw [oK,Hj];omega
end ops
end Go.DD

/- Each operation on deep values is what the model's operation does (fourth part: append). -/
namespace Go.DD
open Go.RowKit (Below)
section ops
variable {C:Ctx} {U:Nat->Prop} {s:DS} {β:Nat->Option Nat} {a:Act} {w:World} {o:Oper} {d:DV} {s':DS} {nid:Nat}
theorem mM{T:TypeId}{es m:Nat}{x:Operand}{news:List DV}(hs:HoldsB C U s β a w)(h:srcD s T es (s.ev x)=some (news,m)) :
  ∃ us:List Value,us.length=news.length/\(∀ u∈us,u.oneCell'=true)/\(∀ (j:Nat) (u:Value) (d:DV),us[j]?=some u->news[j]?=some d->WV C U (s.vw C) β w u d)/\
   ((∃ ad cap,a.eval x=.slice (some ad) m cap/\∀ (j:Nat) (u:Value),us[j]?=some u->w.cell? (ad.add j)=some u)\/(∃ cap,a.eval x=.slice none 0 cap/\m=0/\us=[])):=by
 have h1:=hs.ev x
 unfold srcD at h
 split at h
 .rename_i cs n hx
  cases h
  rw [hx] at h1
  rcases T4 h1 with ⟨ad,cap,e1,rfl,rfl⟩ | ⟨ad,cap,us,e1,hl,hn,ha,fV,hc,hr⟩
  .refine ⟨[],rfl,by simp,by simp,?_⟩
   cases ad with
   | none=>exact .inr ⟨cap,e1,rfl,rfl⟩
   | some ad=>exact .inl ⟨ad,cap,e1,by simp⟩
  .exact ⟨us,hl,fV,λj u d hu hd=>qI (hr j u d hu hd),.inl ⟨ad,cap,e1,hc⟩⟩
 .rename_i cap hx
  cases h
  rw [hx] at h1
  exact ⟨[],rfl,by simp,by simp,.inr ⟨cap,Eb h1,rfl,rfl⟩⟩
 .rename_i ad cap hx
  cases h
  rw [hx] at h1
  exact ⟨[],rfl,by simp,by simp,.inl ⟨ad,cap,Eb h1,by simp⟩⟩
 .rename_i id off n es' hx
  rw [hx] at h1
  split at h
  .rename_i T' cs If
   split at h
   .rename_i Px
    obtain ⟨rfl,rfl,Px⟩:=Px
    cases h
    rcases lZ h1 with ⟨e1,rfl,rfl⟩ | ⟨b,cap,c,T,e1,hb,hw,hn,hm,Ol⟩
    .exact ⟨[],by simp,by simp,by simp,.inr ⟨0,e1,rfl,rfl⟩⟩
    .obtain ⟨c',Rr,hl,_,hr⟩:=hs.row hb If
     rw [hw] at Rr
     injection Rr with Rr
     injection Rr with Qg hT
     subst hT Qg
     refine ⟨(c.toList.drop off).take (m*es'),by simp;omega,λu hu=>?_,λj u d hu hd=>?_,.inl ⟨_,cap,e1,λj u hu=>?_⟩⟩
     .obtain ⟨j,hj,rfl⟩:=Br.1 hu
      have Wb:off+j<cs.length:=by simp at hj;omega
      refine (hr (off+j) _ cs[off+j] ?_ (Aa Wb)).2
      rw [Er,Kg]
      simp
     .rw [Cc] at hu hd
      split at hu
      .rename_i hj
       rw [Af hj] at hd
       exact (hr (off+j) u d (by simpa using hu) (by simpa using hd)).1
      .cases hu
     .rw [Cc] at hu
      split at hu
      .exact AB hw j u hu
      .cases hu
   .cases h
  .cases h
 .cases h
theorem Cx2{T:TypeId}{es n:Nat}{Hr:Option Nat}{x:Operand}{cs:List DV}(P4:es=C.P.cellsOf T)(hs:HoldsB C U s β a w)(h:dstD s T es (s.ev x)=some (Hr,cs,n)) :
  ∃ xs:List Value,w.ownsRow 0 T es (a.eval x) n xs/\xs.length=cs.length/\(∀ (j:Nat) (u:Value) (d:DV),xs[j]?=some u->cs[j]?=some d->WV C U (s.vw C) β w u d/\u.oneCell'=true)/\
   (∀ b,(a.eval x).ownBlock=some b->∃ id,Hr=some id/\β id=some b)/\∀ id,Hr=some id->(s.ho id).isSome=true:=by
 have h1:=hs.ev x
 unfold dstD at h
 split at h
 .rename_i hx
  cases h
  rw [hx] at h1
  rw [Eb h1]
  exact ⟨[],World.ownsRow_nil w _ _ _,rfl,by simp,by simp [Value.ownBlock],by simp⟩
 .rename_i Vy n' es' hx
  rw [hx] at h1
  split at h
  .rename_i T' B7 If
   split at h
   .rename_i hc
    obtain ⟨rfl,aUh,hlen⟩:=hc
    cases h
    subst es'
    rcases lZ h1 with ⟨e1,_,rfl⟩ | ⟨b,cap,c,T,e1,hb,hw,hn,hm,Ol⟩
    .have kC:cs=[]:=Ef (by simpa using hlen)
     subst kC
     rw [e1]
     exact ⟨[],World.ownsRow_nil w _ _ _,rfl,by simp,by simp [Value.ownBlock],λi hi=>by cases hi;rw [If];rfl⟩
    .obtain ⟨c',Rr,hl,_,hr⟩:=hs.row hb If
     rw [hw] at Rr
     injection Rr with Rr
     injection Rr with Qg hT
     subst hT Qg
     have cJ:(c.toList.take (n*es)).length=n*es:=by simp;omega
     refine ⟨c.toList.take (n*es),⟨cJ,.inr ⟨b,cap,c,e1,Fo _,hw,hn,hm,by omega,rfl⟩⟩,by omega,λj u d hu hd=>?_,λb' Gz=>?_,λi hi=>by cases hi;rw [If];rfl⟩
     .rw [Cc] at hu
      split at hu
      .exact hr j u d (by simpa using hu) hd
      .cases hu
     .rw [e1] at Gz
      simp [Value.ownBlock] at Gz
      exact ⟨_,rfl,by rw [<- Gz];exact hb⟩
   .cases h
  .cases h
 .cases h
theorem Ap7{P:Program}(w:World)(base:Nat)(t ty e:TypeId)(i:TypeInfo)(size:Nat)(ht:P.underlying t=some (.slice e))(hi:P.info? e=some i)
  (v:Value) (n:Nat) (xs:List Value) (Xg:w.ownsRow base e size v n xs) (c:Nat):(Builtin.append_ #[t,t] ty #[v,.slice none 0 c]).run P w=.ok v w:=by
 rcases Xg.2 with ⟨rfl,rfl⟩ | ⟨g,cap,cur,rfl,_,_,jT,_⟩
 .simp [Builtin.append_,run_underlying ht,sizeOf,typeInfo,hi,Builtin.lenOf,Builtin.firstCells]
 .simp [Builtin.append_,run_underlying ht,sizeOf,typeInfo,hi,Builtin.lenOf,Builtin.firstCells,jT,storeCells]
def VW(β:Nat->Option Nat):Option Nat->Nat->Option Nat
 | none=>β
 | some i=>upd β i none
theorem Cx3{t T:TypeId}(hZ:Nh C.P T=false){c:Call}{x y:Operand}{z:List Value}{es bytes n m:Nat}{Hr:Option Nat}{cs news:List DV}(ho:o.op=.call c)(hc:c.callee=.builtin .append)(Du:c.args.toList=[x,y])(eB:c.argTypes.toList=[t,t])
  (ht:C.P.underlying t=some (.slice T)) (hz:Lz C.P T=some z) (Rb:z.length=C.P.cellsOf T) (P4:es=C.P.cellsOf T) (W7:bytes=C.P.bytesOf T) (hs:HoldsB C U s β a w) (Jt:¬ U nid) (hd:dstD s T es (s.ev x)=some (Hr,cs,n)) (qT:srcD s T es (s.ev y)=some (news,m))
  (oG:news.length=m*es) (he:0<es) (Yl:n+m<=2147483648) (aR:bytes<=65536):OpOk C (Un U nid) a w o (.ms nid 0 (n+m) es) (s.upd nid (.mv Hr (.row T (cs++news)))):=by
 obtain ⟨i,v,hi,hv,rfl,h1z⟩:=U1 hz
 have Hj:C.P.cellsOf T=i.size:=by simp [Program.cellsOf,hi]
 have P9:C.P.bytesOf T=i.bytes:=by simp [Program.bytesOf,hi]
 have hA:c.args = #[x,y]:=by apply Dj;simpa using Du
 have hT:c.argTypes = #[t,t]:=by apply Dj;simpa using eB
 obtain ⟨us,ul,u1,ur,jE⟩:=mM hs qT
 obtain ⟨xs,Xg,xl,xr,jQ,zJ⟩:=Cx2 P4 hs hd
 have V6:us.length=m*es:=by omega
 have key:∃ v' w',(Builtin.append_ #[t,t] o.type #[a.eval x,a.eval y]).run C.P w=.ok v' w'/\w'.ownsRow 0 T es v' (n+m) (xs++us)/\w.grownBy w' (a.eval x).ownBlock/\
   (v'.ownBlock=(a.eval x).ownBlock\/v'.ownBlock=some w.heap.size):=by
  rcases jE with ⟨ad,cap,e1,Nj⟩ | ⟨cap,e1,rfl,rfl⟩
  .obtain ⟨v',w',r1,r2,r3,_,r5⟩:=run_append_own_at (P:=C.P) w 0 t o.type T i v es bytes ht hi hv (by omega) (by omega) (by have h:=Rb;rw [Cv] at h;omega) he (a.eval x) n xs Xg ad m cap us V6 Nj u1
    (by simp only [maxLen];omega) (by have:=Zw Yl aR;omega) (Fo _)
   exact ⟨v',w',by rw [e1];exact r1,r2,r3,r5⟩
  .refine ⟨a.eval x,w,by rw [e1];exact Ap7 w _ t _ T i es ht hi _ _ _ Xg cap,by simpa using Xg,⟨rfl,rfl,rfl,Ag _,λ_ _ _=>rfl⟩,.inl rfl⟩
 obtain ⟨v',w',Fm,oC,hg,LU⟩:=key
 have N2:∀ b,v'.ownBlock=some b->0<=b/\b<w'.heap.size:=oC.lt
 have Gt:∀ j,Hr=some j->j≠nid:=λj hj e=>Jt (e ▸ hs.hh.used (kV (zJ j hj)))
 have cA:=hs.turned (β':=upd (VW β Hr) nid v'.ownBlock) (w':=w') Jt Hr zJ (.row T (cs++news))
  (λb hb Gt=>hg.block b hb (λe=>by obtain ⟨j,h1,h2⟩:=jQ b e.symm;exact Gt j h1 h2))
  hg.os hg.tape hg.output hg.size
  (λj hj N5=>by
   rw [Zv _ _ hj]
   cases Hr with
   | none=>rfl
   | some i=>exact Zv β _ (λe=>N5 (by rw [e])))
  (λj hj=>by
   rw [Zv _ _ (Gt j hj)]
   subst hj
   exact De _ _ _)
  (λb hb=>by
   rw [De] at hb
   refine ⟨?_,(N2 b hb).2⟩
   rcases LU with h | h
   .exact .inl (jQ b (by rw [<- h];exact hb))
   .rw [h] at hb;cases hb;exact .inr (Ag _))
  (λCl=>by
   have W3:(cs++news).length=(n+m)*es:=by
    simp only [Ao]
    have h2:=Xg.1
    rw [Dq];omega
   rcases oC.2 with ⟨e1,e2⟩ | ⟨g,cap,cur,e1,oZ,oP,jT,Zh,kC,gU⟩
   .refine .inl ⟨by rw [De,e1];rfl,Ef (by rw [W3,e2];simp)⟩
   .refine .inr ⟨g,cur,by rw [De,e1];rfl,oP,by rw [W3,kC];exact Cz _ jT,λh=>(by rw [hZ] at h;cases h),λj u d hu Ni=>?_⟩
    have hj:j<(n+m)*es:=by
     have:=(Aq.1 Ni).1
     omega
    have Jg:(xs++us)[j]?=some u:=by
     rw [<- gU,Dx hj]
     simpa using hu
    rw [Ds] at Jg Ni
    rw [xl] at Jg
    by_cases zN:j<cs.length
    .rw [Af zN] at Jg Ni
     have:=xr j u d Jg Ni
     exact ⟨Cl _ _ this.1,this.2⟩
    .rw [Ae zN] at Jg Ni
     exact ⟨Cl _ _ (ur _ u d Jg Ni),u1 u (Aw Jg)⟩)
 refine ⟨.value v',w',_,_,?_,.inl rfl,cA.1,?_⟩
 .simp [execOp,ho,resolve,hc,hA,hT,invoke,builtin,Fm]
 .refine qH ?_ rfl
  rcases oC.2 with ⟨e1,e2⟩ | ⟨g,cap,cur,e1,oZ,oP,jT,Zh,kC,gU⟩
  .rw [e1,e2];exact .ms0 nid es
  .have h2:upd (VW β Hr) nid v'.ownBlock nid=some g:=by rw [De,e1];rfl
   rw [e1] at h2 ⊢
   exact .ms nid 0 _ es g cap cur T h2 oP jT Zh (by rw [kC];omega)
theorem Au5{P:Program}(w:World)(t t' ty e:TypeId)(i:TypeInfo)(z:Value)(ht:P.underlying t=some (.slice e)){k':IntKind}(Wi:P.underlying t'=some (.int k'))(hi:P.info? e=some i)(hz:i.zero=some z)(kk:IntKind)(k:Int)(h0:0<k)(h63:k<=2147483648)(W7:i.bytes<=65536)(Hj:0<i.size) :
  (Builtin.append_ #[t,t'] ty #[.slice none 0 0,.int kk k]).run P w =
   .ok (.slice (some ⟨w.heap.size,0,none⟩) k.toNat (grownCap w k.toNat 0 e)) (w.drew.alloc (.cells (Builtin.zeroCells z.cells k.toNat++Builtin.zeroCells z.cells (grownCap w k.toNat 0 e-k.toNat)) e)):=by
 have hw:IntKind.i64.wrap k=k:=by rw [IntKind.wrap_i64];omega
 have hn:k.toNat≠0:=by omega
 have Fa:¬ (k<0):=by omega
 have h1:(k:Int)*(i.bytes:Int)<=2147483648*65536:=Int.mul_le_mul h63 (by omega) (by omega) (by omega)
 have nf:¬ (281474976710656<k*(i.bytes:Int)):=by omega
 have h2:k.toNat*i.bytes<=2147483648*65536:=Zw (by omega) W7
 have nb:¬ (281474976710656<Builtin.nextslicecap k.toNat 0*i.bytes):=by rw [nextslicecap_zero (by omega)];omega
 have aVn:¬ (9223372036854775807<((k.toNat:Nat):Int)):=by omega
 have Hy:¬ (k<=0):=by omega
 have Fl:¬ (9223372036854775807<max k 0):=by omega
 have tM:k.toNat*i.size≠0:=Nat.mul_ne_zero hn (by omega)
 simp [Builtin.append_,run_underlying ht,run_underlying Wi,sizeOf,typeInfo,zeroValue,hi,hz,hw,Fa,Hy,Fl,nf,nb,tM,Question.forced,run_firstCells_none,newRow,grownCap,asInt,asIntOf]
theorem Cx4{t t' T:TypeId}(hZ:Nh C.P T=false){c:Call}{x y:Operand}{z:List Value}{es bytes:Nat}{k:Int}{k':IntKind}(ho:o.op=.call c)(hc:c.callee=.builtin .append)(Du:c.args.toList=[x,y])(eB:c.argTypes.toList=[t,t'])
  (ht:C.P.underlying t=some (.slice T)) (Wi:C.P.underlying t'=some (.int k')) (hz:Lz C.P T=some z) (Rb:z.length=C.P.cellsOf T) (P4:es=C.P.cellsOf T) (W7:bytes=C.P.bytesOf T) (hs:HoldsB C U s β a w) (Jt:¬ U nid) (hd:s.ev x=.v (.slice none 0 0)) (hk:Ku (s.ev y)=some k)
  (h0:0<k) (Yl:k<=2147483648) (aR:bytes<=65536) (he:0<es):OpOk C (Un U nid) a w o (.ms nid 0 k.toNat es) (s.upd nid (.lay (.row T []))):=by
 obtain ⟨i,v,hi,hv,rfl,h1z⟩:=U1 hz
 obtain ⟨kk,hkk⟩:=E6 (hs.ev y) hk
 have Hj:C.P.cellsOf T=i.size:=by simp [Program.cellsOf,hi]
 have P9:C.P.bytesOf T=i.bytes:=by simp [Program.bytesOf,hi]
 have hA:c.args = #[x,y]:=by apply Dj;simpa using Du
 have hT:c.argTypes = #[t,t']:=by apply Dj;simpa using eB
 have hx:a.eval x=.slice none 0 0:=by have:=hs.ev x;rw [hd] at this;exact Eb this
 have lG:v.cells.size=i.size:=by rw [Hj] at Rb;simpa using Rb
 have Fm:=Au5 (P:=C.P) w t t' o.type T i v ht Wi hi hv kk k h0 Yl (by omega) (by omega)
 have Xj:=grownCap_ge w k.toNat 0 T
 have Zh:grownCap w k.toNat 0 T<=maxLen:=grownCap_le_maxLen w k.toNat 0 T (by simp only [maxLen];omega)
 generalize Ol:grownCap w k.toNat 0 T=cap at Fm Xj Zh
 have Cy:=hs.fresh Jt T (Builtin.zeroCells v.cells k.toNat++Builtin.zeroCells v.cells (cap-k.toNat)) [] w.heap.size (w':=w.drew.alloc (.cells (Builtin.zeroCells v.cells k.toNat++Builtin.zeroCells v.cells (cap-k.toNat)) T)) ⟨rfl,rfl,rfl,by simp,λk hk=>heap_alloc_old w.drew _ k hk⟩ (Ag _) (heap_alloc_new w.drew _) (Fo _) (λh=>by rw [hZ] at h;cases h) (λj u d hu hd=>by simp at hd)
 refine ⟨.value (.slice (some ⟨w.heap.size,0,none⟩) k.toNat cap),_,_,_,?_,.inl rfl,Cy,qH (.ms nid 0 _ _ w.heap.size _ _ T (by simp) (heap_alloc_new w.drew _) Xj Zh ?_) rfl⟩
 .simp [execOp,ho,resolve,hc,hA,hT,invoke,builtin,hx,hkk,Fm]
 .simp only [Array.size_append,size_zeroCells,lG,P4,Hj,<- Dq]
  rw [Df]
  congr 1
  omega
theorem Ap8{P:Program}(w:World)(t ty e:TypeId)(i:TypeInfo)(ht:P.underlying t=some (.slice e))(hi:P.info? e=some i)
  (g off eT H6:Nat) (cur:Array Value) (hg:w.heap[g]?=some (.cells cur e (0,0)))
  (a:Addr) (m c:Nat) (news:List Value) (hl:news.length=m*i.size) (JU:∀ j u,news[j]?=some u->w.cell? (a.add j)=some u) (h1:∀ u∈news,u.oneCell'=true)
  (cD:eT+m<=H6) (Px:off+eT*i.size+news.length<=cur.size) :
  (Builtin.append_ #[t,t] ty #[.slice (some ⟨g,off,none⟩) eT H6,.slice (some a) m c]).run P w =
   .ok (.slice (some ⟨g,off,none⟩) (eT+m) H6) (w.setRow g (cur.toList.take (off+eT*i.size)++news++cur.toList.drop (off+eT*i.size+news.length)).toArray):=by
 have hf:=run_firstCells_some (P:=P) w i.size m a m c news hl JU
 have Ib:=run_storeCells_at P g (off+eT*i.size) e news 0 cur w hg (by simpa using Px) h1
 simp only [Lb] at Ib
 simp [Builtin.append_,run_underlying ht,sizeOf,typeInfo,hi,Builtin.lenOf,cD,hf,Addr.add_lit,Ib]
theorem Cx5{t T:TypeId}(hZ:Nh C.P T=false){c:Call}{x y:Operand}{z:List Value}{es bytes:Nat}{l:List (DV×Upd)}(ho:o.op=.call c)(hc:c.callee=.builtin .append)(Du:c.args.toList=[x,y])(eB:c.argTypes.toList=[t,t])
  (ht:C.P.underlying t=some (.slice T)) (hz:Lz C.P T=some z) (Rb:z.length=C.P.cellsOf T) (P4:es=C.P.cellsOf T) (W7:bytes=C.P.bytesOf T) (hs:HoldsB C U s β a w) (Jt:¬ U nid) (h:To nid s (.app T es bytes x y)=some l) :
  ∃ p∈l,OpOk C (Un U nid) a w o p.1 (s.upd nid p.2):=by
 obtain ⟨i,v,hi,hv,rfl,h1z⟩:=U1 hz
 have Hj:C.P.cellsOf T=i.size:=by simp [Program.cellsOf,hi]
 have P9:C.P.bytesOf T=i.bytes:=by simp [Program.bytesOf,hi]
 have hA:c.args = #[x,y]:=by apply Dj;simpa using Du
 have hT:c.argTypes = #[t,t]:=by apply Dj;simpa using eB
 have lG:v.cells.size=i.size:=by rw [Hj] at Rb;simpa using Rb
 simp only [To] at h
 split at h
 rotate_left
 .cases h
 rename_i id off n es' news m hx qT
 split at h
 rotate_left
 .cases h
 rename_i T' cs If
 split at h
 rotate_left
 .cases h
 rename_i hh
 obtain ⟨hT',Ni,M6,hlen,oG,hm,he,Yl,aR⟩:=hh
 subst T' es'
 cases h
 obtain ⟨us,ul,u1,ur,jE⟩:=mM hs qT
 have V6:us.length=m*es:=by omega
 have h1:=hs.ev x
 rw [hx] at h1
 rcases lZ h1 with ⟨_,h0,_⟩ | ⟨b,cap,cc,T,e1,hb,hw,hn,Zh,Ol⟩
 .exact absurd h0 M6
 obtain ⟨c',Rr,cJ,_,hr⟩:=hs.row hb If
 rw [hw] at Rr
 injection Rr with Rr
 injection Rr with Qg iM
 subst iM Qg
 obtain ⟨ad,NO,e2,Nj⟩:∃ ad cap,a.eval y=.slice (some ad) m cap/\∀ (j:Nat) (u:Value),us[j]?=some u->w.cell? (ad.add j)=some u:=by
  rcases jE with h | ⟨_,_,h,_⟩
  .exact h
  .omega
 have Mb:b<w.heap.size:=(Bu.1 hw).1
 have Gt:id≠nid:=λe=>Jt (e ▸ hs.hh.used (kV (by rw [If];rfl)))
 have zE:∀ i,some id=some i->(s.ho i).isSome=true:=λi hi=>by cases hi;rw [If];rfl
 have tU:es=i.size:=by omega
 subst tU
 by_cases cD:n+m<=cap
 .have Px:off+n*i.size+us.length<=cc.size:=by
   rw [V6,<- Ol,Pm,<- Dq]
   exact Nat.add_le_add_left (Cz _ cD) _
  have Fm:=Ap8 (P:=C.P) w t o.type T i ht hi b off n cap cc hw ad m NO us V6 Nj u1 cD Px
  generalize hrw:(cc.toList.take (off+n*i.size)++us++cc.toList.drop (off+n*i.size+us.length)).toArray=row at Fm
  have Zb:(w.setRow b row).heap[b]?=some (.cells row T (0,0)):=setRow_heap w b cc _ T _ hw
  have yY:row.size=cc.size:=by
   rw [<- hrw]
   simp only [Nl,Ao,Bt,Ck,Cv]
   omega
  have cA:=hs.turned (β':=upd (VW β (some id)) nid (some b)) (w':=w.setRow b row) Jt (some id) zE (.row T (cs++news))
   (λb' _ Gz=>setRow_other w b b' _ (λe=>Gz id rfl (by rw [e];exact hb)))
   rfl rfl rfl (by simp)
   (λj hj N5=>by rw [Zv _ _ hj];exact Zv β _ (λe=>N5 (by rw [e])))
   (λj hj=>by cases hj;rw [Zv _ _ Gt];exact De _ _ _)
   (λb' Gz=>by rw [De] at Gz;cases Gz;exact ⟨.inl ⟨id,rfl,hb⟩,by simpa using Mb⟩)
   (λCl=>.inr ⟨b,row,by rw [De],Zb,by rw [yY,Ao];omega,λh=>(by rw [hZ] at h;cases h),λj u d hu hd=>by
    rw [<- hrw] at hu
    simp only [Ou,Bv] at hu
    rw [Ds] at hu hd
    have Et:(cc.toList.take (off+n*i.size)).length=cs.length:=by rw [Bt,Cv];omega
    rw [Et] at hu
    by_cases hj:j<cs.length
    .rw [Af hj] at hu hd
     rw [Cc] at hu
     split at hu
     .have:=hr j u d (by simpa using hu) hd
      exact ⟨Cl _ _ this.1,this.2⟩
     .cases hu
    .rw [Ae hj] at hu hd
     have Pj:j-cs.length<us.length:=by have:=(Aq.1 hd).1;omega
     rw [Ci Pj] at hu
     exact ⟨Cl _ _ (ur _ u d hu hd),u1 u (Aw hu)⟩⟩)
  refine ⟨_,Bh _ (Aj.2 rfl),.value (.slice (some ⟨b,off,none⟩) (n+m) cap),_,_,_,?_,.inl rfl,cA.1,?_⟩
  .simp [execOp,ho,resolve,hc,hA,hT,invoke,builtin,e1,e2,Fm]
  .exact qH (.ms nid off (n+m) _ b cap row T (De _ _ _) Zb cD Zh (by rw [yY,Ol])) rfl
 .have Gi:((cc.toList.drop off).take (n*i.size)).length=n*i.size:=by
   simp only [Bt,Ck,Cv];omega
  obtain ⟨v',w',Fm,Xg,hg⟩:=run_append_arg_grows (P:=C.P) w t o.type T i v i.size bytes ht hi hv (by omega) (by omega) (by omega) he ⟨b,off,none⟩ n cap ((cc.toList.drop off).take (n*i.size)) Gi
   (λj u hu=>by
    rw [Addr.add_lit,cell_of_row w b (off+j) cc T (0,0) hw]
    rw [Cc] at hu
    split at hu
    .rw [Jm] at hu;simpa using hu
    .cases hu) ad m NO us V6 Nj (by omega) (by simp only [maxLen];omega) (by have:=Zw Yl aR;omega)
  rcases Xg.2 with ⟨_,h2⟩ | ⟨g,sx,cur,e3,oZ,oP,jT,lq,LK,gU⟩
  .omega
  have SA:g<w'.heap.size:=(Bu.1 oP).1
  have cA:=hs.turned (β':=upd (VW β (some id)) nid (some g)) (w':=w') Jt (some id) zE (.row T (cs.drop off++news))
   (λb' Gz _=>hg.block b' Gz (by simp))
   hg.os hg.tape hg.output hg.size
   (λj hj N5=>by rw [Zv _ _ hj];exact Zv β _ (λe=>N5 (by rw [e])))
   (λj hj=>by cases hj;rw [Zv _ _ Gt];exact De _ _ _)
   (λb' Gz=>by rw [De] at Gz;cases Gz;exact ⟨.inr oZ,SA⟩)
   (λCl=>.inr ⟨g,cur,by rw [De],oP,(by
    rw [LK,Ao,Ck,oG]
    have:cs.length-off=n*i.size:=by omega
    rw [this,<- Dq]
    exact Cz _ jT),λh=>(by rw [hZ] at h;cases h),λj u d hu hd=>by
    have hj:j<(n+m)*i.size:=by
     have:=(Aq.1 hd).1
     rw [Ao,Ck,oG] at this
     rw [Dq];omega
    have Jg:((cc.toList.drop off).take (n*i.size)++us)[j]?=some u:=by
     rw [<- gU,Dx hj]
     simpa using hu
    rw [Ds] at Jg hd
    rw [Gi] at Jg
    have tW:(cs.drop off).length=n*i.size:=by rw [Ck];omega
    rw [tW] at hd
    by_cases zN:j<n*i.size
    .rw [Af zN] at Jg hd
     rw [Dx zN,Jm] at Jg
     rw [Jm] at hd
     have:=hr _ u d (by simpa using Jg) hd
     exact ⟨Cl _ _ this.1,this.2⟩
    .rw [Ae zN] at Jg hd
     exact ⟨Cl _ _ (ur _ u d Jg hd),u1 u (Aw Jg)⟩⟩)
  refine ⟨_,Ct,.value v',_,_,_,?_,.inl rfl,cA.1,?_⟩
  .simp [execOp,ho,resolve,hc,hA,hT,invoke,builtin,e1,e2,Fm]
  .rw [e3]
   exact qH (.ms nid 0 (n+m) i.size g sx cur T (De _ _ _) oP jT lq (by rw [LK];omega)) rfl
end ops
end Go.DD

/- Maps among the own objects: made, read, written, counted. Keys: bools, integers, strings. -/
namespace Go.DD
open Go.RowKit (Below)
theorem Bs9{d:TypeDesc}{v:Value}(h:QB d v=true):MapKept.IsKey d v:=by
 cases d <;> cases v <;> simp_all [QB,MapKept.IsKey]
theorem bytes_beq(a b:ByteArray):(a==b)=(a.data.toList==b.data.toList):=by
 obtain ⟨x⟩:=a
 obtain ⟨y⟩:=b
 show (x==y)=(x.toList==y.toList)
 rw [Bool.eq_iff_iff]
 simp only [Gp]
 exact ⟨λh=>by rw [h],λh=>Jb.1 h⟩
theorem zs(d:TypeDesc)(k x:Value):Wx d k x=Instr.sameNow d k x:=by
 cases d <;> cases k <;> cases x <;> simp [Wx,Instr.sameNow,bytes_beq]
theorem B59{kd:TypeDesc}{k x:Value}(h:Wx kd k x=some true):x=k:=by
 unfold Wx at h
 split at h
 .split at h
  .rename_i e;subst e;simp at h;rw [h]
  .cases h
 .simp only [Ed,Gp] at h
  congr 1
  rename_i x y
  obtain ⟨x⟩:=x
  obtain ⟨y⟩:=y
  simp only at h
  rw [Jb.1 h]
 .simp at h;rw [h]
 .cases h
theorem Bt0{kd:TypeDesc}{k:Value}(h:QB kd k=true):Instr.sameBits 10000 k k=true:=by
 unfold QB at h
 split at h
 .simp [Instr.sameBits]
 .simp [Instr.sameBits]
 .rw [Instr.sameBits,bytes_beq];simp
 .cases h
theorem bytes_inj{a b:ByteArray}(h:(a.toList==b.toList)=true):a=b:=by
 have e:a.toList=b.toList:=by simpa using h
 rw [ByteArray.toList_eq,ByteArray.toList_eq] at e
 obtain ⟨a⟩:=a
 obtain ⟨b⟩:=b
 congr 1
 exact Jb.1 e
theorem Bt1{ks:List Nat}{a b:Value}{r:Bool}(h:Oa (.f ks) a b=some r):∃ xs ys:Array Value,a=.agg xs/\b=.agg ys/\Ri ks (xs.toList.map .v) (ys.toList.map .v)=some r:=by
 cases a <;> cases b <;> simp only [Oa] at h <;> first | (cases h;done) | exact ⟨_,_,rfl,rfl,h⟩
theorem Bh1{ks:List Nat}{a:Value}(h:iX (.f ks) a=true):∃ xs:Array Value,a=.agg xs/\Hp ks xs.toList=true:=by
 cases a <;> simp only [iX] at h <;> first | (cases h;done) | exact ⟨_,rfl,h⟩
theorem B60{k:Nat}{x y:Value}(h:fX k (.v x) (.v y)=some true):x=y:=by
 match k with
 | 0=>
  cases x <;> cases y <;> simp only [fX] at h <;> first | (cases h;done) | skip
  split at h
  .rename_i hk;subst hk;simp at h;rw [h]
  .cases h
 | 1=>cases x <;> cases y <;> simp only [fX] at h <;> first | (cases h;done) | (have:=(Hc h);simp at this;rw [this])
 | 2=>cases x <;> cases y <;> simp only [fX] at h <;> first | (cases h;done) | exact congrArg Value.string (bytes_inj (by simpa using h))
 | k+3=>cases x <;> cases y <;> simp [fX] at h
theorem Bh2:∀ {ks:List Nat} {xs ys:List Value},Ri ks (xs.map .v) (ys.map .v)=some true->xs=ys
 | [],[],[],_=>rfl
 | k::ks,x::xs,y::ys,h=>by
  simp only [Am,Ri] at h
  split at h
  .rename_i hc;rw [B60 hc,Bh2 h]
  .cases h
  .cases h
 | [],_::_,_,h=>by simp [Ri] at h
 | [],[],_::_,h=>by simp [Ri] at h
 | _::_,[],_,h=>by simp [Ri] at h
 | _::_,_::_,[],h=>by simp [Ri] at h
structure KLaw (P:Program) (kt:TypeId) (kd:KD):Prop where
 chk:∀ (w:World) (e:Bool) (kv:Value),iX kd kv=true->(Instr.checkKey e 10000 kt kv).run P w=.ok () w
 one:∀ (kv x:Value),Oa kd kv x=some true->x=kv
 bits:∀ kv,iX kd kv=true->Instr.sameBits 10000 kv kv=true
 find:∀ (w:World) (kv:Value) (ms:List MapEntry) (es:List ME) (i:Nat) (r:Option (Nat×ME)),ms.length=es.length->(∀ (j:Nat) (e:MapEntry) (p:ME),ms[j]?=some e->es[j]?=some p->e.key=p.k)->findD kd kv es i=some r->
  (r=none/\∀ f,i=0->f=ms->(Instr.findKey kt kv f).run P w=.ok none w)\/∃ j e p,r=some (i+j,p)/\ms[j]?=some e/\es[j]?=some p/\(∀ f,i=0->f=ms->(Instr.findKey kt kv f).run P w=.ok (some (i+j,e.val)) w)/\Oa kd kv e.key=some true
theorem Bh3{d:TypeDesc}{k:Value} : ∀ (ms:List MapEntry) (es:List ME) (i:Nat) (r:Option (Nat×ME)),ms.length=es.length->(∀ (j:Nat) (e:MapEntry) (p:ME),ms[j]?=some e->es[j]?=some p->e.key=p.k)->
  findD (.p d) k es i=some r->(r=none/\Instr.findNow d k ms i=some none)\/
   ∃ j e p,r=some (i+j,p)/\ms[j]?=some e/\es[j]?=some p/\Instr.findNow d k ms i=some (some (i+j,e.val))/\Wx d k e.key=some true
 | [],[],i,r,_,_,h=>by simp [findD] at h;subst h;exact .inl ⟨rfl,rfl⟩
 | [],_::_,_,_,h,_,_=>by simp at h
 | _::_,[],_,_,h,_,_=>by simp at h
 | m::ms,p::ps,i,r,hl,hk,h=>by
  have Ke:m.key=p.k:=hk 0 m p rfl rfl
  simp only [findD,Oa] at h
  split at h
  .rename_i hs
   cases h
   refine .inr ⟨0,m,p,rfl,rfl,rfl,?_,by rw [Ke];exact hs⟩
   simp [Instr.findNow,<- zs,Ke,hs]
  .rename_i hs
   rcases Bh3 ms ps (i+1) r (by simpa using hl) (λj e q he hq=>hk (j+1) e q (by simpa using he) (by simpa using hq)) h with ⟨h1,h2⟩ | ⟨j,e,v,h1,h2,h3,h4,h5⟩
   .refine .inl ⟨h1,?_⟩
    simp [Instr.findNow,<- zs,Ke,hs,h2]
   .refine .inr ⟨j+1,e,v,by rw [h1];congr 2;omega,by simpa using h2,by simpa using h3,?_,h5⟩
    simp [Instr.findNow,<- zs,Ke,hs,h4];omega
  .cases h
theorem Cx6{P:Program}{kt:TypeId}{d:TypeDesc}(hu:P.underlying kt=some d):KLaw P kt (.p d) where
 chk:=λw e kv h=>MapKept.run_checkKey hu (Bs9 h) e 9999
 one:=λkv x h=>B59 h
 bits:=λkv h=>Bt0 h
 find:=λw kv ms es i r hl hk h=>by
  rcases Bh3 ms es i r hl hk h with ⟨h1,h2⟩ | ⟨j,e,p,h1,h2,h3,h4,h5⟩
  .exact .inl ⟨h1,λf hi hf=>by subst hi hf;exact MapKept.run_findKey hu h2⟩
  .exact .inr ⟨j,e,p,h1,h2,h3,λf hi hf=>by subst hi hf;exact MapKept.run_findKey hu h4,h5⟩
theorem Cc9{P:Program}{kt:TypeId}{ks:List Nat}(gR:(match P.underlying kt with | some (.array _ _) | some (.struct _)=>true | _=>false)=true)
  (lr:∀ (w:World) (e:Bool) (cs:Array Value),Hp ks cs.toList=true->(Instr.checkKey e 10000 kt (.agg cs)).run P w=.ok () w)
  (heq:∀ (w:World) (xs ys:Array Value) (r:Bool),Ri ks (xs.toList.map .v) (ys.toList.map .v)=some r->(Op.equal kt (.agg xs) (.agg ys)).run P w=.ok r w):KLaw P kt (.f ks) where
 chk:=λw e kv h=>by
  obtain ⟨cs,rfl,h⟩:=Bh1 h
  exact lr w e _ h
 one:=λkv x h=>by
  obtain ⟨xs,ys,rfl,rfl,h⟩:=Bt1 h
  have:=Bh2 h
  rw [Jb.1 this]
 bits:=λkv h=>by
  obtain ⟨cs,rfl,h⟩:=Bh1 h
  .have key:∀ (ks:List Nat) (l:List Value),Hp ks l=true->∀ p∈l.zip l,(Instr.sameBits 9999 p.1 p.2)=true:=by
    intro ks l
    induction l generalizing ks with
    | nil=>simp
    | cons a l ih=>
     intro h p hp
     simp only [List.zip_cons_cons,Ap] at hp
     unfold Hp at h
     split at h
     .rename_i e;cases e
     .rename_i e;cases e
      rcases hp with rfl | hp
      .simp [Instr.sameBits]
      .exact ih _ h p hp
     .rename_i e;cases e
      rcases hp with rfl | hp
      .simp [Instr.sameBits]
      .exact ih _ h p hp
     .rename_i e;cases e
      rcases hp with rfl | hp
      .rw [Instr.sameBits,bytes_beq];simp
      .exact ih _ h p hp
     .cases h
   show Instr.sameBits (9999+1) (.agg cs) (.agg cs)=true
   simp only [Instr.sameBits,Ox,Im,Bd]
   exact key ks cs.toList h
 find:=λw kv ms es i r hl hk h=>by
  have key:∀ (ms:List MapEntry) (es:List ME) (i:Nat) (r:Option (Nat×ME)),ms.length=es.length->(∀ (j:Nat) (e:MapEntry) (p:ME),ms[j]?=some e->es[j]?=some p->e.key=p.k)->findD (.f ks) kv es i=some r->
    (r=none/\(Instr.findAsking kt kv ms i).run P w=.ok none w)\/∃ j e p,r=some (i+j,p)/\ms[j]?=some e/\es[j]?=some p/\(Instr.findAsking kt kv ms i).run P w=.ok (some (i+j,e.val)) w/\Oa (.f ks) kv e.key=some true:=by
   intro ms
   induction ms with
   | nil=>
    intro es i r hl _ h
    cases es with
    | nil=>simp [findD] at h;subst h;exact .inl ⟨rfl,by simp [Instr.findAsking]⟩
    | cons _ _=>simp at hl
   | cons m ms ih=>
    intro es i r hl hk h
    cases es with
    | nil=>simp at hl
    | cons p ps=>
     have Ke:m.key=p.k:=hk 0 m p rfl rfl
     have Fm:∀ b,Oa (.f ks) kv p.k=some b->(Op.equal kt kv m.key).run P w=.ok b w:=by
      intro b hb
      rw [Ke]
      obtain ⟨xs,ys,e1,e2,hb⟩:=Bt1 hb
      rw [e1,e2]
      exact heq w _ _ b hb
     simp only [findD] at h
     split at h
     .rename_i hs
      cases h
      refine .inr ⟨0,m,p,rfl,rfl,rfl,?_,by rw [Ke];exact hs⟩
      simp [Instr.findAsking,Fm _ hs]
     .rename_i hs
      rcases ih ps (i+1) r (by simpa using hl) (λj e q he hq=>hk (j+1) e q (by simpa using he) (by simpa using hq)) h with ⟨h1,h2⟩ | ⟨j,e,v,h1,h2,h3,h4,h5⟩
      .exact .inl ⟨h1,by simp [Instr.findAsking,Fm _ hs,h2]⟩
      .refine .inr ⟨j+1,e,v,by rw [h1];congr 2;omega,by simpa using h2,by simpa using h3,?_,h5⟩
       simp [Instr.findAsking,Fm _ hs,h4];omega
     .cases h
  rcases key ms es i r hl hk h with ⟨h1,h2⟩ | ⟨j,e,p,h1,h2,h3,h4,h5⟩
  .exact .inl ⟨h1,λf hi hf=>by subst hi hf;rw [run_findKey_eq w gR];exact h2⟩
  .exact .inr ⟨j,e,p,h1,h2,h3,λf hi hf=>by subst hi hf;rw [run_findKey_eq w gR];exact h4,h5⟩
theorem Ap9{P:Program}{w:World}{t:TypeId}{k:Nat}{v:Value}(h:rR P t=some k)(e:Bool)(n:Nat)(hv:Hp [k] [v]=true):(Instr.checkKey e (n+1) t v).run P w=.ok () w:=by
 unfold rR at h
 unfold Instr.checkKey
 split at h <;> first | (cases h;done) | skip
 all_goals
  rename_i hu
  simp only [Sem.run_bind,run_underlying hu,Result.andThen_ok]
  cases h
  cases v <;> first | (simp [Hp] at hv;done) | rfl
theorem Ax0{k:Nat}{ks:List Nat}{l:List Value}(h:Hp (k::ks) l=true):∃ v l',l=v::l'/\Hp [k] [v]=true/\Hp ks l'=true:=by
 cases l with
 | nil=>unfold Hp at h;simp at h
 | cons v l=>
  refine ⟨v,l,rfl,?_⟩
  match k with
  | 0=>cases v <;> simp_all [Hp]
  | 1=>cases v <;> simp_all [Hp]
  | 2=>cases v <;> simp_all [Hp]
  | k+3=>cases v <;> simp [Hp] at h
theorem A86{P:Program}{t:TypeId}{k:Nat}(h:rR P t=some k)(w:World):(isAgg t).run P w=.ok false w:=by
 unfold rR at h
 simp only [isAgg,Sem.run_bind]
 split at h <;> first | (rename_i hu;rw [run_underlying hu];rfl) | cases h
theorem A38{P:Program}{w:World}{t:TypeId}{k:Nat}{x y:Value}{b:Bool}(hp:rR P t=some k)(h:fX k (.v x) (.v y)=some b)(d:Nat):(Op.equalIn (d+1) t x y).run P w=.ok b w:=by
 unfold rR at hp
 unfold fX at h
 split at h
 .rename_i e1 e2;cases e1;cases e2
  split at h
  .cases h
   rename_i hk
   subst hk
   split at hp <;> cases hp
   rename_i hu;exact run_equalIn_int w d _ _ _ _ _ hu
  .cases h
 .rename_i e1 e2;cases e1;cases e2
  cases h
  split at hp <;> cases hp
  rename_i hu;exact run_equalIn_bool' w d _ _ _ hu
 .rename_i e1 e2;cases e1;cases e2
  cases h
  split at hp <;> cases hp
  rename_i hu;exact run_equalIn_string w d _ _ _ hu
 .cases h
theorem K8{P:Program}{kt:TypeId}{kd:KD}(h:Vd P kt=some kd):KLaw P kt kd:=by
 unfold Vd at h
 split at h
 .rename_i fs hu
  split at h
  rotate_left
  .cases h
  rename_i Ib
  obtain ⟨ks,hf,rfl⟩:=Ac.1 h
  refine Cc9 (by rw [hu]) (λw e cs hc=>?_) (λw xs ys r hr=>?_)
  .show (Instr.checkKey e (9999+1) kt (.agg cs)).run P w=.ok () w
   rw [Instr.checkKey]
   simp only [Sem.run_bind,run_underlying hu,Result.andThen_ok]
   rw [<- Array.forIn_toList]
   have key:∀ (L:List Field) (ks:List Nat) (off:Nat),qJ P off L=some ks->Hp ks (cs.toList.drop off)=true->
     (forIn L PUnit.unit (λ(f:Field) (_:PUnit)=>(do
      if f.name ≠ "_" then
       Instr.checkKey e 9999 f.type (<- part f.type cs f.offset)
       pure (ForInStep.yield PUnit.unit)
      else pure (ForInStep.yield PUnit.unit):Sem (ForInStep PUnit)))).run P w=.ok PUnit.unit w:=by
    intro L
    induction L with
    | nil=>intro ks off _ _;simp
    | cons f L ih=>
     intro ks off hk hc
     simp only [qJ] at hk
     split at hk
     rotate_left
     .cases hk
     rename_i qX
     simp only [Bo,bne_iff_ne,ne_eq,Gp] at qX
     obtain ⟨hn,ho⟩:=qX
     obtain ⟨k,hp,hk⟩:=Ay.1 hk
     obtain ⟨cg,Zc,rfl⟩:=Ac.1 hk
     obtain ⟨v,l',e1,hv,hl⟩:=Ax0 hc
     have Et:off<cs.toList.length:=by
      rcases Cr off cs.toList.length with h1 | h1
      .exact h1
      .rw [Bc h1] at e1;cases e1
     rw [Bb Et] at e1
     injection e1 with e1 e2
     have px:(part f.type cs f.offset).run P w=.ok v w:=by
      subst ho
      simp at e1 Et
      simp [part,A86 hp w,Et,e1]
     have pc:=Ap9 (w:=w) hp e 9998 hv
     rw [<- e2] at hl
     simp only [List.forIn_cons,Sem.run_bind,hn,ne_eq,Tt,Gl,Result.andThen_ok,px,pc,Sem.run_pure]
     exact ih cg (off+1) Zc hl
   have:=key fs.toList ks 0 hf (by simpa using hc)
   rw [this];rfl
  .have iF:P.fieldsOf kt=fs:=by simp [Program.fieldsOf,hu]
   have he:=vb (w:=w) (β:=λ_=>none) (P:=P) (al:=λ_=>True) 9998 fs.toList ks 0 xs.toList ys.toList (xs.toList.map .v) (ys.toList.map .v) r hf (by simpa using hr) (by simp) (by simp)
    (λj u d hu hd=>by simp only [Dr,hu,Ca,Ed] at hd;subst hd;exact .imm _ _ (.v u)) (λj u d hu hd=>by simp only [Dr,hu,Ca,Ed] at hd;subst hd;exact .imm _ _ (.v u))
   have h3:=run_equalIn_struct (P:=P) w 9999 kt xs ys (by rw [iF];exact hu) Ib
   rw [iF] at h3
   exact h3.trans (by simpa using he)
 .rename_i n el hu
  split at h
  rotate_left
  .cases h
  rename_i JQ
  obtain ⟨k,hp,rfl⟩:=Ac.1 h
  obtain ⟨_,Hj,inf,hi,W4⟩:=PT JQ (default:World)
  have Hj:∀ w,(sizeOf el).run P w=.ok 1 w:=λw=>(PT JQ w).2.1
  have px:∀ (w:World) (cs:Array Value) (off:Nat) (v:Value),cs[off]?=some v->(part el cs off).run P w=.ok v w:=λw cs off v hv=>by simp [part,A86 hp w,hv]
  refine Cc9 (by rw [hu]) (λw e cs hc=>?_) (λw xs ys r hr=>?_)
  .show (Instr.checkKey e (9999+1) kt (.agg cs)).run P w=.ok () w
   rw [Instr.checkKey]
   simp only [Sem.run_bind,run_underlying hu,Result.andThen_ok]
   simp only [Std.Legacy.Range.forIn_eq_forIn_range',Std.Legacy.Range.size,Nat.sub_zero,Nat.add_one_sub_one,Nat.div_one]
   have key:∀ (m off:Nat),Hp (List.replicate m k) (cs.toList.drop off)=true->
     (forIn (List.range' off m) PUnit.unit (λ(i:Nat) (_:PUnit)=>(do
      Instr.checkKey e 9999 el (<- part el cs (i*(<- sizeOf el)))
      pure (ForInStep.yield PUnit.unit):Sem (ForInStep PUnit)))).run P w=.ok PUnit.unit w:=by
    intro m
    induction m with
    | zero=>intro off _;simp
    | succ m ih=>
     intro off hc
     rw [Ix] at hc
     obtain ⟨v,l',e1,hv,hl⟩:=Ax0 hc
     have Et:off<cs.toList.length:=by
      rcases Cr off cs.toList.length with h1 | h1
      .exact h1
      .rw [Bc h1] at e1;cases e1
     rw [Bb Et] at e1
     injection e1 with e1 e2
     have lN:cs[off]?=some v:=by
      rw [<- e1];simp at Et;simp [Et]
     have pc:=Ap9 (w:=w) hp e 9998 hv
     rw [<- e2] at hl
     rw [List.range'_succ]
     simp only [List.forIn_cons,Sem.run_bind,Hj,Result.andThen_ok,Nat.mul_one,px w cs off v lN,pc,Sem.run_pure]
     exact ih (off+1) hl
   have:=key n 0 (by simpa using hc)
   rw [this];rfl
  .have N6:∀ (m off:Nat),Ri (List.replicate m k) ((xs.toList.drop off).map .v) ((ys.toList.drop off).map .v)=some r->(Op.eqItems 9999 el 1 xs ys (List.range' off m)).run P w=.ok r w:=by
    intro m
    induction m with
    | zero=>
     intro off h
     simp only [List.replicate_zero] at h
     unfold Ri at h
     split at h <;> simp_all [Op.eqItems]
    | succ m ih=>
     intro off h
     rw [Ix] at h
     have hc:off<xs.toList.length:=by
      rcases Cr off xs.toList.length with h1 | h1
      .exact h1
      .rw [Bc h1] at h;simp [Ri] at h
     have hd:off<ys.toList.length:=by
      rcases Cr off ys.toList.length with h1 | h1
      .exact h1
      .rw [Bc h1] at h;simp [Ri] at h
     rw [Bb hc,Bb hd] at h
     simp only [Am,Ri] at h
     have gx:=px w xs off xs.toList[off] (by simp at hc;simp [hc])
     have gy:=px w ys off ys.toList[off] (by simp at hd;simp [hd])
     rw [List.range'_succ]
     cases hq:fX k (.v xs.toList[off]) (.v ys.toList[off]) with
     | none=>rw [hq] at h;cases h
     | some b=>
      rw [hq] at h
      have pe:=A38 (w:=w) hp hq 9998
      simp only [Op.eqItems,Sem.run_bind,Nat.mul_one,gx,gy,pe,Result.andThen_ok]
      cases b
      .simp at h;subst h;simp
      .simpa using ih (off+1) h
   show (Op.equalIn (9999+1) kt (.agg xs) (.agg ys)).run P w=.ok r w
   rw [run_equalIn_array w 9999 xs ys hu hi]
   have oX:P.cellsOf el=1:=by unfold Program.cellsOf;simp [hi,W4]
   rw [oX,List.range_eq_range']
   exact N6 n 0 (by simpa using hr)
 .rename_i d oI Xh hu
  cases h
  exact Cx6 hu
 .cases h
theorem Bt2{P:Program}{w:World}{al:Nat->Prop}{β:Nat->Option Nat} : ∀ {us:List Value} {cs:List DV} {l:List Value},mE cs=some l->us.length=cs.length->(∀ (j:Nat) (u:Value) (d:DV),us[j]?=some u->cs[j]?=some d->Rel P w al β u d)->us=l
 | us,[],l,h,hl,_=>by simp [mE] at h;subst h;simpa using hl
 | [],_::_,_,_,hl,_=>by simp at hl
 | u::us,c::cs,l,h,hl,hr=>by
  unfold mE at h
  split at h
  .rename_i e;cases e
  .rename_i x l' e;cases e
   split at h
   .obtain ⟨r,fI,rfl⟩:=Ac.1 h
    have e1:u=x:=Eb (hr 0 u _ rfl rfl)
    have e2:us=r:=Bt2 fI (by simpa using hl) λj u d hu hd=>hr (j+1) u d (by simpa using hu) (by simpa using hd)
    rw [e1,e2]
   .cases h
  .cases h
theorem nL{P:Program}{w:World}{al:Nat->Prop}{β:Nat->Option Nat}{x kv:Value}{d:DV}(h:Rel P w al β x d)(hk:Vx d=some kv):x=kv:=by
 unfold Vx at hk
 split at hk
 .cases hk;exact Eb h
 .rename_i cs
  obtain ⟨l,hl,rfl⟩:=Ac.1 hk
  obtain ⟨vs,rfl,h1,_,h2⟩:=Z2 h
  rw [Bt2 hl h1 h2]
 .cases hk
section ops
variable {C:Ctx} {U:Nat->Prop} {s:DS} {β:Nat->Option Nat} {a:Act} {w:World} {o:Oper} {d:DV} {s':DS} {nid:Nat}
theorem HoldsB.mapo{id b ck:Nat}{es:List ME}(hs:HoldsB C U s β a w)(hb:β id=some b)(ho:s.ho id=some (.mapo ck es)) :
  ∃ ms,w.heap[b]?=some (.map ms ck)/\ms.size=es.length/\∀ (j:Nat) (e:MapEntry) (p:ME),ms[j]?=some e->es[j]?=some p->e.key=p.k/\e.born=p.b/\WV C U (s.vw C) β w e.val p.v:=by
 obtain ⟨b',ms,Gz,h1,h2,h4⟩:=hs.hh.hp id _ (bL ho)
 rw [hb] at Gz;cases Gz
 exact ⟨ms,h1,h2,h4⟩
theorem Cx7{t:TypeId}(ho:o.op=.makeMap t none)(hs:HoldsB C U s β a w)(hn:¬ U nid):OpOk C (Un U nid) a w o (.mp nid) (s.upd nid (.lay (.mapo 0 []))):=by
 have Mb:=U5 w (.map #[] 0)
 have hf:=(hs.turned (β':=upd β nid (some w.heap.size)) (w':=w.alloc (.map #[] 0)) hn none (λ_ h=>by cases h) (.mapo 0 []) (λb hb _=>Mb.block b hb) Mb.os Mb.tape Mb.output Mb.size (λj hj _=>Zv β _ hj) (λ_ h=>by cases h)
  (λb hb=>by rw [De] at hb;cases hb;exact ⟨.inr (Ag _),by simp⟩) (λ_=>⟨_,#[],De _ _ _,heap_alloc_new w _,rfl,by simp⟩)).1
 refine ⟨.value (.map (some w.heap.size)),_,_,_,?_,.inl rfl,hf,qH (.mp nid _ (by simp)) rfl⟩
 simp [execOp,ho,Instr.makeMap]
theorem UX{V:Nat->Option DObj}{ok b:Bool}{x:Value}{v:DV}(h:WV C U V β w x v):WV C U V β w (if ok then .tuple #[x,.bool b] else x) (Gm ok v b):=by
 unfold Gm
 cases ok
 .exact h
 .refine ⟨λid hi=>?_,λha=>.tup [x,.bool b] _ rfl λj u d hu hd=>?_,TP.of_wv (C:=C) (U:=U) (V:=V) (β:=β) (w:=w) (us:=[x,.bool b]) rfl λj u d hu hd=>?_⟩
  .simp [DV.refs,DV.refsL] at hi;exact h.1 id hi
  .match j with
   | 0=>simp at hu hd;subst hu hd;exact h.2.1 λid hi=>ha id (by simp [DV.refs,DV.refsL,hi])
   | 1=>simp at hu hd;subst hu hd;exact .imm _ _ (.v _)
   | j+2=>simp at hu
  .match j with
   | 0=>simp at hu hd;subst hu hd;exact h
   | 1=>simp at hu hd;subst hu hd;exact WV.v _
   | j+2=>simp at hu
theorem zq{P:Program}{et:TypeId}{z:Value}(hz:(P.info? et).bind (·.zero)=some z)(w:World):(zeroValue et:Sem Value).run P w=.ok z w:=by
 obtain ⟨i,hi,hz'⟩:=Ay.1 hz
 simp [zeroValue,typeInfo,hi,hz']
theorem Cx8{t kt et:TypeId}{kd:KD}{x k:Operand}{ok:Bool}{kv z:Value}(ho:o.op=.lookup t x k ok)(ht:C.P.underlying t=some (.map kt et))(aN:Vd C.P kt=some kd)
  (hz:(C.P.info? et).bind (·.zero)=some z) (hs:HoldsB C U s β a w) (hk:Vx (s.ev k)=some kv) (Ke:iX kd kv=true) :
  (s.ev x=.v (.map none)->OpOk C U a w o (Gm ok (.v z) false) s)/\
  (∀ id ck es r,s.ev x=.mp id->s.ho id=some (.mapo ck es)->findD kd kv es 0=some r->OpOk C U a w o (match r with | some p=>Gm ok p.2.v true | none=>Gm ok (.v z) false) s):=by
 have tO:a.eval k=kv:=nL (hs.ev k) hk
 have L:=K8 aN
 have hzero:=zq hz w
 have fP:∀ e,(Instr.checkKey e 10000 kt kv).run C.P w=.ok () w:=λe=>L.chk w e kv Ke
 refine ⟨λhx=>?_,λid ck es r hx hid hf=>?_⟩
 .have Rc:a.eval x=.map none:=by have:=hs.ev x;rw [hx] at this;exact Eb this
  refine .same hs (x:=if ok then .tuple #[z,.bool false] else z) ?_ (UX (WV.v z))
  rcases L.find w kv [] [] 0 none rfl (by simp) rfl with ⟨_,h2⟩ | ⟨j,e,p,h1,_⟩
  .have jY:=h2 [] rfl rfl
   simp [execOp,ho,Instr.lookup,run_underlying ht,Rc,tO,fP,jY,hzero,Result.andThen]
  .cases h1
 .have h1:=hs.ev x
  rw [hx] at h1
  obtain ⟨b,Rc,hb⟩:=rM h1
  obtain ⟨ms,hm,Hj,Cl⟩:=hs.mapo hb hid
  have hg:(getObj b).run C.P w=.ok (.map ms ck) w:=MapKept.run_getObj_map hm
  rcases L.find w kv ms.toList es 0 r (by simpa using Hj) (λj e p he hp=>(Cl j e p (by simpa using he) hp).1) hf with ⟨rfl,h2⟩ | ⟨j,e,v,rfl,h2,h3,h4,_⟩
  .refine .same hs (x:=if ok then .tuple #[z,.bool false] else z) ?_ (UX (WV.v z))
   have jY:=h2 _ rfl rfl
   simp [execOp,ho,Instr.lookup,run_underlying ht,Rc,tO,fP,hg,jY,hzero,Result.andThen]
  .refine .same hs (x:=if ok then .tuple #[e.val,.bool true] else e.val) ?_ (UX (Cl j e _ (by simpa using h2) h3).2.2)
   have jY:=h4 _ rfl rfl
   simp [execOp,ho,Instr.lookup,run_underlying ht,Rc,tO,fP,hg,jY,Result.andThen]
theorem Cx9{t kt et:TypeId}{c:Call}{x:Operand}(ho:o.op=.call c)(hc:c.callee=.builtin .len)(Du:c.args.toList=[x])(ht:c.argTypes[0]?=some t)(hu:C.P.underlying t=some (.map kt et))(hs:HoldsB C U s β a w) :
  (s.ev x=.v (.map none)->OpOk C U a w o (.v (.int .i64 0)) s)/\(∀ id ck es,s.ev x=.mp id->s.ho id=some (.mapo ck es)->OpOk C U a w o (.v (.int .i64 es.length)) s):=by
 have hA:c.args = #[x]:=by apply Dj;simpa using Du
 refine ⟨λhx=>?_,λid ck es hx hid=>?_⟩
 .have Rc:a.eval x=.map none:=by have:=hs.ev x;rw [hx] at this;exact Eb this
  refine .same hs (x:=.int .i64 0) ?_ (WV.v _)
  simp [execOp,ho,resolve,hc,hA,invoke,builtin,Builtin.len_,ht,Rc,run_underlying hu,goInt]
 .have h1:=hs.ev x
  rw [hx] at h1
  obtain ⟨b,Rc,hb⟩:=rM h1
  obtain ⟨ms,hm,Hj,_⟩:=hs.mapo hb hid
  have hg:(getObj b).run C.P w=.ok (.map ms ck) w:=MapKept.run_getObj_map hm
  refine .same hs (x:=.int .i64 es.length) ?_ (WV.v _)
  simp [execOp,ho,resolve,hc,hA,invoke,builtin,Builtin.len_,ht,Rc,run_underlying hu,hg,goInt,Hj,Result.andThen]
theorem OZ{id b ck ck':Nat}{ms ms':Array MapEntry}{es es':List ME}{nx:Next}{x:Value}(hs:HoldsB C U s β a w)(hb:β id=some b)(hid:s.ho id=some (.mapo ck es))(hm:w.heap[b]?=some (.map ms ck))
  (h1:ms'.size=es'.length)
  (h3:∀ (V':Nat->Option DObj) (w':World),(∀ x d,WV C U (s.vw C) β w x d->WV C U V' β w' x d)->∀ (j:Nat) (e:MapEntry) (p:ME),ms'[j]?=some e->es'[j]?=some p->e.key=p.k/\e.born=p.b/\WV C U V' β w' e.val p.v)
  (Fm:(execOp a.eval o).run C.P w=.ok nx { w with heap:=w.heap.setIfInBounds b (.map ms' ck') }) (Tw:nx=.value x\/(nx=.skip/\x=undef)) (hd:WV C U (s.vw C) β w x d):OpOk C U a w o d (s.upd nid (.wr id (.mapo ck' es'))):=by
 have kE:b<w.heap.size:=(Bu.1 hm).1
 have hw:=hs.wrote nid id b (.mapo ck' es') (w':={ w with heap:=w.heap.setIfInBounds b (.map ms' ck') }) hb (by rw [hid];rfl) (λk hk=>by simp [Gj (Eo hk)]) (by simp) rfl rfl rfl
  (λc T hc=>by rw [hm] at hc;cases hc) (λRs=>⟨b,ms',hb,by simp [kE],h1,h3 _ _ Rs⟩)
 exact ⟨nx,_,β,x,Fm,Tw,hw.1,hw.2 _ _ hd⟩
theorem Cy0{t kt et:TypeId}{kd:KD}{x k y:Operand}{kv:Value}{id ck ck':Nat}{es es':List ME}(ho:o.op=.mapUpdate t x k y\/o.op=.insert t x k y)(ht:C.P.underlying t=some (.map kt et))(aN:Vd C.P kt=some kd)
  (hs:HoldsB C U s β a w) (hk:Vx (s.ev k)=some kv) (Ke:iX kd kv=true) (hx:s.ev x=.mp id) (hid:s.ho id=some (.mapo ck es)) (hp:Mj kd kv (s.ev y) ck es=some (ck',es')):OpOk C U a w o .any (s.upd nid (.wr id (.mapo ck' es'))):=by
 have tO:a.eval k=kv:=nL (hs.ev k) hk
 have L:=K8 aN
 have fP:∀ e,(Instr.checkKey e 10000 kt kv).run C.P w=.ok () w:=λe=>L.chk w e kv Ke
 have h1:=hs.ev x
 rw [hx] at h1
 obtain ⟨b,Rc,hb⟩:=rM h1
 obtain ⟨ms,hm,Hj,Cl⟩:=hs.mapo hb hid
 have hg:(getObj b).run C.P w=.ok (.map ms ck) w:=MapKept.run_getObj_map hm
 have Iq:∀ o',(setObj b o').run C.P w=.ok () { w with heap:=w.heap.setIfInBounds b o' }:=λo'=>MapKept.run_setObj_map o' hm
 have zA:∀ w',(Instr.mapUpdate t (a.eval x) (a.eval k) (a.eval y)).run C.P w=.ok () w'->(execOp a.eval o).run C.P w=.ok .skip w':=λw' h=>by
  rcases ho with ho | ho <;> simp [execOp,ho,h]
 unfold Mj at hp
 split at hp
 .rename_i i e hf
  cases hp
  rcases L.find w kv ms.toList es 0 _ (by simpa using Hj) (λj e p he hp=>(Cl j e p (by simpa using he) hp).1) hf with ⟨h2,_⟩ | ⟨j,e0,v',h2,h3,h4,h5,h6⟩
  .cases h2
  .simp only [Df,Ed,Prod.mk.injEq] at h2
   obtain ⟨rfl,rfl⟩:=h2
   have W6:e0.key=kv:=L.one _ _ h6
   have zO:ms[i]?=some e0:=by simpa using h3
   have aU2:i<ms.size:=(Bu.1 zO).1
   refine OZ (ms':=ms.modify i λe=>{ e with key:=kv,val:=a.eval y }) (x:=undef) hs hb hid hm (by simpa using Hj) (λV' w' Oh j e' p Ni An=>?_) (zA _ ?_) (.inr ⟨rfl,rfl⟩) WV.any
   .rw [Jy] at Ni
    rw [List.getElem?_set] at An
    by_cases Nu:i=j
    .subst Nu
     rw [Af rfl] at Ni An
     split at An
     .cases An
      rw [zO] at Ni
      simp only [Ca,Ed] at Ni
      subst Ni
      exact ⟨rfl,(Cl i e0 e zO h4).2.1,Oh _ _ (hs.evw y)⟩
     .cases An
    .rw [Ae Nu] at Ni An
     have:=Cl j e' p Ni An
     exact ⟨this.1,this.2.1,Oh _ _ this.2.2⟩
   .have jY:=h5 _ rfl rfl
    simp [Instr.mapUpdate,run_underlying ht,Rc,tO,fP,hg,jY,zO,W6,Instr.keyThatStays,L.bits kv Ke,Iq,Result.andThen]
 .rename_i hf
  cases hp
  rcases L.find w kv ms.toList es 0 _ (by simpa using Hj) (λj e p he hp=>(Cl j e p (by simpa using he) hp).1) hf with ⟨_,h2⟩ | ⟨j,e,v',h2,_⟩
  .refine OZ (ms':=ms.push { key:=kv,val:=a.eval y,born:=ck }) (x:=undef) hs hb hid hm (by simp [Hj]) (λV' w' Oh j e' p Ni An=>?_) (zA _ ?_) (.inr ⟨rfl,rfl⟩) WV.any
   .rw [Array.getElem?_push] at Ni
    by_cases hj:j=ms.size
    .subst hj
     rw [Af rfl] at Ni
     cases Ni
     rw [Hj] at An
     simp at An
     subst An
     exact ⟨rfl,rfl,Oh _ _ (hs.evw y)⟩
    .rw [Ae hj] at Ni
     have Wb:j<ms.size:=(Bu.1 Ni).1
     rw [Ci (by omega)] at An
     have:=Cl j e' p Ni An
     exact ⟨this.1,this.2.1,Oh _ _ this.2.2⟩
   .have jY:=h2 _ rfl rfl
    simp [Instr.mapUpdate,run_underlying ht,Rc,tO,fP,hg,jY,Iq,Result.andThen]
  .cases h2
 .cases hp
theorem TV{V:Nat->Option DObj}{x y:Value}{v:DV}(h:WV C U V β w x v):WV C U V β w (.tuple #[x,y]) (.tup [v,.v y]):=by
 refine ⟨λid hi=>?_,λha=>.tup [x,y] _ rfl λj u d hu hd=>?_,TP.of_wv (C:=C) (U:=U) (V:=V) (β:=β) (w:=w) (us:=[x,y]) rfl λj u d hu hd=>?_⟩
 .simp [DV.refs,DV.refsL] at hi;exact h.1 id hi
 .match j with
  | 0=>simp at hu hd;subst hu hd;exact h.2.1 λid hi=>ha id (by simp [DV.refs,DV.refsL,hi])
  | 1=>simp at hu hd;subst hu hd;exact .imm _ _ (.v _)
  | j+2=>simp at hu
 .match j with
  | 0=>simp at hu hd;subst hu hd;exact h
  | 1=>simp at hu hd;subst hu hd;exact WV.v _
  | j+2=>simp at hu
theorem Cd0{t kt et:TypeId}{kd:KD}{x k:Operand}{kv z:Value}{id ck:Nat}{es:List ME}{r:Option (Nat×ME)}(ho:o.op=.mapEntry t x k)(ht:C.P.underlying t=some (.map kt et))(aN:Vd C.P kt=some kd)(hz:(C.P.info? et).bind (·.zero)=some z)
  (hs:HoldsB C U s β a w) (hk:Vx (s.ev k)=some kv) (Ke:iX kd kv=true) (hx:s.ev x=.mp id) (hid:s.ho id=some (.mapo ck es)) (hf:findD kd kv es 0=some r) :
  (∀ p,r=some p->OpOk C U a w o (.tup [p.2.v,.v (.int .i64 p.2.b)]) (s.upd nid (.wr id (.mapo ck es))))/\(r=none->OpOk C U a w o (.tup [.v z,.v (.int .i64 ck)]) (s.upd nid (.wr id (.mapo (ck+1) (es ++ [⟨kv,.v z,ck⟩]))))):=by
 have tO:a.eval k=kv:=nL (hs.ev k) hk
 have L:=K8 aN
 have fP:∀ e,(Instr.checkKey e 10000 kt kv).run C.P w=.ok () w:=λe=>L.chk w e kv Ke
 have h1:=hs.ev x
 rw [hx] at h1
 obtain ⟨b,Rc,hb⟩:=rM h1
 obtain ⟨ms,hm,Hj,Cl⟩:=hs.mapo hb hid
 have hg:(getObj b).run C.P w=.ok (.map ms ck) w:=MapKept.run_getObj_map hm
 have Iq:∀ o',(setObj b o').run C.P w=.ok () { w with heap:=w.heap.setIfInBounds b o' }:=λo'=>MapKept.run_setObj_map o' hm
 have hzero:=zq hz w
 rcases L.find w kv ms.toList es 0 _ (by simpa using Hj) (λj e p he hp=>(Cl j e p (by simpa using he) hp).1) hf with ⟨rfl,h2⟩ | ⟨i,e,p,rfl,h3,h4,h5,h6⟩
 .refine ⟨λ_ h=>(by cases h),λ_=>?_⟩
  refine OZ (ms':=ms.push { key:=kv,val:=z,born:=ck }) (x:=.tuple #[z,.int .i64 ck]) hs hb hid hm (by simp [Hj]) (λV' w' Oh j e' p Ni An=>?_) ?_ (.inl rfl) (TV (WV.v z))
  .rw [Array.getElem?_push] at Ni
   by_cases hj:j=ms.size
   .subst hj
    rw [Af rfl] at Ni
    cases Ni
    rw [Hj] at An
    simp at An
    subst An
    exact ⟨rfl,rfl,WV.v z⟩
   .rw [Ae hj] at Ni
    have Wb:j<ms.size:=(Bu.1 Ni).1
    rw [Ci (by omega)] at An
    have:=Cl j e' p Ni An
    exact ⟨this.1,this.2.1,Oh _ _ this.2.2⟩
  .have jY:=h2 _ rfl rfl
   simp [execOp,ho,Instr.mapEntry,run_underlying ht,Rc,tO,fP,hg,jY,Iq,hzero,goInt,Result.andThen]
 .refine ⟨λq hq=>?_,λh=>(by cases h)⟩
  cases hq
  dsimp only
  have W6:e.key=kv:=L.one _ _ h6
  have zO:ms[i]?=some e:=by simpa using h3
  have zB:=Cl i e p zO h4
  refine OZ (ms':=ms.modify i λe=>{ e with key:=kv }) (x:=.tuple #[e.val,.int .i64 p.b]) hs hb hid hm (by simpa using Hj) (λV' w' Oh j e' p' Ni An=>?_) ?_ (.inl rfl) (TV zB.2.2)
  .rw [Jy] at Ni
   by_cases Nu:i=j
   .subst Nu
    rw [Af rfl,zO] at Ni
    simp only [Ca,Ed] at Ni
    subst Ni
    rw [h4] at An
    cases An
    exact ⟨by simp only;rw [<- W6];exact zB.1,zB.2.1,Oh _ _ zB.2.2⟩
   .rw [Ae Nu] at Ni
    have:=Cl j e' p' Ni An
    exact ⟨this.1,this.2.1,Oh _ _ this.2.2⟩
  .have jY:=h5 _ rfl rfl
   simp [execOp,ho,Instr.mapEntry,run_underlying ht,Rc,tO,fP,hg,jY,zO,W6,Instr.keyThatStays,L.bits kv Ke,Iq,goInt,zB.2.1,Result.andThen]
theorem Bh5{n:Int} : ∀ (es:List ME) (ms:List MapEntry) (i j:Nat),ms.length=es.length->(∀ (j:Nat) (e:MapEntry) (p:ME),ms[j]?=some e->es[j]?=some p->e.born=p.b)->Zj n es i=some j->∃ k,j=i+k/\ms.findIdx? (λe=>(e.born:Int)==n)=some k/\k<ms.length
 | [],_,_,_,_,_,h=>by simp [Zj] at h
 | _::_,[],_,_,hl,_,_=>by simp at hl
 | p::ps,m::ms,i,j,hl,hr,h=>by
  have h0:m.born=p.b:=hr 0 m p rfl rfl
  simp only [Zj] at h
  split at h
  .rename_i hp
   cases h
   exact ⟨0,rfl,by rw [List.findIdx?_cons,h0,Af hp],by simp⟩
  .rename_i hp
   obtain ⟨k,rfl,h2,h3⟩:=Bh5 ps ms (i+1) j (by simpa using hl) (λj e p he hp=>hr (j+1) e p (by simpa using he) (by simpa using hp)) h
   exact ⟨k+1,by omega,by rw [List.findIdx?_cons,h0,Ae hp,h2];rfl,by simp;omega⟩
theorem Cy1{t:TypeId}{x st y:Operand}{n:Int}{id ck i:Nat}{es:List ME}(ho:o.op=.entryStore t x st y)(hs:HoldsB C U s β a w)(hx:s.ev x=.mp id)(Ib:Ku (s.ev st)=some n)(hid:s.ho id=some (.mapo ck es))(hf:Zj n es 0=some i) :
  OpOk C U a w o .any (s.upd nid (.wr id (.mapo ck (es.modify i λe=>{ e with v:=s.ev y })))):=by
 have h1:=hs.ev x
 rw [hx] at h1
 obtain ⟨b,Rc,hb⟩:=rM h1
 obtain ⟨kk,ez⟩:=E6 (hs.ev st) Ib
 obtain ⟨ms,hm,Hj,Cl⟩:=hs.mapo hb hid
 have hg:(getObj b).run C.P w=.ok (.map ms ck) w:=MapKept.run_getObj_map hm
 have Iq:∀ o',(setObj b o').run C.P w=.ok () { w with heap:=w.heap.setIfInBounds b o' }:=λo'=>MapKept.run_setObj_map o' hm
 obtain ⟨k,hk,h2,h3⟩:=Bh5 es ms.toList 0 i (by simpa using Hj) (λj e p he hp=>(Cl j e p (by simpa using he) hp).2.1) hf
 obtain rfl:i=k:=by omega
 have hfi:ms.findIdx? (λe=>(e.born:Int)==n)=some i:=by
  obtain ⟨l⟩:=ms
  simpa using h2
 refine OZ (ms':=ms.modify i λe=>{ e with val:=a.eval y }) (x:=undef) hs hb hid hm (by simpa using Hj) (λV' w' Oh j e' p Ni An=>?_) ?_ (.inr ⟨rfl,rfl⟩) WV.any
 .rw [Jy] at Ni
  rw [List.getElem?_modify] at An
  by_cases Nu:i=j
  .subst Nu
   rw [Af rfl] at Ni
   obtain ⟨e0,he0,rfl⟩:=Ac.1 Ni
   obtain ⟨p0,Nr,rfl⟩:=Ac.1 An
   simp only [Gl]
   have:=Cl i e0 p0 he0 Nr
   exact ⟨this.1,this.2.1,Oh _ _ (hs.evw y)⟩
  .rw [Ae Nu] at Ni
   obtain ⟨p0,Nr,rfl⟩:=Ac.1 An
   simp only [Nu,Kp]
   have:=Cl j e' p0 Ni Nr
   exact ⟨this.1,this.2.1,Oh _ _ this.2.2⟩
 .simp [execOp,ho,Instr.entryStore,Rc,ez,asInt,asIntOf,hg,hfi,Iq,Result.andThen]
end ops
end Go.DD
