/- A part. -/
import Derived.Test.YtnphfnhhpcelbaaGreatYa
import Derived.Laws.CopyRow
import Derived.Laws.Slices
import Derived.Laws.IdiomStrings
import Derived.Laws.OwnMore
import Derived.Laws.MakeOwn
import Derived.ArgAppend
import Derived.Maps.AppendAt
import Derived.MapKept
import Derived.ChangeKeysEq
import Derived.WideKeyRuns
namespace Go.DD
open Go.RowKit (Below)
section ops
variable {C:Ctx} {U:Nat->Prop} {s:DS} {β:Nat->Option Nat} {a:Act} {w:World} {o:Oper} {d:DV} {s':DS} {nid:Nat}
theorem uT{P:Program}{t:TypeId}(h:P.cellsOf t≠0)(w:World):(sizeOf t).run P w=.ok (P.cellsOf t) w:=by
 unfold Program.cellsOf at *
 cases hi:P.info? t with
 | none=>simp [hi] at h
 | some i=>simp [sizeOf,typeInfo,hi]
theorem vz{P:Program}{t:TypeId}{k:Option Nat}(hk:Of P t=some k)(ad:Addr)(us:List Value)(hc:∀ (j:Nat) (u:Value),us[j]?=some u->w.cell? (ad.add j)=some u) :
  (k=none->∀ u,us[0]?=some u->(loadVar t ad).run P w=.ok u w)/\(∀ n,k=some n->n<=us.length->(loadVar t ad).run P w=.ok (.agg (us.take n).toArray) w):=by
 constructor
 .rintro rfl u hu
  obtain ⟨h1,_,_⟩:=NX hk w
  have:=hc 0 u hu
  simp [Addr.add] at this
  simp [loadVar,h1,this]
 .rintro n rfl hn
  obtain ⟨h1,h2,_⟩:=vy hk w
  have h3:=run_loadCells_list (P:=P) w ad (us.take n) (λj v hv=>hc j v (by
   rw [Bz] at hv
   split at hv
   .exact hv
   .cases hv))
  rw [Bs,Nat.min_eq_left hn] at h3
  simp [loadVar,h1,h2,h3]
theorem vl{al:Nat->Prop}{x:Value}{d:DV}(h:RelI w al x d):d.refs=[]:=by
 have hl:∀ cs:List DV,(∀ d∈cs,d.refs=[])->DV.refsL cs=[]:=λcs=>by
  induction cs with
  | nil=>intro _;rfl
  | cons c cs ih=>intro hc;simp only [DV.refsL];rw [hc c (by simp),ih λd hd=>hc d (by simp [hd])];rfl
 induction h with
 | any x=>rfl
 | v x=>rfl
 | agg vs cs eF _ _ ih=>
  rw [DV.refs]
  refine hl cs λd hd=>?_
  obtain ⟨j,hj,rfl⟩:=Bq.1 hd
  exact ih j vs[j] _ (Aa (by omega)) (Aa hj)
 | tup vs cs eF _ ih=>
  rw [DV.refs]
  refine hl cs λd hd=>?_
  obtain ⟨j,hj,rfl⟩:=Bq.1 hd
  exact ih j vs[j] _ (Aa (by omega)) (Aa hj)
 | fn f us vs cs eF _ ih=>
  rw [DV.refs]
  refine hl cs λd hd=>?_
  obtain ⟨j,hj,rfl⟩:=Bq.1 hd
  exact ih j (Value.tuple us.toArray::vs)[j] _ (Aa (by omega)) (Aa hj)
 | ifc T u d _ ih=>rw [DV.refs];exact ih
 | _=>rfl
theorem qO{V:Nat->Option DObj}{x:Value}{d:DV}(h:RelI w (Tf C w β) x d):WV C U V β w x d:=WV.flat (.imm _ _ h) (vl h)
theorem SY{V:Nat->Option DObj}{k:Option Nat}{us:List Value}{cs:List DV}(hl:cs.length<=us.length)(ho:∀ (j:Nat) (u:Value),us[j]?=some u->j<cs.length->u.oneCell'=true)
  (hr:∀ (j:Nat) (u:Value) (d:DV),us[j]?=some u->cs[j]?=some d->WV C U V β w u d) (hp:Iu k cs=some d) :
  (k=none->∃ u,us[0]?=some u/\WV C U V β w u d)/\(∀ n,k=some n->n<=us.length/\WV C U V β w (.agg (us.take n).toArray) d):=by
 cases k with
 | none=>
  refine ⟨λ_=>?_,λn hn=>(by cases hn)⟩
  simp only [Iu] at hp
  split at hp
  .rename_i c tl
   cases hp
   have h0:0<us.length:=by simp at hl;omega
   exact ⟨us[0],Aa h0,hr 0 _ _ (Aa h0) (by simp)⟩
  .cases hp
 | some n=>
  refine ⟨λh=>(by cases h),λn' T8=>?_⟩
  cases T8
  simp only [Iu] at hp
  split at hp
  rotate_left
  .cases hp
  rename_i hn
  cases hp
  have bN:∀ (j:Nat) (u:Value) (d:DV),(us.take n)[j]?=some u->(cs.take n)[j]?=some d->WV C U V β w u d:=λj u d hu hd=>by
   rw [Bz] at hu hd
   split at hu
   .exact hr j u d hu (by simpa [*] using hd)
   .cases hu
  have Ez:(us.take n).length=(cs.take n).length:=by simp;omega
  refine ⟨by omega,λid hi=>?_,λha=>.agg (us.take n) (cs.take n) Ez (λu hu=>?_) λj u d hu hd=>?_,TP.nt λ_ h=>by cases h⟩
  .rw [DV.refs] at hi
   obtain ⟨d,hd,hi⟩:=DV.mem_refsL hi
   obtain ⟨j,hj,rfl⟩:=Bq.1 hd
   exact (bN j (us.take n)[j] _ (Aa (by omega)) (Aa hj)).1 id hi
  .obtain ⟨j,hj,rfl⟩:=Bq.1 hu
   simp at hj
   refine ho j _ ?_ (by omega)
   rw [Er]
   exact Aa (by omega)
  .exact (bN j u d hu hd).2.1 λid hi=>ha id (by rw [DV.refs];exact DV.refsL_mem (Au hd) hi)
theorem HoldsB.row(hs:HoldsB C U s β a w){id b:Nat}{T:TypeId}{cs:List DV}(hb:β id=some b)(ho:s.ho id=some (.row T cs)) :
  ∃ c:Array Value,w.heap[b]?=some (.cells c T (0,0))/\cs.length<=c.size/\(Oj C.P T=true->c.size=cs.length)/\∀ (j:Nat) (u:Value) (d:DV),c[j]?=some u->cs[j]?=some d->WV C U (s.vw C) β w u d/\u.oneCell'=true:=by
 rcases hs.hh.hp id _ (dB ho) with ⟨h1,_⟩ | ⟨b',c,Ht,hc,hl,hx,hr⟩
 .rw [hb] at h1;cases h1
 .rw [hb] at Ht;cases Ht;exact ⟨c,hc,hl,hx,hr⟩
theorem X8{b off:Nat}{c:Array Value}{T:TypeId}{f:Nat×Nat}(h:w.heap[b]?=some (.cells c T f))(j:Nat)(u:Value)(hu:(c.toList.drop off)[j]?=some u) :
  w.cell? ((⟨b,off,none⟩:Addr).add j)=some u:=by
 rw [Addr.add_lit,cell_of_row w b (off+j) c T f h]
 simpa using hu
theorem B39{k:Option Nat}{t:TypeId}{x:Operand}{cs:List DV}(ho:o.op=.load t x)(hk:Of C.P t=some k)(hs:HoldsB C U s β a w)(hx:s.ev x=.ia cs)(hp:Iu k cs=some d):OpOk C U a w o d s:=by
 have h1:=hs.ev x
 rw [hx] at h1
 obtain ⟨ad,us,e1,hl,_,hZ,hc,hr⟩:=Z9 h1
 obtain ⟨g1,g2⟩:=vz hk ad us hc
 obtain ⟨p1,p2⟩:=SY (C:=C) (U:=U) (V:=s.vw C) (w:=w) (β:=β) (by omega) (λj u hu _=>hZ u (Au hu)) (λj u d hu hd=>qO (hr j u d hu hd)) hp
 cases k with
 | none=>
  obtain ⟨u,hu,Ce⟩:=p1 rfl
  exact .same hs (by simp [execOp,ho,e1,Instr.loadAt,Instr.sureAddr,g1 rfl u hu]) Ce
 | some n=>
  obtain ⟨hn,Ce⟩:=p2 n rfl
  exact .same hs (by simp [execOp,ho,e1,Instr.loadAt,Instr.sureAddr,g2 n rfl hn]) Ce
theorem B40{k:Option Nat}{t T:TypeId}{x:Operand}{id off:Nat}{cs:List DV}(ho:o.op=.load t x)(hk:Of C.P t=some k)(hs:HoldsB C U s β a w)(hx:s.ev x=.pt id off)
  (hid:s.ho id=some (.row T cs)) (hp:Iu k (cs.drop off)=some d):OpOk C U a w o d s:=by
 have h1:=hs.ev x
 rw [hx] at h1
 obtain ⟨b,e1,hb⟩:=jR h1
 obtain ⟨c,hw,hl,_,hr⟩:=hs.row hb hid
 obtain ⟨g1,g2⟩:=vz hk ⟨b,off,none⟩ (c.toList.drop off) (X8 hw)
 obtain ⟨p1,p2⟩:=SY (C:=C) (U:=U) (V:=s.vw C) (w:=w) (β:=β) (us:=c.toList.drop off) (cs:=cs.drop off) (by simp;omega)
  (λj u hu hj=>by
   have Tx:off+j<cs.length:=by simp at hj;omega
   exact (hr (off+j) u _ (by simpa using hu) (Aa Tx)).2)
  (λj u d hu hd=>(hr (off+j) u d (by simpa using hu) (by simpa using hd)).1) hp
 cases k with
 | none=>
  obtain ⟨u,hu,Ce⟩:=p1 rfl
  exact .same hs (by simp [execOp,ho,e1,Instr.loadAt,Instr.sureAddr,g1 rfl u hu]) Ce
 | some n=>
  obtain ⟨hn,Ce⟩:=p2 n rfl
  exact .same hs (by simp [execOp,ho,e1,Instr.loadAt,Instr.sureAddr,g2 n rfl hn]) Ce
theorem Ct7{k:Option Nat}{t:TypeId}{x:Operand}{i:Nat}{fs:Array Field}{f:Field}{cs:List DV}(ho:o.op=.field t x i)(ht:C.P.underlying t=some (.struct fs))(hf:fs[i]?=some f)
  (hk:Of C.P f.type=some k) (hs:HoldsB C U s β a w) (hx:s.ev x=.agg cs) (hp:Iu k (cs.drop f.offset)=some d):OpOk C U a w o d s:=by
 have h1:=hs.ev x
 rw [hx] at h1
 obtain ⟨vs,e1,hl,hZ,hr⟩:=X1 h1
 obtain ⟨p1,p2⟩:=SY (C:=C) (U:=U) (V:=s.vw C) (w:=w) (β:=β) (us:=vs.drop f.offset) (cs:=cs.drop f.offset) (by simp;omega)
  (λj u hu _=>hZ u (by have:=Au hu;exact Df this))
  (λj u d hu hd=>hs.evp x (hr (f.offset+j) u d (by simpa using hu) (by simpa using hd)) λid hi=>by
   rw [hx,DV.refs]
   exact DV.refsL_mem (Au (by simpa using hd)) hi) hp
 cases k with
 | none=>
  obtain ⟨u,hu,Ce⟩:=p1 rfl
  obtain ⟨g1,_,_⟩:=NX hk w
  have Jq:vs[f.offset]?=some u:=by simpa using hu
  exact .same hs (by simp [execOp,ho,e1,Instr.field,run_underlying ht,hf,asAgg,part,g1,Jq]) Ce
 | some n=>
  obtain ⟨hn,Ce⟩:=p2 n rfl
  obtain ⟨g1,g2,_⟩:=vy hk w
  have he:vs.toArray.extract f.offset (f.offset+n)=(List.take n (List.drop f.offset vs)).toArray:=by
   apply De
   simp [List.take_drop]
  refine .same hs ?_ Ce
  simp [execOp,ho,e1,Instr.field,run_underlying ht,hf,asAgg,part,g1,g2,Tk]
theorem Ct8{x:Operand}(ho:o.op=.nilCheck x)(hs:HoldsB C U s β a w)(hx:(∃ cs,s.ev x=.ia cs)\/(∃ id off,s.ev x=.pt id off)\/(∃ f cs,s.ev x=.fn (.func f) cs)\/∃ T d,s.ev x=.ifc T d):OpOk C U a w o (s.ev x) s:=by
 have h1:=hs.ev x
 refine .same hs (x:=a.eval x) ?_ (hs.evw x)
 rcases hx with ⟨cs,hx⟩ | ⟨id,off,hx⟩ | ⟨f,cs,hx⟩ | ⟨T,d,hx⟩ <;> rw [hx] at h1
 .obtain ⟨ad,us,e1,_⟩:=Z9 h1
  simp [execOp,ho,e1]
 .obtain ⟨b,e1,hb⟩:=jR h1
  simp [execOp,ho,e1]
 .obtain ⟨us,vs,e1,_⟩:=OE h1
  simp [execOp,ho,e1]
 .obtain ⟨u,e1,_⟩:=C5 h1
  simp [execOp,ho,e1]
theorem vk{P:Program}{al:Nat->Prop}{ad:Addr}{us:List Value}{cs:List DV}(m:Nat)(hl:us.length=cs.length)(ha:al ad.block)(h1:∀ u∈us,u.oneCell'=true)
  (hc:∀ (j:Nat) (u:Value),us[j]?=some u->w.cell? (ad.add j)=some u) (h:∀ (j:Nat) (u:Value) (d:DV),us[j]?=some u->cs[j]?=some d->RelI w al u d) :
  Rel P w al β (.pointer (some (ad.add m))) (.ia (cs.drop m)):=
 .imm _ _ (.ia (ad.add m) (us.drop m) (cs.drop m) (by simp [hl]) (by rw [block_add];exact ha) (λu hu=>h1 u (Df hu))
  (λj u hu=>by rw [add_add];exact hc _ u (by simpa using hu)) λj u d hu hd=>h (m+j) u d (by simpa using hu) (by simpa using hd))
theorem wP{t:TypeId}{x:Operand}{i:Nat}{fs:Array Field}{f:Field}(ho:o.op=.fieldAddr t x i)(ht:C.P.underlying t=some (.struct fs))(hf:fs[i]?=some f)(hz:C.P.cellsOf f.type≠0)
  (hs:HoldsB C U s β a w):(∀ cs,s.ev x=.ia cs->OpOk C U a w o (.ia (cs.drop f.offset)) s)/\(∀ id off,s.ev x=.pt id off->OpOk C U a w o (.pt id (off+f.offset)) s):=by
 have h1:=hs.ev x
 constructor
 .intro cs hx
  rw [hx] at h1
  obtain ⟨ad,us,e1,hl,ha,hZ,hc,hr⟩:=Z9 h1
  refine .same hs ?_ (WV.flat (vk f.offset hl ha hZ hc hr) rfl)
  simp [execOp,ho,e1,Instr.fieldAt,run_underlying ht,hf,Instr.sureAddr,fieldPlace,uT hz,hz]
 .intro id off hx
  rw [hx] at h1
  obtain ⟨b,e1,hb⟩:=jR h1
  refine .same hs ?_ (hs.evp x (.pt id (off+f.offset) b hb) (by rw [hx];simp [DV.refs]))
  simp [execOp,ho,e1,Instr.fieldAt,run_underlying ht,hf,Instr.sureAddr,fieldPlace,uT hz,hz,Addr.add_lit]
theorem C4{P:Program}{al:Nat->Prop}{x:Value}{d:DV}{n:Int}(h:Rel P w al β x d)(hd:Lh d=some n):∃ k,x=.int k n:=by
 unfold Lh at hd
 split at hd
 .cases hd;exact ⟨_,Eb h⟩
 .cases hd
theorem wM{t e:TypeId}{x i:Operand}{j:Int}(ho:o.op=.indexAddr t x i)(ht:C.P.underlying t=some (.slice e))(hz:C.P.cellsOf e≠0)(hs:HoldsB C U s β a w)(hi:Lh (s.ev i)=some j)(h0:0<=j) :
  (∀ cs n,s.ev x=.sl cs n->j<n->OpOk C U a w o (.ia (cs.drop (j.toNat*C.P.cellsOf e))) s)/\(∀ id off n es,s.ev x=.ms id off n es->j<n->OpOk C U a w o (.pt id (off+j.toNat*C.P.cellsOf e)) s):=by
 have h1:=hs.ev x
 obtain ⟨k,hk⟩:=C4 (hs.ev i) hi
 constructor
 .intro cs n hx hj
  rw [hx] at h1
  rcases Q4 h1 with ⟨_,_,_,_,rfl⟩ | ⟨ad,cap,us,e1,hl,hn,ha,hZ,hc,hr⟩
  .omega
  .refine .same hs ?_ (WV.flat (vk _ hl ha hZ hc hr) rfl)
   simp [execOp,ho,e1,hk,Instr.indexAt,run_underlying ht,asIntOf,h0,hj,uT hz]
 .intro id off n es hx hj
  rw [hx] at h1
  rcases mR h1 with ⟨_,_,rfl⟩ | ⟨b,cap,c,T,e1,hb,hw,hn,hm,Pf⟩
  .omega
  .refine .same hs ?_ (hs.evp x (.pt id _ b hb) (by rw [hx];simp [DV.refs]))
   simp [execOp,ho,e1,hk,Instr.indexAt,run_underlying ht,asIntOf,h0,hj,uT hz,Addr.add_lit]
theorem wO{t e:TypeId}{n:Nat}{x i:Operand}{j:Int}(ho:o.op=.indexAddr t x i)(ht:C.P.underlying t=some (.array n e))(hz:C.P.cellsOf e≠0)(hs:HoldsB C U s β a w)(hi:Lh (s.ev i)=some j)(h0:0<=j)(hj:j<n) :
  (∀ cs,s.ev x=.ia cs->OpOk C U a w o (.ia (cs.drop (j.toNat*C.P.cellsOf e))) s)/\(∀ id off,s.ev x=.pt id off->OpOk C U a w o (.pt id (off+j.toNat*C.P.cellsOf e)) s):=by
 have h1:=hs.ev x
 obtain ⟨k,hk⟩:=C4 (hs.ev i) hi
 constructor
 .intro cs hx
  rw [hx] at h1
  obtain ⟨ad,us,e1,hl,ha,hZ,hc,hr⟩:=Z9 h1
  refine .same hs ?_ (WV.flat (vk _ hl ha hZ hc hr) rfl)
  simp [execOp,ho,e1,hk,Instr.indexAt,run_underlying ht,asIntOf,h0,hj,uT hz,Instr.sureAddr]
 .intro id off hx
  rw [hx] at h1
  obtain ⟨b,e1,hb⟩:=jR h1
  refine .same hs ?_ (hs.evp x (.pt id _ b hb) (by rw [hx];simp [DV.refs]))
  simp [execOp,ho,e1,hk,Instr.indexAt,run_underlying ht,asIntOf,h0,hj,uT hz,Addr.add_lit,Instr.sureAddr]
theorem Ct9{t t' e:TypeId}{x:Operand}{b:ByteArray}(ho:o.op=.convert t t' x)(oE:C.P.underlying t=some .string)(hd:C.P.underlying t'=some (.slice e))(he:C.P.underlying e=some (.int .u8))(hs:HoldsB C U s β a w)(hx:s.ev x=.v (.string b)) :
  OpOk C U a w o (.sl (b.data.toList.map λc=>.v (.int .u8 (c.toNat:Int))) b.size) s:=by
 have h1:=hs.ev x
 rw [hx] at h1
 obtain ⟨w',Sf⟩:∃ w',w.drew.alloc (.cells (bytesRow b (grownCap w b.size 0 e)) e ((bytesRow b (grownCap w b.size 0 e)).size,(bytesRow b (grownCap w b.size 0 e)).size+1))=w':=⟨_,rfl⟩
 have Fo:=run_bytes_of_string (P:=C.P) w t t' e b oE hd he
 rw [Sf] at Fo
 have Mt:Below w.heap.size w w':=by rw [<- Sf];exact ((Below.refl _ _).drew).alloc (by simp) _
 have Kk:w'.heap[w.heap.size]?=some (.cells (bytesRow b (grownCap w b.size 0 e)) e ((bytesRow b (grownCap w b.size 0 e)).size,(bytesRow b (grownCap w b.size 0 e)).size+1)):=by
  rw [<- Sf]
  exact heap_alloc_new w.drew (.cells (bytesRow b (grownCap w b.size 0 e)) e ((bytesRow b (grownCap w b.size 0 e)).size,(bytesRow b (grownCap w b.size 0 e)).size+1))
 have Ez:w.heap.size<w'.heap.size:=(Bt.1 Kk).1
 refine ⟨_,w',β,_,?_,.inl rfl,hs.keep Mt,qO (.sl ⟨w.heap.size,0,none⟩ b.size (grownCap w b.size 0 e) (b.data.toList.map λc=>.int .u8 (c.toNat:Int)) _ (by simp) (grownCap_ge w b.size 0 e) ⟨.inr (.inl hs.hh.bel.size),Ez,λid hid=>by have h9:=hs.hh.lt hid;simp only at h9;omega⟩ (λu hu=>?_) (λj u hu=>?_) (λj u d hu hd=>?_))⟩
 .simp [execOp,ho,Eb h1,Fo]
 .obtain ⟨c,_,rfl⟩:=Bm.1 hu
  rfl
 .rw [Addr.add_lit,cell_of_row w' _ _ _ _ _ Kk]
  have hj:j<b.data.toList.length:=by have:=(As.1 hu).1;simpa using this
  simp only [bytesRow,Cp]
  rw [Array.getElem?_append_left (by simpa using hj)]
  rw [<- Dk]
  simpa using hu
 .simp only [Ee,Ac] at hu hd
  obtain ⟨c,hc,rfl⟩:=hu
  obtain ⟨c',Kz,rfl⟩:=hd
  rw [hc] at Kz;cases Kz
  exact .v _
theorem Cu0{t:TypeId}{x i:Operand}{j:Int}{b:ByteArray}{c:UInt8}(ho:o.op=.index t x i)(ht:C.P.underlying t=some .string)(hs:HoldsB C U s β a w)(hi:Lh (s.ev i)=some j)(h0:0<=j)
  (hx:s.ev x=.v (.string b)) (hc:b[j.toNat]?=some c):OpOk C U a w o (.v (.int .u8 (c.toNat:Int))) s:=by
 have h1:=hs.ev x
 rw [hx] at h1
 obtain ⟨k,hk⟩:=C4 (hs.ev i) hi
 refine .same hs ?_ (WV.v _)
 simp [execOp,ho,Eb h1,hk,Instr.index,run_underlying ht,asIntOf,h0,hc]
theorem Cl3(hs:HoldsB C U s β a w){x:Option Operand}{Zk n:Int}(h:Im s Zk x=some n):(x=none/\n=Zk)\/∃ y k,x=some y/\a.eval y=.int k n:=by
 unfold Im at h
 split at h
 .cases h;exact .inl ⟨rfl,rfl⟩
 .rename_i y
  obtain ⟨k,hk⟩:=C4 (hs.ev y) h
  exact .inr ⟨y,k,rfl,hk⟩
theorem Y5{P:Program}{isS:Bool}{len cap:Nat}{lo hi:Option Value}{l h:Int}(Gg:(lo=none/\l=0)\/∃ k,lo=some (.int k l))(Sw:(hi=none/\h=len)\/∃ k,hi=some (.int k h))
  (h0:0<=l) (U1:l<=h) (hh:h<=cap) (w:World):(Instr.sliceBounds isS len cap lo hi none).run P w=.ok (l.toNat,h.toNat,cap) w:=by
 have e1:((h.toNat:Nat):Int)=h:=by omega
 rcases Gg with ⟨rfl,rfl⟩ | ⟨k,rfl⟩ <;> rcases Sw with ⟨rfl,rfl⟩ | ⟨k',rfl⟩
 .simp [Instr.sliceBounds]
 .simp [Instr.sliceBounds,Instr.sliceBound,asIntOf,hh,show 0<=h by omega]
 .simp [Instr.sliceBounds,Instr.sliceBound,asIntOf,h0,U1]
 .simp [Instr.sliceBounds,Instr.sliceBound,asIntOf,h0,hh,show 0<=h by omega]
  omega
theorem Xa(hs:HoldsB C U s β a w){x:Option Operand}{Zk n:Int}(h:Im s Zk x=some n):(x.map a.eval=none/\n=Zk)\/∃ k,x.map a.eval=some (.int k n):=by
 rcases Cl3 hs h with ⟨rfl,rfl⟩ | ⟨y,k,rfl,hk⟩
 .exact .inl ⟨rfl,rfl⟩
 .exact .inr ⟨k,by simp [hk]⟩
theorem su{t e:TypeId}{x:Operand}{lo hi:Option Operand}{l h:Int}(ho:o.op=.slice t x lo hi none)(ht:C.P.underlying t=some (.slice e))(eG:(C.P.info? e).isSome=true)(hs:HoldsB C U s β a w) :
  (∀ cs n,s.ev x=.sl cs n->Im s 0 lo=some l->Im s n hi=some h->0<=l->l<=h->h<=n->OpOk C U a w o (.sl ((cs.drop (l.toNat*C.P.cellsOf e)).take ((h.toNat-l.toNat)*C.P.cellsOf e)) (h.toNat-l.toNat)) s)/\
  (∀ id off n,s.ev x=.ms id off n (C.P.cellsOf e)->Im s 0 lo=some l->Im s n hi=some h->0<=l->l<=h->h<=n->OpOk C U a w o (if l<h\/l=0 then .ms id (off+l.toNat*C.P.cellsOf e) (h.toNat-l.toNat) (C.P.cellsOf e) else .sl [] 0) s)/\
  (s.ev x=.v (.slice none 0 0)->Im s 0 lo=some l->Im s 0 hi=some h->l=0->h=0->OpOk C U a w o (.v (.slice none 0 0)) s):=by
 have h1:=hs.ev x
 have He:(sizeOf e).run C.P w=.ok (C.P.cellsOf e) w:=by
  obtain ⟨i,hi⟩:=Du.1 eG
  simp [sizeOf,typeInfo,hi,Program.cellsOf]
 refine ⟨?_,?_,?_⟩
 .intro cs n hx Gg Sw h0 U1 hhn
  rw [hx] at h1
  rcases Q4 h1 with ⟨ad,cap,e1,rfl,rfl⟩ | ⟨ad,cap,us,e1,hl,hn,ha,hZ,hc,hr⟩
  .have:l=0:=by omega
   have:h=0:=by omega
   subst l;subst h
   refine .same hs (x:=.slice (if cap=0 then ad else ad.map (·.add (0*C.P.cellsOf e))) 0 cap) ?_ (by simpa using qO (.sl0 _ _))
   have hb:=Y5 (P:=C.P) (isS:=true) (len:=0) (cap:=cap) (Xa hs Gg) (Xa hs Sw) (Uk _) (Uk _) (by omega) w
   simp [execOp,ho,e1,Instr.sliceAt,Instr.slice,run_underlying ht,hb,He]
  .have hb:=Y5 (P:=C.P) (isS:=true) (len:=n) (cap:=cap) (Xa hs Gg) (Xa hs Sw) h0 U1 (by omega) w
   by_cases Vn:cap=l.toNat
   .subst Vn
    have e2:h.toNat=l.toNat:=by omega
    refine .same hs (x:=.slice (some ad) 0 0) ?_ ?_
    .simp [execOp,ho,e1,Instr.sliceAt,Instr.slice,run_underlying ht,hb,He,e2]
    .rw [e2];simpa using qO (.sl0 _ _)
   .refine .same hs (x:=.slice (some (ad.add (l.toNat*C.P.cellsOf e))) (h.toNat-l.toNat) (cap-l.toNat)) ?_ ?_
    .simp [execOp,ho,e1,Instr.sliceAt,Instr.slice,run_underlying ht,hb,He,Vn]
    .refine qO (.sl _ _ _ ((us.drop (l.toNat*C.P.cellsOf e)).take ((h.toNat-l.toNat)*C.P.cellsOf e)) _ (by simp [hl]) (by omega) (by rw [block_add];exact ha) (λu hu=>hZ u (Df (Gv hu)))
      (λj u hu=>?_) λj u d hu hd=>?_)
     .rw [Bz] at hu
      split at hu
      .rw [add_add];exact hc _ u (by simpa using hu)
      .cases hu
     .rw [Bz] at hu hd
      split at hu
      .exact hr (l.toNat*C.P.cellsOf e+j) u d (by simpa using hu) (by simpa [*] using hd)
      .cases hu
 .intro id off n hx Gg Sw h0 U1 hhn
  rw [hx] at h1
  rcases mR h1 with ⟨e1,rfl,rfl⟩ | ⟨b,cap,c,T,e1,hb,hw,hn,hm,Pf⟩
  .have h2:l=0:=by omega
   have h3:h=0:=by omega
   subst h2;subst h3
   have Zi:=Y5 (P:=C.P) (isS:=true) (len:=0) (cap:=0) (Xa hs Gg) (Xa hs Sw) (Uk _) (Uk _) (by omega) w
   rw [Af (.inr rfl)]
   refine .same hs (x:=.slice none 0 0) ?_ (hs.evp x (by simpa using .ms0 id (C.P.cellsOf e)) (by rw [hx];simp [DV.refs]))
   simp [execOp,ho,e1,Instr.sliceAt,Instr.slice,run_underlying ht,Zi,He]
  .have Zi:=Y5 (P:=C.P) (isS:=true) (len:=n) (cap:=cap) (Xa hs Gg) (Xa hs Sw) h0 (by omega) (by omega) w
   by_cases hc:l<h\/l=0
   .rw [Af hc]
    by_cases Vn:cap=l.toNat
    .have h2:l=0:=by omega
     subst h2
     have h3:cap=0:=by simpa using Vn
     subst h3
     have h4:h=0:=by omega
     subst h4
     have Ce:Rel C.P w (Tf C w β) β (.slice (some ⟨b,off,none⟩) 0 0) (.ms id (off+(0:Int).toNat*C.P.cellsOf e) ((0:Int).toNat-(0:Int).toNat) (C.P.cellsOf e)):=by
      simpa using .ms id off 0 (C.P.cellsOf e) b 0 c T hb hw (by omega) (by omega) (by simpa using Pf)
     refine .same hs (x:=.slice (some ⟨b,off,none⟩) 0 0) ?_ (hs.evp x Ce (by rw [hx];simp [DV.refs]))
     simp [execOp,ho,e1,Instr.sliceAt,Instr.slice,run_underlying ht,Zi,He]
    .refine .same hs (x:=.slice (some ⟨b,off+l.toNat*C.P.cellsOf e,none⟩) (h.toNat-l.toNat) (cap-l.toNat)) ?_ (hs.evp x (.ms _ _ _ _ b _ c T hb hw (by omega) (by omega) ?_) (by rw [hx];simp [DV.refs]))
     .simp [execOp,ho,e1,Instr.sliceAt,Instr.slice,run_underlying ht,Zi,He,Vn,Addr.add_lit]
     .rw [<- Pf,Mr,<- Dz,Nat.add_sub_cancel' (show l.toNat<=cap by omega)]
   .rw [Ad hc]
    have e2:h.toNat=l.toNat:=by omega
    refine .same hs (x:=.slice (if cap=l.toNat then some ⟨b,off,none⟩ else some ((⟨b,off,none⟩:Addr).add (l.toNat*C.P.cellsOf e))) 0 (cap-l.toNat)) ?_ (qO (.sl0 _ _))
    simp [execOp,ho,e1,Instr.sliceAt,Instr.slice,run_underlying ht,Zi,He,e2]
 .intro hx Gg Sw hl hh
  rw [hx] at h1
  have e1:=Eb h1
  subst hl hh
  have Zi:=Y5 (P:=C.P) (isS:=true) (len:=0) (cap:=0) (Xa hs Gg) (Xa hs Sw) (Uk _) (Uk _) (by omega) w
  refine .same hs (x:=.slice none 0 0) ?_ (WV.v _)
  simp [execOp,ho,e1,Instr.sliceAt,Instr.slice,run_underlying ht,Zi,He]
theorem Cu1{t:TypeId}{x:Operand}{lo hi:Option Operand}{l h:Int}{b:ByteArray}(ho:o.op=.slice t x lo hi none)(ht:C.P.underlying t=some .string)(hs:HoldsB C U s β a w)(hx:s.ev x=.v (.string b))
  (Gg:Im s 0 lo=some l) (Sw:Im s b.size hi=some h) (h0:0<=l) (U1:l<=h) (hhn:h<=b.size):OpOk C U a w o (.v (.string (b.extract l.toNat h.toNat))) s:=by
 have h1:=hs.ev x
 rw [hx] at h1
 have hb:=Y5 (P:=C.P) (isS:=false) (len:=b.size) (cap:=b.size) (Xa hs Gg) (Xa hs Sw) h0 U1 (by omega) w
 refine .same hs ?_ (WV.v _)
 simp [execOp,ho,Eb h1,Instr.sliceAt,Instr.slice,run_underlying ht,hb]
theorem Cb6{t:TypeId}{c:Call}{x:Operand}(ho:o.op=.call c)(hc:c.callee=.builtin .len)(Di:c.args.toList=[x])(ht:c.argTypes[0]?=some t)(hs:HoldsB C U s β a w) :
  ((∃ e,C.P.underlying t=some (.slice e))->(∀ cs n,s.ev x=.sl cs n->OpOk C U a w o (.v (.int .i64 n)) s)/\(∀ id off n es,s.ev x=.ms id off n es->OpOk C U a w o (.v (.int .i64 n)) s)/\
   (∀ n c',s.ev x=.v (.slice none n c')->OpOk C U a w o (.v (.int .i64 n)) s))/\
  (C.P.underlying t=some .string->∀ b,s.ev x=.v (.string b)->OpOk C U a w o (.v (.int .i64 b.size)) s):=by
 have h1:=hs.ev x
 have hA:c.args = #[x]:=by apply De;simpa using Di
 constructor
 .rintro ⟨e,hu⟩
  have Fo:∀ ad n cap,a.eval x=.slice ad n cap->OpOk C U a w o (.v (.int .i64 n)) s:=λad n cap hv=>by
   refine .same hs (x:=.int .i64 n) ?_ (WV.v _)
   simp [execOp,ho,resolve,hc,hA,invoke,builtin,Builtin.len_,ht,hv,run_underlying hu,goInt]
  refine ⟨λcs n hx=>?_,λid off n es hx=>?_,λn c' hx=>?_⟩ <;> rw [hx] at h1
  .rcases Q4 h1 with ⟨ad,cap,e1,_,rfl⟩ | ⟨ad,cap,us,e1,_⟩
   .exact Fo _ _ _ e1
   .exact Fo _ _ _ e1
  .rcases mR h1 with ⟨e1,_,rfl⟩ | ⟨b,cap,cc,T,e1,_⟩
   .exact Fo _ _ _ e1
   .exact Fo _ _ _ e1
  .exact Fo _ _ _ (Eb h1)
 .intro hu b hx
  rw [hx] at h1
  refine .same hs (x:=.int .i64 b.size) ?_ (WV.v _)
  simp [execOp,ho,resolve,hc,hA,invoke,builtin,Builtin.len_,ht,Eb h1,run_underlying hu,goInt]
theorem Cu2{t:TypeId}{c:Call}{x:Operand}(ho:o.op=.call c)(hc:c.callee=.builtin .cap)(Di:c.args.toList=[x])(ht:c.argTypes[0]?=some t)(hs:HoldsB C U s β a w){e:TypeId}(hu:C.P.underlying t=some (.slice e))(hx:s.ev x=.v (.slice none 0 0)) :
  OpOk C U a w o (.v (.int .i64 0)) s:=by
 have h1:=hs.ev x
 rw [hx] at h1
 have hA:c.args = #[x]:=by apply De;simpa using Di
 refine .same hs (x:=.int .i64 0) ?_ (WV.v _)
 simp [execOp,ho,resolve,hc,hA,invoke,builtin,Builtin.cap_,ht,Eb h1,run_underlying hu,goInt]
theorem Cb7{f:Fn}{first cap:Array Operand}(ho:o.op=.makeFunc f first cap)(hs:HoldsB C U s β a w):OpOk C U a w o (.fn f (.tup (first.toList.map s.ev)::cap.toList.map s.ev)) s:=by
 have key:∀ l:List Operand,∀ (j:Nat) (u:Value) (d:DV),(l.map a.eval)[j]?=some u->(l.map s.ev)[j]?=some d->Rel C.P w (Tf C w β) β u d:=λl j u d hu hd=>by
  simp only [Ee,Ac] at hu hd
  obtain ⟨x,hx,rfl⟩:=hu
  obtain ⟨y,hy,rfl⟩:=hd
  rw [hx] at hy;cases hy
  exact hs.ev x
 refine .same hs (x:=.func f (first.toList.map a.eval).toArray (cap.toList.map a.eval).toArray) ?_ (hs.hh.wv (.fn f _ _ _ (by simp) λj u d hu hd=>?_) λid hi=>?_)
 .have h1:Array.map a.eval cap=(List.map a.eval cap.toList).toArray:=by apply De;simp
  have h2:Array.map a.eval first=(List.map a.eval first.toList).toArray:=by apply De;simp
  simp [execOp,ho,Instr.makeFunc,h1,h2]
 .cases j with
  | zero=>cases hu;cases hd;exact .tup _ _ (by simp) (key _)
  | succ j=>exact key cap.toList j u d (by simpa using hu) (by simpa using hd)
 .have Ka:∀ l:List Operand,id∈DV.refsL (l.map s.ev)->(s.vw C id).isSome=true:=λl h=>by
   obtain ⟨d,hd,hi⟩:=DV.mem_refsL h
   obtain ⟨x,_,rfl⟩:=Bm.1 hd
   exact lS (HoldsB.eva x id hi)
  simp only [DV.refs,DV.refsL,Aw] at hi
  rcases hi with hi | hi
  .exact Ka _ hi
  .exact Ka _ hi
theorem Cl4{x:Operand}{i:Nat}{ds:List DV}{v:Value}(ho:o.op=.extract x i)(hs:HoldsB C U s β a w)(hx:s.rv x=.tup ds)(hi:ds[i]?=some (.v v)):OpOk C U a w o (.v v) s:=by
 obtain ⟨vs,e1,h1⟩:=(hs.rvw x).2.2 ds hx i v hi
 obtain ⟨Ez,h2⟩:=Bt.1 h1
 refine .same hs (x:=v) ?_ (WV.v v)
 simp [execOp,ho,e1,Instr.extract,Ez,h2]
theorem Cu3{x:Operand}{i:Nat}{ds:List DV}(ho:o.op=.extract x i)(hs:HoldsB C U s β a w)(hx:s.ev x=.tup ds)(hi:ds[i]?=some d):OpOk C U a w o d s:=by
 have h1:=hs.ev x
 rw [hx] at h1
 obtain ⟨vs,e1,hl,hr⟩:=uk h1
 have Ez:i<vs.length:=by rw [hl];exact (As.1 hi).1
 refine .same hs (x:=vs[i]) ?_ (hs.evp x (hr i _ _ (Aa Ez) hi) λid hid=>by rw [hx,DV.refs];exact DV.refsL_mem (Au hi) hid)
 simp [execOp,ho,e1,Instr.extract,Ez]
end ops
end Go.DD

/- Each operation on deep values is what the model's operation does (third part: memory that is made or written). -/
namespace Go.DD
open Go.RowKit (Below)
theorem DS.ho_upd(s:DS)(nid:Nat)(u:Upd):(s.upd nid u).ho=u.app nid s.ho:=rfl
@[simp] theorem DS.sv_upd(s:DS)(nid:Nat)(u:Upd):(s.upd nid u).sv=s.sv:=rfl
theorem Cl5{C:Ctx}{s:DS}{nid:Nat}{Hv:Option Nat}{o:DObj}(hold:∀ i,Hv=some i->C.Y i=none)(j:Nat)(hj:j≠nid):(s.upd nid (.mv Hv o)).vw C j=if Hv=some j then none else s.vw C j:=by
 unfold DS.vw Lm
 rw [DS.ho_upd]
 simp only [Upd.app]
 rw [sD _ _ hj]
 cases Hv with
 | none=>simp [NJ]
 | some i=>
  simp only [NJ]
  by_cases Oy:j=i
  .subst Oy;simp [hold j rfl]
  .rw [sD _ _ Oy]
   have:¬ i=j:=λe=>Oy e.symm
   simp [this]
theorem Cu4{C:Ctx}{s:DS}{nid:Nat}{Hv:Option Nat}{o:DObj} : (s.upd nid (.mv Hv o)).vw C nid=some o:=by
 simp [DS.vw,Lm,DS.ho_upd,Upd.app]
theorem HoldsB.apart{C:Ctx}{U:Nat->Prop}{s:DS}{β:Nat->Option Nat}{a:Act}{w:World}(hs:HoldsB C U s β a w){i:Nat}(h:(s.ho i).isSome=true):C.Y i=none:=by
 cases hy:C.Y i with
 | none=>rfl
 | some o=>rw [hs.yd i o hy] at h;cases h
theorem HoldsB.turned{C:Ctx}{U:Nat->Prop}{s:DS}{β β':Nat->Option Nat}{a:Act}{w w':World}{nid:Nat}(hs:HoldsB C U s β a w)(hn:¬ U nid)(Hv:Option Nat)(hold:∀ i,Hv=some i->(s.ho i).isSome=true)(o:DObj)
  (Hg:∀ b,b<w.heap.size->(∀ i,Hv=some i->β i≠some b)->w'.heap[b]?=w.heap[b]?)
  (oP:w'.os=w.os) (Xx:w'.tape=w.tape) (Lq:w'.output=w.output) (He:w.heap.size<=w'.heap.size)
  (hβ:∀ j,j≠nid->Hv≠some j->β' j=β j) (ba:∀ i,Hv=some i->β' i=none)
  (Kk:∀ b,β' nid=some b->((∃ i,Hv=some i/\β i=some b)\/w.heap.size<=b)/\b<w'.heap.size)
  (gO:(∀ x d,WV C U (s.vw C) β w x d->WV C (Un U nid) ((s.upd nid (.mv Hv o)).vw C) β' w' x d)->RelO C (Un U nid) ((s.upd nid (.mv Hv o)).vw C) β' w' nid o) :
  HoldsB C (Un U nid) (s.upd nid (.mv Hv o)) β' a w'/\∀ x d,WV C U (s.vw C) β w x d->WV C (Un U nid) ((s.upd nid (.mv Hv o)).vw C) β' w' x d:=by
 have ht:=hs.hh.turn (U':=Un U nid) (V':=(s.upd nid (.mv Hv o)).vw C) (β':=β') (w':=w') nid Hv hn (λ_=>Da) (λi hi=>hs.hh.used (lS (hold i hi))) Hg oP Xx Lq He hβ ba Kk
  (λj hj=>Cl5 (λi hi=>hs.apart (hold i hi)) j hj) (λo' Ox Ce=>by rw [Cu4] at Ox;cases Ox;exact gO Ce)
 refine ⟨hs.carry rfl (λid o' hy=>?_) ht,ht.2.1⟩
 have h1:=hs.yd id o' hy
 have hu:id≠nid:=λe=>hn (e ▸ hs.hh.used (by unfold DS.vw Lm;rw [h1];simp [hy]))
 rw [DS.ho_upd]
 simp only [Upd.app]
 rw [sD _ _ hu]
 cases Hv with
 | none=>exact h1
 | some i=>
  simp only [NJ]
  by_cases Oy:id=i
  .subst Oy;simp
  .rw [sD _ _ Oy];exact h1
theorem HoldsB.fresh{C:Ctx}{U:Nat->Prop}{s:DS}{β:Nat->Option Nat}{a:Act}{w w':World}{nid:Nat}(hs:HoldsB C U s β a w)(hn:¬ U nid)(T:TypeId)(c:Array Value)(cs:List DV)(b:Nat)
  (hk:Below w.heap.size w w') (hb:w.heap.size<=b) (hc:w'.heap[b]?=some (.cells c T (0,0))) (hl:cs.length<=c.size) (hx:Oj C.P T=true->c.size=cs.length)
  (hr:∀ (j:Nat) (u:Value) (d:DV),c[j]?=some u->cs[j]?=some d->WV C U (s.vw C) β w u d/\u.oneCell'=true) :
  HoldsB C (Un U nid) (s.upd nid (.lay (.row T cs))) (upd β nid (some b)) a w':=by
 have Mt:b<w'.heap.size:=by
  rcases Dd b w'.heap.size with h | h
  .exact h
  .rw [Array.getElem?_eq_none h] at hc;cases hc
 refine (hs.turned (β':=upd β nid (some b)) hn none (λ_ h=>by cases h) _ (λb' Ht _=>hk.block b' Ht) hk.os hk.tape hk.output hk.size (λj hj _=>aP β _ hj) (λ_ h=>by cases h) (λb' Ht=>?_) λCe=>?_).1
 .rw [Dc] at Ht
  cases Ht
  exact ⟨.inr hb,Mt⟩
 .exact .inr ⟨b,c,by simp,hc,hl,hx,λj u d hu hd=>⟨Ce _ _ (hr j u d hu hd).1,(hr j u d hu hd).2⟩⟩
theorem qN{C:Ctx}{U:Nat->Prop}{V:Nat->Option DObj}{β:Nat->Option Nat}{w:World}{nid:Nat}{x:Value}{d:DV}(hr:Rel C.P w (Tf C w β) β x d)(hd:d.refs=[nid]):WV C (Un U nid) V β w x d:=
 ⟨λid hi=>by rw [hd] at hi;exact .inr (by simpa using hi),λ_=>hr,TP.of_rel hr⟩
theorem Cu5{C:Ctx}{U:Nat->Prop}{V:Nat->Option DObj}{β:Nat->Option Nat}{w:World}{us:List Value}{cs:List DV}(hl:us.length=cs.length)(ho:∀ u∈us,u.oneCell'=true)
  (hr:∀ (j:Nat) (u:Value) (d:DV),us[j]?=some u->cs[j]?=some d->WV C U V β w u d):WV C U V β w (.agg us.toArray) (.agg cs):=by
 refine ⟨λid hi=>?_,λha=>.agg us cs hl ho λj u d hu hd=>(hr j u d hu hd).2.1 λid hi=>ha id (by rw [DV.refs];exact DV.refsL_mem (Au hd) hi),TP.nt λ_ h=>by cases h⟩
 rw [DV.refs] at hi
 obtain ⟨d,hd,hi⟩:=DV.mem_refsL hi
 obtain ⟨j,hj,rfl⟩:=Bq.1 hd
 exact (hr j us[j] _ (Aa (by omega)) (Aa hj)).1 id hi
section ops
variable {C:Ctx} {U:Nat->Prop} {s:DS} {β:Nat->Option Nat} {a:Act} {w:World} {o:Oper} {d:DV} {s':DS} {nid:Nat}
theorem R5{P:Program}{t:TypeId}{z:List Value}(h:Mh P t=some z):∃ i v,P.info? t=some i/\i.zero=some v/\v.cells.toList=z/\∀ u∈z,u.oneCell'=true:=by
 unfold Mh at h
 obtain ⟨v,hv,h⟩:=Az.1 h
 obtain ⟨i,hi,hv⟩:=Az.1 hv
 split at h
 .rename_i Ka
  cases h
  exact ⟨i,v,hi,hv,rfl,λu hu=>Bi.1 Ka u hu⟩
 .cases h
theorem TH{V:Nat->Option DObj}{z:List Value}(h1:∀ u∈z,u.oneCell'=true)(j:Nat)(u:Value)(d:DV)(hu:z[j]?=some u)(hd:(z.map DV.v)[j]?=some d):WV C U V β w u d/\u.oneCell'=true:=by
 simp only [Ee,hu,Cf,Ed] at hd
 subst hd
 exact ⟨WV.v u,h1 u (Au hu)⟩
theorem EX{T:TypeId}{z:List Value}(ho:o.op=.alloc T)(hz:Mh C.P T=some z)(hs:HoldsB C U s β a w)(hn:¬ U nid):OpOk C (Un U nid) a w o (.pt nid 0) (s.upd nid (.lay (.row T (z.map .v)))):=by
 obtain ⟨i,v,hi,hv,rfl,h1⟩:=R5 hz
 have hf:=hs.fresh hn T v.cells (v.cells.toList.map .v) w.heap.size (R9 w (.cells v.cells T)) (Ai _) (heap_alloc_new w _) (by simp) (λ_=>by simp)
  (λj u d hu hd=>TH h1 j u d (by simpa using hu) hd)
 refine ⟨.value (.pointer (some ⟨w.heap.size,0,none⟩)),_,_,_,?_,.inl rfl,hf,qN (.pt nid 0 _ (by simp)) rfl⟩
 simp [execOp,ho,Instr.alloc,zeroValue,typeInfo,hi,hv,newVar,newRow]
theorem EU{T:TypeId}{x:Operand}(ho:o.op=.box T x)(hs:HoldsB C U s β a w)(hn:¬ U nid)(hx:(s.ev x).okC=true):OpOk C (Un U nid) a w o (.pt nid 0) (s.upd nid (.lay (.row T (s.ev x).cells))):=by
 obtain ⟨hl,h1,hr⟩:=hs.cells x hx
 have hf:=hs.fresh hn T (a.eval x).cells (s.ev x).cells w.heap.size (R9 w (.cells (a.eval x).cells T)) (Ai _) (heap_alloc_new w _) (by omega) (λ_=>hl)
  (λj u d hu hd=>⟨hr j u d hu hd,h1 u (by simpa using Array.mem_of_getElem? hu)⟩)
 refine ⟨.value (.pointer (some ⟨w.heap.size,0,none⟩)),_,_,_,?_,.inl rfl,hf,qN (.pt nid 0 _ (by simp)) rfl⟩
 simp [execOp,ho,Instr.box,newVar,newRow]
theorem Bo5(xs:List Value):∀ (off i:Nat) (cells:Array Value),off+i+xs.length<=cells.size->
  ((xs.zipIdx i).foldl (λcs (c,j)=>cs.setIfInBounds (off+j) c) cells).toList=cells.toList.take (off+i)++xs++cells.toList.drop (off+i+xs.length):=by
 induction xs with
 | nil=>intro off i cells _;simp
 | cons x xs ih=>
  intro off i cells h
  simp only [List.zipIdx_cons,List.foldl_cons]
  rw [ih off (i+1) _ (by simp at h ⊢;omega)]
  have Ez:off+i<cells.toList.length:=by simp at h ⊢;omega
  simp only [Le,Ec]
  rw [show off+(i+1)=off+i+1 by omega,Fy (by simpa using Ez),List.take_set_of_le (by omega),List.drop_set_of_lt (by omega)]
  simp [Mr,Rm 1]
theorem ui{W:Value->DV->Prop}(place:Nat->Option (Nat×Nat))(ρ:Operand->Value)(η:Operand->DV)(hρ:∀ x,(η x).okC=true->(ρ x).cells.size=(η x).cells.length/\(∀ u∈(ρ x).cells.toList,u.oneCell'=true)/\∀ (j:Nat) (u:Value) (e:DV),(ρ x).cells[j]?=some u->(η x).cells[j]?=some e->W u e) :
  ∀ (ps:List (Nat×Operand)) (qs:List (Nat×Nat×Operand)) (cells:Array Value) (cs:List DV) (A2:List DV),
   qs.length=ps.length->(∀ (j:Nat) (p:Nat×Operand) (q:Nat×Nat×Operand),ps[j]?=some p->qs[j]?=some q->place p.1=some (q.1,q.2.1)/\p.2=q.2.2)->
   cells.size=cs.length->(∀ u∈cells.toList,u.oneCell'=true)->(∀ (j:Nat) (u:Value) (d:DV),cells[j]?=some u->cs[j]?=some d->W u d)->
   Ia cs (qs.map λq=>(q.1,q.2.1,η q.2.2))=some A2->
   ∃ Jw,Instr.fill place cells (ps.map λp=>(p.1,ρ p.2))=some Jw/\Jw.size=A2.length/\A2.length=cs.length/\(∀ u∈Jw.toList,u.oneCell'=true)/\
    ∀ (j:Nat) (u:Value) (d:DV),Jw[j]?=some u->A2[j]?=some d->W u d
 | [],[],cells,cs,A2,_,_,hl,h1,hr,h=>by
  simp [Ia] at h
  subst h
  exact ⟨cells,by simp [Instr.fill],hl,rfl,h1,hr⟩
 | p::ps,q::qs,cells,cs,A2,hlen,rG,hl,h1,hr,h=>by
  obtain ⟨hp,Oa⟩:=rG 0 p q rfl rfl
  simp only [Ag,Ia] at h
  split at h
  rotate_left
  .cases h
  rename_i hc
  obtain ⟨Pq,He,Qp⟩:=hc
  obtain ⟨g1,g2,g3⟩:=hρ q.2.2 Pq
  have jB:=Bo5 (ρ q.2.2).cells.toList q.1 0 cells (by simp;omega)
  simp only [Oq] at jB
  have key:=ui (W:=W) place ρ η hρ ps qs ((ρ q.2.2).cells.toList.zipIdx.foldl (λcs (c,j)=>cs.setIfInBounds (q.1+j) c) cells) (cs.take q.1++(η q.2.2).cells++cs.drop (q.1+q.2.1)) A2
   (by simpa using hlen) (λj p' q' h1 h2=>rG (j+1) p' q' (by simpa using h1) (by simpa using h2)) ?_ ?_ ?_ h
  .obtain ⟨Jw,k1,k2,k3,k4,k5⟩:=key
   refine ⟨Jw,?_,k2,?_,k4,k5⟩
   .simp only [Ag,Instr.fill,hp,Oa]
    rw [Ad (by simp;omega),<- k1]
    congr 1
    rw [<- Array.foldl_toList]
    simp
   .rw [k3];simp;omega
  .rw [<- Ck,jB];simp;omega
  .rw [jB]
   intro u hu
   simp only [Aw] at hu
   rcases hu with (hu | hu) | hu
   .exact h1 u (Gv hu)
   .exact g2 u hu
   .exact h1 u (Df hu)
  .intro j u d hu hd
   have Jq:(cells.toList.take q.1++(ρ q.2.2).cells.toList++cells.toList.drop (q.1+(ρ q.2.2).cells.toList.length))[j]?=some u:=by
    rw [<- jB];simpa using hu
   have L3:(ρ q.2.2).cells.toList.length=q.2.1:=by simp;omega
   rw [L3] at Jq
   rw [Bu,Dr] at Jq hd
   simp only [Bs,Ck,hl] at Jq hd
   by_cases hj:j<min q.1 cs.length
   .rw [Af hj] at Jq hd
    rw [Dw (by omega)] at Jq hd
    exact hr j u d (by simpa using Jq) hd
   .rw [Ad hj] at Jq hd
    rw [Dr] at Jq hd
    rw [L3] at Jq
    rw [He] at hd
    by_cases Qv:j-min q.1 cs.length<q.2.1
    .rw [Af Qv] at Jq hd
     exact g3 _ u d (by simpa using Jq) hd
    .rw [Ad Qv] at Jq hd
     rw [Js] at Jq hd
     exact hr _ u d (by simpa using Jq) hd
 | [],_::_,_,_,_,h,_,_,_,_,_=>by simp at h
 | _::_,[],_,_,_,h,_,_,_,_,_=>by simp at h
theorem mapM_some{α β:Type}{f:α->Option β} : ∀ {l:List α} {r:List β},l.mapM f=some r->r.length=l.length/\∀ (j:Nat) (x:α) (y:β),l[j]?=some x->r[j]?=some y->f x=some y
 | [],r,h=>by simp at h;subst h;simp
 | x::l,r,h=>by
  simp only [Gx,Gc,Az,Hf] at h
  obtain ⟨y,hy,t,ht,h⟩:=h
  cases h
  obtain ⟨h1,h2⟩:=mapM_some ht
  refine ⟨by simp [h1],λj u v hu hv=>?_⟩
  cases j with
  | zero=>simp at hu hv;subst hu hv;exact hy
  | succ j=>exact h2 j u v (by simpa using hu) (by simpa using hv)
theorem Ax1{P:Program} : ∀ (fs:List Field),(∀ f∈fs,P.cellsOf f.type≠0)->∀ (w:World),(fs.mapM (λf=>do pure (f.offset,<- sizeOf f.type):Field->Sem (Nat×Nat))).run P w=.ok (fs.map λf=>(f.offset,P.cellsOf f.type)) w
 | [],_,w=>by simp
 | f::fs,h,w=>by
  have ih:=Ax1 fs (λg hg=>h g (by simp [hg])) w
  simp only [Gx,Sem.run_bind,uT (h f (by simp)),Result.andThen_ok,Sem.run_pure,Ag]
  rw [ih]
  rfl
theorem Cu6{t:TypeId}{ps:Array (Nat×Operand)}{fs:Array Field}{z:List Value}{l:List (Nat×Nat×Operand)}{cs:List DV}(ho:o.op=.build t ps)(ht:C.P.underlying t=some (.struct fs))(hz:Mh C.P t=some z)
  (Kq:∀ f∈fs.toList,C.P.cellsOf f.type≠0)
  (hl:ps.toList.mapM (λp=>(fs[p.1]?).map λf=>(f.offset,C.P.cellsOf f.type,p.2))=some l) (hs:HoldsB C U s β a w)
  (hf:Ia (z.map .v) (l.map λp=>(p.1,p.2.1,s.ev p.2.2))=some cs):OpOk C U a w o (.agg cs) s:=by
 obtain ⟨i,v,hi,hv,rfl,h1⟩:=R5 hz
 obtain ⟨m1,m2⟩:=mapM_some hl
 obtain ⟨Jw,k1,k2,k3,k4,k5⟩:=ui (W:=WV C U (s.vw C) β w) ((fs.toList.map λf=>(f.offset,C.P.cellsOf f.type))[·]?) a.eval s.ev (λx hx=>hs.cells x hx) ps.toList l v.cells (v.cells.toList.map .v) cs m1
  (λj p q hp hq=>by
   have:=m2 j p q hp hq
   obtain ⟨f,hf,rfl⟩:=Ac.1 this
   simp [hf])
  (by simp) h1 (λj u d hu hd=>(TH h1 j u d (by simpa using hu) hd).1) hf
 have Fo:(fs.mapM (λf=>do pure (f.offset,<- sizeOf f.type):Field->Sem (Nat×Nat))).run C.P w=.ok (fs.toList.map λf=>(f.offset,C.P.cellsOf f.type)).toArray w:=by
  rw [Array.mapM_eq_mapM_toList]
  simp only [Sem.run_map,Ax1 fs.toList Kq w,Result.andThen_ok]
 refine .same hs (x:=.agg Jw.toList.toArray) ?_ (Cu5 (by simpa using k2) k4 λj u d hu hd=>k5 j u d (by simpa using hu) hd)
 have aj:Instr.fill ((fs.toList.map λf=>(f.offset,C.P.cellsOf f.type)).toArray[·]?) v.cells (ps.map λp=>(p.1,a.eval p.2)).toList=some Jw:=by
  rw [<- k1]
  congr 1
  .funext j;simp
  .simp
 simp only [execOp,ho,Instr.build,Sem.run_bind,zeroValue,typeInfo,run_program,Result.andThen_ok,hi,hv,Sem.run_pure,run_underlying ht,Fo]
 simp only [aj]
 simp
theorem TN{α:Type}(z:List α):∀ (n j:Nat),((List.replicate n z).flatten)[j]?=if j<n*z.length then z[j % z.length]? else none
 | 0,j=>by simp
 | n+1,j=>by
  rw [Jd,List.flatten_cons,Dr,TN z n]
  by_cases hj:j<z.length
  .have h1:j<(n+1)*z.length:=by rw [Dz];omega
   rw [Af hj,Af h1,Nat.mod_eq_of_lt hj]
  .rw [Ad hj]
   have hm:(j-z.length) % z.length=j % z.length:=by
    conv=>rhs;rw [show j=(j-z.length)+z.length by omega]
    rw [Nat.add_mod_right]
   have h2:(j-z.length<n*z.length)↔(j<(n+1)*z.length):=by rw [Dz];omega
   rw [hm]
   simp only [h2]
theorem Ax2(z:Array Value)(n:Nat)(h:0<z.size):((Array.range (n*z.size)).map (z[· % z.size]!)).toList=(List.replicate n z.toList).flatten:=by
 apply Ir
 intro j
 rw [TN]
 simp only [Ck]
 by_cases hj:j<n*z.size
 .have Ez:j % z.size<z.size:=Nat.mod_lt _ h
  simp [hj,Ez]
 .simp [hj]
theorem wa{z:List Value}(h1:∀ u∈z,u.oneCell'=true)(n:Nat):∀ u∈(List.replicate n z).flatten,u.oneCell'=true:=by
 intro u hu
 simp only [List.mem_flatten] at hu
 obtain ⟨l,hl,hu⟩:=hu
 rw [List.mem_replicate] at hl
 exact h1 u (hl.2 ▸ hu)
theorem NY(z:List Value)(n:Nat):(List.replicate n (z.map DV.v)).flatten=((List.replicate n z).flatten).map DV.v:=by
 rw [List.map_flatten,List.map_replicate]
theorem Cu7{t e:TypeId}(iX:Oj C.P e=false){n:Nat}{ps:Array (Nat×Operand)}{z:List Value}{cs:List DV}(ho:o.op=.buildSlice t n ps)(ht:C.P.underlying t=some (.slice e))(hz:Mh C.P e=some z)
  (hn:n*C.P.cellsOf e<=65536) (he:0<C.P.cellsOf e) (Rs:z.length=C.P.cellsOf e) (hs:HoldsB C U s β a w) (Kk:¬ U nid)
  (hf:Ia ((List.replicate n (z.map .v)).flatten) ((ps.toList.map λp=>(p.1*C.P.cellsOf e,C.P.cellsOf e,p.2)).map λp=>(p.1,p.2.1,s.ev p.2.2))=some cs) :
  OpOk C (Un U nid) a w o (.ms nid 0 n (C.P.cellsOf e)) (s.upd nid (.lay (.row e cs))):=by
 obtain ⟨i,v,hi,hv,rfl,h1⟩:=R5 hz
 have He:C.P.cellsOf e=i.size:=by simp [Program.cellsOf,hi]
 simp only [He] at hn he Rs hf
 have mA:v.cells.size=i.size:=by simpa using Rs
 have Vz:((Array.range (n*i.size)).map (v.cells[· % v.cells.size]!)).toList=(List.replicate n v.cells.toList).flatten:=by
  rw [<- mA];exact Ax2 v.cells n (by omega)
 have yW:((List.replicate n v.cells.toList).flatten).length=n*i.size:=by rw [<- Vz];simp
 obtain ⟨Jw,k1,k2,k3,k4,k5⟩:=ui (W:=WV C U (s.vw C) β w) (λj=>some (j*i.size,i.size)) a.eval s.ev (λx hx=>hs.cells x hx) ps.toList (ps.toList.map λp=>(p.1*i.size,i.size,p.2))
  ((Array.range (n*i.size)).map (v.cells[· % v.cells.size]!)) ((List.replicate n (v.cells.toList.map .v)).flatten) cs (by simp)
  (λj p q hp hq=>by
   simp only [Ee,hp,Cf,Ed] at hq
   subst hq
   exact ⟨rfl,rfl⟩)
  (by rw [NY,Br,yW];simp)
  (by rw [Vz];exact wa h1 n)
  (λj u d hu hd=>(TH (wa h1 n) j u d (by rw [<- Vz,Dk];exact hu) (by rw [<- NY];exact hd)).1) hf
 have Vn:cs.length=n*i.size:=by rw [k3,NY,Br,yW]
 have Ct:=hs.fresh Kk e Jw cs w.heap.size (R9 w (.cells Jw e)) (Ai _) (heap_alloc_new w _) (by omega) (λh=>by rw [iX] at h;cases h)
  (λj u d hu hd=>⟨k5 j u d hu hd,k4 u (by simpa using Array.mem_of_getElem? hu)⟩)
 refine ⟨.value (.slice (some ⟨w.heap.size,0,none⟩) n n),_,_,_,?_,.inl rfl,Ct,qN (.ms nid 0 n _ w.heap.size n Jw e (by simp) (heap_alloc_new w _) (Ai _) ?_ ?_) rfl⟩
 .have aj:Instr.fill (λj=>some (j*i.size,i.size)) ((Array.range (n*i.size)).map (v.cells[· % v.cells.size]!)) (ps.map λp=>(p.1,a.eval p.2)).toList=some Jw:=by
   rw [<- k1];congr 1;simp
  have I9:¬ (2:Nat) ^ 24<n*i.size:=by omega
  by_cases hz0:n*i.size=0
  .have T7:n=0:=by
    rcases Nat.mul_eq_zero.1 hz0 with h | h
    .exact h
    .omega
   subst T7
   have yM:Array.range 0 = #[]:=rfl
   have I2:Instr.fill (λj=>some (j*i.size,i.size)) #[] (List.map (λx=>(x.fst,a.eval x.snd)) ps.toList)=some Jw:=by
    rw [<- k1,Nat.zero_mul,yM];simp
   simp [execOp,ho,Instr.buildSlice,run_underlying ht,sizeOf,typeInfo,hi,yM,I2,newRow]
  .simp only [execOp,ho,Instr.buildSlice,Sem.run_bind,run_underlying ht,Result.andThen_ok,sizeOf,typeInfo,zeroValue,run_program,hi,hv,Sem.run_pure,gt_iff_lt,I9,Ib,Sem.run_ite,hz0]
   simp only [aj,newRow]
   simp
 .have Ha:n<=n*i.size:=Nat.le_mul_of_pos_right n he
  simp only [maxLen];omega
 .rw [He];omega
theorem B41{C:Ctx}{s:DS}{nid id:Nat}{o:DObj}(j:Nat)(hj:j≠id):(s.upd nid (.wr id o)).vw C j=s.vw C j:=by
 unfold DS.vw Lm
 rw [DS.ho_upd]
 simp only [Upd.app]
 rw [sD _ _ hj]
theorem Bg9{C:Ctx}{s:DS}{nid id:Nat}{o:DObj} : (s.upd nid (.wr id o)).vw C id=some o:=by simp [DS.vw,Lm,DS.ho_upd,Upd.app]
theorem HoldsB.wrote(hs:HoldsB C U s β a w){w':World}(nid id b:Nat)(o:DObj)(hb:β id=some b)(hid:(s.ho id).isSome=true)
  (Hg:∀ b',b'≠b->w'.heap[b']?=w.heap[b']?)
  (He:w'.heap.size=w.heap.size) (oP:w'.os=w.os) (Xx:w'.tape=w.tape) (Lq:w'.output=w.output)
  (gI:SameShape w w' b)
  (gO:(∀ x d,WV C U (s.vw C) β w x d->WV C U ((s.upd nid (.wr id o)).vw C) β w' x d)->RelO C U ((s.upd nid (.wr id o)).vw C) β w' id o) :
  HoldsB C U (s.upd nid (.wr id o)) β a w'/\∀ x d,WV C U (s.vw C) β w x d->WV C U ((s.upd nid (.wr id o)).vw C) β w' x d:=by
 have h:=hs.hh.write (V':=(s.upd nid (.wr id o)).vw C) (w':=w') id b hb (lS hid) Hg He oP Xx Lq gI (λj hj=>B41 j hj) (by rw [Bg9];rfl)
  (λo' Ox Ce=>by rw [Bg9] at Ox;cases Ox;exact gO Ce)
 refine ⟨hs.carry rfl (λj o' hy=>?_) h,h.2.1⟩
 have h1:=hs.yd j o' hy
 rw [DS.ho_upd]
 simp only [Upd.app]
 rw [sD _ _ (λe=>by rw [<- e,h1] at hid;cases hid)]
 exact h1
theorem ET{t T:TypeId}{k:Option Nat}{x y:Operand}{id off n:Nat}{cs:List DV}(ho:o.op=.store t x y)(hk:Of C.P t=some k)(hkn:n=k.getD 1)(hs:HoldsB C U s β a w)(hx:s.ev x=.pt id off)
  (hid:s.ho id=some (.row T cs)) (Pq:(s.ev y).okC=true) (hlen:(s.ev y).cells.length=n) (Qp:off+n<=cs.length) :
  OpOk C U a w o .any (s.upd nid (.wr id (.row T (cs.take off++(s.ev y).cells++cs.drop (off+n))))):=by
 have h1:=hs.ev x
 rw [hx] at h1
 obtain ⟨b,e1,hb⟩:=jR h1
 obtain ⟨c,hw,hl,hex,hr⟩:=hs.row hb hid
 obtain ⟨g1,g2,g3⟩:=hs.cells y Pq
 have If:=run_storeCells_at C.P b off T (a.eval y).cells.toList 0 c w hw (by simp;omega) g2
 simp only [Oq] at If
 have He:(sizeOf t).run C.P w=.ok n w:=by
  cases k with
  | none=>rw [hkn];exact (NX hk w).2.1
  | some m=>rw [hkn];exact (vy hk w).2.1
 have PM:HoldsB C U (s.upd nid (.wr id (.row T (cs.take off++(s.ev y).cells++cs.drop (off+n))))) β a (w.setRow b (c.toList.take off++(a.eval y).cells.toList++c.toList.drop (off+(a.eval y).cells.toList.length)).toArray):=by
  refine (hs.wrote nid id b _ hb (by rw [hid];rfl) (λb' Ht=>setRow_other w b b' _ Ht) (by simp) rfl rfl rfl ?_ λCe=>?_).1
  .intro c' T' Kz
   rw [hw] at Kz
   cases Kz
   refine ⟨_,setRow_heap w b c _ T _ hw,?_⟩
   simp;omega
  .refine .inr ⟨b,_,hb,setRow_heap w b c _ T _ hw,by simp;omega,λh=>(by have:=hex h;simp;omega),λj u d hu hd=>?_⟩
   have L3:(a.eval y).cells.toList.length=n:=by simp;omega
   have Jq:(c.toList.take off++(a.eval y).cells.toList++c.toList.drop (off+n))[j]?=some u:=by rw [<- L3];simpa using hu
   rw [Bu,Dr] at Jq hd
   simp only [Bs,Ck] at Jq hd
   rw [show min off c.size=off by omega] at Jq
   rw [show min off cs.length=off by omega] at hd
   by_cases hj:j<off
   .rw [Af hj] at Jq hd
    rw [Dw hj] at Jq hd
    have:=hr j u d (by simpa using Jq) hd
    exact ⟨Ce _ _ this.1,this.2⟩
   .rw [Ad hj] at Jq hd
    rw [Dr] at Jq hd
    rw [L3] at Jq
    rw [hlen] at hd
    by_cases Qv:j-off<n
    .rw [Af Qv] at Jq hd
     exact ⟨Ce _ _ (g3 _ u d (by simpa using Jq) hd),g2 u (Au Jq)⟩
    .rw [Ad Qv] at Jq hd
     rw [Js] at Jq hd
     have:=hr _ u d (by simpa using Jq) hd
     exact ⟨Ce _ _ this.1,this.2⟩
 refine ⟨.skip,_,β,undef,?_,.inr ⟨rfl,rfl⟩,PM,WV.any⟩
 have pD:(a.eval y).cells.size=n:=by omega
 simp [execOp,ho,e1,Instr.storeAt,Instr.sureAddr,storeVar,He,pD,If]
theorem Cu8{t e:TypeId}(iX:Oj C.P e=false){x y:Operand}{z:List Value}{l c:Int}(ho:o.op=.makeSlice t x y)(ht:C.P.underlying t=some (.slice e))(hz:Mh C.P e=some z)
  (Rs:z.length=C.P.cellsOf e) (he:0<C.P.cellsOf e) (U6:C.P.bytesOf e<=65536) (hs:HoldsB C U s β a w) (Kk:¬ U nid) (hx:Lh (s.ev x)=some l) (hy:Lh (s.ev y)=some c) (h0:0<=l) (eE:l<=c) (hc:c<=2147483648) :
  OpOk C (Un U nid) a w o (.ms nid 0 l.toNat (C.P.cellsOf e)) (s.upd nid (.lay (.row e ((List.replicate l.toNat (z.map .v)).flatten)))):=by
 obtain ⟨i,v,hi,hv,rfl,h1⟩:=R5 hz
 obtain ⟨kl,JD⟩:=C4 (hs.ev x) hx
 obtain ⟨kc,hkc⟩:=C4 (hs.ev y) hy
 have He:C.P.cellsOf e=i.size:=by simp [Program.cellsOf,hi]
 have N3:C.P.bytesOf e=i.bytes:=by simp [Program.bytesOf,hi]
 simp only [He] at he Rs
 rw [N3] at U6
 have mA:v.cells.size=i.size:=by simpa using Rs
 have Fo:=run_make (P:=C.P) w t e i v ht hi hv kl kc l c h0 eE (by
  have h2:(i.bytes:Int)*c<=65536*2147483648:=Int.mul_le_mul (by omega) hc (by omega) (by omega)
  omega) (by omega)
 have Vz:(madeCells v.cells (c.toNat*i.size)).toList=(List.replicate c.toNat v.cells.toList).flatten:=by
  rw [<- mA];exact Ax2 v.cells c.toNat (by omega)
 have oV:(madeCells v.cells (c.toNat*i.size)).size=c.toNat*i.size:=size_madeCells _ _
 have Vf:(List.replicate l.toNat v.cells.toList).flatten=((List.replicate c.toNat v.cells.toList).flatten).take (l.toNat*i.size):=by
  apply Ir
  intro j
  rw [Bz,TN,TN]
  simp only [Ck,mA]
  by_cases hj:j<l.toNat*i.size
  .have:j<c.toNat*i.size:=Bp hj (Cu _ (by omega))
   simp [hj,this]
  .simp [hj]
 have PZ:((List.replicate l.toNat v.cells.toList).flatten).length=l.toNat*i.size:=by
  rw [Vf,Bs,<- Vz,Ck,oV]
  exact Nat.min_eq_left (Cu _ (by omega))
 have Ct:=hs.fresh Kk e (madeCells v.cells (c.toNat*i.size)) ((List.replicate l.toNat (v.cells.toList.map .v)).flatten) w.heap.size (R9 w (.cells (madeCells v.cells (c.toNat*i.size)) e)) (Ai _) (heap_alloc_new w _)
  (by rw [NY,Br,PZ,oV];exact Cu _ (by omega)) (λh=>by rw [iX] at h;cases h)
  (λj u d hu hd=>by
   rw [NY] at hd
   have Wu:j<l.toNat*i.size:=by
    have:=(As.1 hd).1
    rwa [Br,PZ] at this
   refine TH (wa h1 l.toNat) j u d ?_ hd
   rw [Vf,Dw Wu,<- Vz,Dk]
   exact hu)
 refine ⟨.value (.slice (some ⟨w.heap.size,0,none⟩) l.toNat c.toNat),_,_,_,?_,.inl rfl,Ct,qN (.ms nid 0 _ _ w.heap.size _ _ e (by simp) (heap_alloc_new w _) (by omega) (by simp only [maxLen];omega) ?_) rfl⟩
 .simp [execOp,ho,JD,hkc,Fo]
 .rw [oV,He];omega
end ops
end Go.DD

/- Each operation on deep values is what the model's operation does (fourth part: append). -/
namespace Go.DD
open Go.RowKit (Below)
section ops
variable {C:Ctx} {U:Nat->Prop} {s:DS} {β:Nat->Option Nat} {a:Act} {w:World} {o:Oper} {d:DV} {s':DS} {nid:Nat}
theorem nB{T:TypeId}{es m:Nat}{x:Operand}{news:List DV}(hs:HoldsB C U s β a w)(h:srcD s T es (s.ev x)=some (news,m)) :
  ∃ us:List Value,us.length=news.length/\(∀ u∈us,u.oneCell'=true)/\(∀ (j:Nat) (u:Value) (d:DV),us[j]?=some u->news[j]?=some d->WV C U (s.vw C) β w u d)/\
   ((∃ ad cap,a.eval x=.slice (some ad) m cap/\∀ (j:Nat) (u:Value),us[j]?=some u->w.cell? (ad.add j)=some u)\/(∃ cap,a.eval x=.slice none 0 cap/\m=0/\us=[])):=by
 have h1:=hs.ev x
 unfold srcD at h
 split at h
 .rename_i cs n hx
  cases h
  rw [hx] at h1
  rcases Q4 h1 with ⟨ad,cap,e1,rfl,rfl⟩ | ⟨ad,cap,us,e1,hl,hn,ha,hZ,hc,hr⟩
  .refine ⟨[],rfl,by simp,by simp,?_⟩
   cases ad with
   | none=>exact .inr ⟨cap,e1,rfl,rfl⟩
   | some ad=>exact .inl ⟨ad,cap,e1,by simp⟩
  .exact ⟨us,hl,hZ,λj u d hu hd=>qO (hr j u d hu hd),.inl ⟨ad,cap,e1,hc⟩⟩
 .rename_i cap hx
  cases h
  rw [hx] at h1
  exact ⟨[],rfl,by simp,by simp,.inr ⟨cap,Eb h1,rfl,rfl⟩⟩
 .rename_i ad cap hx
  cases h
  rw [hx] at h1
  exact ⟨[],rfl,by simp,by simp,.inl ⟨ad,cap,Eb h1,by simp⟩⟩
 .rename_i id off n es' hx
  rw [hx] at h1
  split at h
  .rename_i T' cs Ig
   split at h
   .rename_i Qp
    obtain ⟨rfl,rfl,Qp⟩:=Qp
    cases h
    rcases mR h1 with ⟨e1,rfl,rfl⟩ | ⟨b,cap,c,T,e1,hb,hw,hn,hm,Pf⟩
    .exact ⟨[],by simp,by simp,by simp,.inr ⟨0,e1,rfl,rfl⟩⟩
    .obtain ⟨c',Sf,hl,_,hr⟩:=hs.row hb Ig
     rw [hw] at Sf
     injection Sf with Sf
     injection Sf with Te hT
     subst hT Te
     refine ⟨(c.toList.drop off).take (m*es'),by simp;omega,λu hu=>?_,λj u d hu hd=>?_,.inl ⟨_,cap,e1,λj u hu=>?_⟩⟩
     .obtain ⟨j,hj,rfl⟩:=Bq.1 hu
      have Wu:off+j<cs.length:=by simp at hj;omega
      refine (hr (off+j) _ cs[off+j] ?_ (Aa Wu)).2
      rw [Er,Kn]
      simp
     .rw [Bz] at hu hd
      split at hu
      .rename_i hj
       rw [Af hj] at hd
       exact (hr (off+j) u d (by simpa using hu) (by simpa using hd)).1
      .cases hu
     .rw [Bz] at hu
      split at hu
      .exact X8 hw j u hu
      .cases hu
   .cases h
  .cases h
 .cases h
theorem Cu9{T:TypeId}{es n:Nat}{Hv:Option Nat}{x:Operand}{cs:List DV}(M6:es=C.P.cellsOf T)(hs:HoldsB C U s β a w)(h:dstD s T es (s.ev x)=some (Hv,cs,n)) :
  ∃ xs:List Value,w.ownsRow 0 T es (a.eval x) n xs/\xs.length=cs.length/\(∀ (j:Nat) (u:Value) (d:DV),xs[j]?=some u->cs[j]?=some d->WV C U (s.vw C) β w u d/\u.oneCell'=true)/\
   (∀ b,(a.eval x).ownBlock=some b->∃ id,Hv=some id/\β id=some b)/\∀ id,Hv=some id->(s.ho id).isSome=true:=by
 have h1:=hs.ev x
 unfold dstD at h
 split at h
 .rename_i hx
  cases h
  rw [hx] at h1
  rw [Eb h1]
  exact ⟨[],World.ownsRow_nil w _ _ _,rfl,by simp,by simp [Value.ownBlock],by simp⟩
 .rename_i bG n' es' hx
  rw [hx] at h1
  split at h
  .rename_i T' A2 Ig
   split at h
   .rename_i hc
    obtain ⟨rfl,aRg,hlen⟩:=hc
    cases h
    subst es'
    rcases mR h1 with ⟨e1,_,rfl⟩ | ⟨b,cap,c,T,e1,hb,hw,hn,hm,Pf⟩
    .have pD:cs=[]:=Ef (by simpa using hlen)
     subst pD
     rw [e1]
     exact ⟨[],World.ownsRow_nil w _ _ _,rfl,by simp,by simp [Value.ownBlock],λi hi=>by cases hi;rw [Ig];rfl⟩
    .obtain ⟨c',Sf,hl,_,hr⟩:=hs.row hb Ig
     rw [hw] at Sf
     injection Sf with Sf
     injection Sf with Te hT
     subst hT Te
     have eE:(c.toList.take (n*es)).length=n*es:=by simp;omega
     refine ⟨c.toList.take (n*es),⟨eE,.inr ⟨b,cap,c,e1,Gu _,hw,hn,hm,by omega,rfl⟩⟩,by omega,λj u d hu hd=>?_,λb' Ht=>?_,λi hi=>by cases hi;rw [Ig];rfl⟩
     .rw [Bz] at hu
      split at hu
      .exact hr j u d (by simpa using hu) hd
      .cases hu
     .rw [e1] at Ht
      simp [Value.ownBlock] at Ht
      exact ⟨_,rfl,by rw [<- Ht];exact hb⟩
   .cases h
  .cases h
 .cases h
theorem Aq5{P:Program}(w:World)(base:Nat)(t ty e:TypeId)(i:TypeInfo)(size:Nat)(ht:P.underlying t=some (.slice e))(hi:P.info? e=some i)
  (v:Value) (n:Nat) (xs:List Value) (Xz:w.ownsRow base e size v n xs) (c:Nat):(Builtin.append_ #[t,t] ty #[v,.slice none 0 c]).run P w=.ok v w:=by
 rcases Xz.2 with ⟨rfl,rfl⟩ | ⟨g,cap,cur,rfl,_,_,kP,_⟩
 .simp [Builtin.append_,run_underlying ht,sizeOf,typeInfo,hi,Builtin.lenOf,Builtin.firstCells]
 .simp [Builtin.append_,run_underlying ht,sizeOf,typeInfo,hi,Builtin.lenOf,Builtin.firstCells,kP,storeCells]
def UI(β:Nat->Option Nat):Option Nat->Nat->Option Nat
 | none=>β
 | some i=>upd β i none
theorem Cv0{t T:TypeId}(iX:Oj C.P T=false){c:Call}{x y:Operand}{z:List Value}{es bytes n m:Nat}{Hv:Option Nat}{cs news:List DV}(ho:o.op=.call c)(hc:c.callee=.builtin .append)(Di:c.args.toList=[x,y])(Ys:c.argTypes.toList=[t,t])
  (ht:C.P.underlying t=some (.slice T)) (hz:Mh C.P T=some z) (Rs:z.length=C.P.cellsOf T) (M6:es=C.P.cellsOf T) (U6:bytes=C.P.bytesOf T) (hs:HoldsB C U s β a w) (Kk:¬ U nid) (hd:dstD s T es (s.ev x)=some (Hv,cs,n)) (rF:srcD s T es (s.ev y)=some (news,m))
  (oR:news.length=m*es) (he:0<es) (Zi:n+m<=2147483648) (Ww:bytes<=65536):OpOk C (Un U nid) a w o (.ms nid 0 (n+m) es) (s.upd nid (.mv Hv (.row T (cs++news)))):=by
 obtain ⟨i,v,hi,hv,rfl,h1z⟩:=R5 hz
 have He:C.P.cellsOf T=i.size:=by simp [Program.cellsOf,hi]
 have N3:C.P.bytesOf T=i.bytes:=by simp [Program.bytesOf,hi]
 have hA:c.args = #[x,y]:=by apply De;simpa using Di
 have hT:c.argTypes = #[t,t]:=by apply De;simpa using Ys
 obtain ⟨us,ul,u1,ur,jX⟩:=nB hs rF
 obtain ⟨xs,Xz,xl,xr,kK,yV⟩:=Cu9 M6 hs hd
 have T3:us.length=m*es:=by omega
 have key:∃ v' w',(Builtin.append_ #[t,t] o.type #[a.eval x,a.eval y]).run C.P w=.ok v' w'/\w'.ownsRow 0 T es v' (n+m) (xs++us)/\w.grownBy w' (a.eval x).ownBlock/\
   (v'.ownBlock=(a.eval x).ownBlock\/v'.ownBlock=some w.heap.size):=by
  rcases jX with ⟨ad,cap,e1,Om⟩ | ⟨cap,e1,rfl,rfl⟩
  .obtain ⟨v',w',r1,r2,r3,_,r5⟩:=run_append_own_at (P:=C.P) w 0 t o.type T i v es bytes ht hi hv (by omega) (by omega) (by have h:=Rs;rw [Ck] at h;omega) he (a.eval x) n xs Xz ad m cap us T3 Om u1
    (by simp only [maxLen];omega) (by have:=aQ Zi Ww;omega) (Gu _)
   exact ⟨v',w',by rw [e1];exact r1,r2,r3,r5⟩
  .refine ⟨a.eval x,w,by rw [e1];exact Aq5 w _ t _ T i es ht hi _ _ _ Xz cap,by simpa using Xz,⟨rfl,rfl,rfl,Ai _,λ_ _ _=>rfl⟩,.inl rfl⟩
 obtain ⟨v',w',Fo,oN,hg,KK⟩:=key
 have K2:∀ b,v'.ownBlock=some b->0<=b/\b<w'.heap.size:=oN.lt
 have Ha:∀ j,Hv=some j->j≠nid:=λj hj e=>Kk (e ▸ hs.hh.used (lS (yV j hj)))
 have dT:=hs.turned (β':=upd (UI β Hv) nid v'.ownBlock) (w':=w') Kk Hv yV (.row T (cs++news))
  (λb hb Ha=>hg.block b hb (λe=>by obtain ⟨j,h1,h2⟩:=kK b e.symm;exact Ha j h1 h2))
  hg.os hg.tape hg.output hg.size
  (λj hj K4=>by
   rw [aP _ _ hj]
   cases Hv with
   | none=>rfl
   | some i=>exact aP β _ (λe=>K4 (by rw [e])))
  (λj hj=>by
   rw [aP _ _ (Ha j hj)]
   subst hj
   exact Dc _ _ _)
  (λb hb=>by
   rw [Dc] at hb
   refine ⟨?_,(K2 b hb).2⟩
   rcases KK with h | h
   .exact .inl (kK b (by rw [<- h];exact hb))
   .rw [h] at hb;cases hb;exact .inr (Ai _))
  (λCe=>by
   have JD:(cs++news).length=(n+m)*es:=by
    simp only [Ap]
    have h2:=Xz.1
    rw [Dz];omega
   rcases oN.2 with ⟨e1,e2⟩ | ⟨g,cap,cur,e1,pG,oX,kP,aH,pD,iS⟩
   .refine .inl ⟨by rw [Dc,e1];rfl,Ef (by rw [JD,e2];simp)⟩
   .refine .inr ⟨g,cur,by rw [Dc,e1];rfl,oX,by rw [JD,pD];exact Cu _ kP,λh=>(by rw [iX] at h;cases h),λj u d hu Ma=>?_⟩
    have hj:j<(n+m)*es:=by
     have:=(As.1 Ma).1
     omega
    have Jq:(xs++us)[j]?=some u:=by
     rw [<- iS,Dw hj]
     simpa using hu
    rw [Dr] at Jq Ma
    rw [xl] at Jq
    by_cases yZ:j<cs.length
    .rw [Af yZ] at Jq Ma
     have:=xr j u d Jq Ma
     exact ⟨Ce _ _ this.1,this.2⟩
    .rw [Ad yZ] at Jq Ma
     exact ⟨Ce _ _ (ur _ u d Jq Ma),u1 u (Au Jq)⟩)
 refine ⟨.value v',w',_,_,?_,.inl rfl,dT.1,?_⟩
 .simp [execOp,ho,resolve,hc,hA,hT,invoke,builtin,Fo]
 .refine qN ?_ rfl
  rcases oN.2 with ⟨e1,e2⟩ | ⟨g,cap,cur,e1,pG,oX,kP,aH,pD,iS⟩
  .rw [e1,e2];exact .ms0 nid es
  .have h2:upd (UI β Hv) nid v'.ownBlock nid=some g:=by rw [Dc,e1];rfl
   rw [e1] at h2 ⊢
   exact .ms nid 0 _ es g cap cur T h2 oX kP aH (by rw [pD];omega)
theorem Au7{P:Program}(w:World)(t t' ty e:TypeId)(i:TypeInfo)(z:Value)(ht:P.underlying t=some (.slice e)){k':IntKind}(Xd:P.underlying t'=some (.int k'))(hi:P.info? e=some i)(hz:i.zero=some z)(kk:IntKind)(k:Int)(h0:0<k)(h63:k<=2147483648)(U6:i.bytes<=65536)(He:0<i.size) :
  (Builtin.append_ #[t,t'] ty #[.slice none 0 0,.int kk k]).run P w =
   .ok (.slice (some ⟨w.heap.size,0,none⟩) k.toNat (grownCap w k.toNat 0 e)) (w.drew.alloc (.cells (Builtin.zeroCells z.cells k.toNat++Builtin.zeroCells z.cells (grownCap w k.toNat 0 e-k.toNat)) e)):=by
 have hw:IntKind.i64.wrap k=k:=by rw [IntKind.wrap_i64];omega
 have hn:k.toNat≠0:=by omega
 have Et:¬ (k<0):=by omega
 have h1:(k:Int)*(i.bytes:Int)<=2147483648*65536:=Int.mul_le_mul h63 (by omega) (by omega) (by omega)
 have ky:¬ (281474976710656<k*(i.bytes:Int)):=by omega
 have h2:k.toNat*i.bytes<=2147483648*65536:=aQ (by omega) U6
 have kx:¬ (281474976710656<Builtin.nextslicecap k.toNat 0*i.bytes):=by rw [nextslicecap_zero (by omega)];omega
 have aSm:¬ (9223372036854775807<((k.toNat:Nat):Int)):=by omega
 have Iz:¬ (k<=0):=by omega
 have Fp:¬ (9223372036854775807<max k 0):=by omega
 have tP:k.toNat*i.size≠0:=Nat.mul_ne_zero hn (by omega)
 simp [Builtin.append_,run_underlying ht,run_underlying Xd,sizeOf,typeInfo,zeroValue,hi,hz,hw,Et,Iz,Fp,ky,kx,tP,Question.forced,run_firstCells_none,newRow,grownCap,asInt,asIntOf]
theorem Cv1{t t' T:TypeId}(iX:Oj C.P T=false){c:Call}{x y:Operand}{z:List Value}{es bytes:Nat}{k:Int}{k':IntKind}(ho:o.op=.call c)(hc:c.callee=.builtin .append)(Di:c.args.toList=[x,y])(Ys:c.argTypes.toList=[t,t'])
  (ht:C.P.underlying t=some (.slice T)) (Xd:C.P.underlying t'=some (.int k')) (hz:Mh C.P T=some z) (Rs:z.length=C.P.cellsOf T) (M6:es=C.P.cellsOf T) (U6:bytes=C.P.bytesOf T) (hs:HoldsB C U s β a w) (Kk:¬ U nid) (hd:s.ev x=.v (.slice none 0 0)) (hk:Lh (s.ev y)=some k)
  (h0:0<k) (Zi:k<=2147483648) (Ww:bytes<=65536) (he:0<es):OpOk C (Un U nid) a w o (.ms nid 0 k.toNat es) (s.upd nid (.lay (.row T []))):=by
 obtain ⟨i,v,hi,hv,rfl,h1z⟩:=R5 hz
 obtain ⟨kk,hkk⟩:=C4 (hs.ev y) hk
 have He:C.P.cellsOf T=i.size:=by simp [Program.cellsOf,hi]
 have N3:C.P.bytesOf T=i.bytes:=by simp [Program.bytesOf,hi]
 have hA:c.args = #[x,y]:=by apply De;simpa using Di
 have hT:c.argTypes = #[t,t']:=by apply De;simpa using Ys
 have hx:a.eval x=.slice none 0 0:=by have:=hs.ev x;rw [hd] at this;exact Eb this
 have mA:v.cells.size=i.size:=by rw [He] at Rs;simpa using Rs
 have Fo:=Au7 (P:=C.P) w t t' o.type T i v ht Xd hi hv kk k h0 Zi (by omega) (by omega)
 have Yc:=grownCap_ge w k.toNat 0 T
 have aH:grownCap w k.toNat 0 T<=maxLen:=grownCap_le_maxLen w k.toNat 0 T (by simp only [maxLen];omega)
 generalize Pf:grownCap w k.toNat 0 T=cap at Fo Yc aH
 have Ct:=hs.fresh Kk T (Builtin.zeroCells v.cells k.toNat++Builtin.zeroCells v.cells (cap-k.toNat)) [] w.heap.size (w':=w.drew.alloc (.cells (Builtin.zeroCells v.cells k.toNat++Builtin.zeroCells v.cells (cap-k.toNat)) T)) ⟨rfl,rfl,rfl,by simp,λk hk=>heap_alloc_old w.drew _ k hk⟩ (Ai _) (heap_alloc_new w.drew _) (Gu _) (λh=>by rw [iX] at h;cases h) (λj u d hu hd=>by simp at hd)
 refine ⟨.value (.slice (some ⟨w.heap.size,0,none⟩) k.toNat cap),_,_,_,?_,.inl rfl,Ct,qN (.ms nid 0 _ _ w.heap.size _ _ T (by simp) (heap_alloc_new w.drew _) Yc aH ?_) rfl⟩
 .simp [execOp,ho,resolve,hc,hA,hT,invoke,builtin,hx,hkk,Fo]
 .simp only [Array.size_append,size_zeroCells,mA,M6,He,<- Dz]
  rw [Cp]
  congr 1
  omega
theorem Aq6{P:Program}(w:World)(t ty e:TypeId)(i:TypeInfo)(ht:P.underlying t=some (.slice e))(hi:P.info? e=some i)
  (g off fY E9:Nat) (cur:Array Value) (hg:w.heap[g]?=some (.cells cur e (0,0)))
  (a:Addr) (m c:Nat) (news:List Value) (hl:news.length=m*i.size) (IM:∀ j u,news[j]?=some u->w.cell? (a.add j)=some u) (h1:∀ u∈news,u.oneCell'=true)
  (dW:fY+m<=E9) (Qp:off+fY*i.size+news.length<=cur.size) :
  (Builtin.append_ #[t,t] ty #[.slice (some ⟨g,off,none⟩) fY E9,.slice (some a) m c]).run P w =
   .ok (.slice (some ⟨g,off,none⟩) (fY+m) E9) (w.setRow g (cur.toList.take (off+fY*i.size)++news++cur.toList.drop (off+fY*i.size+news.length)).toArray):=by
 have hf:=run_firstCells_some (P:=P) w i.size m a m c news hl IM
 have If:=run_storeCells_at P g (off+fY*i.size) e news 0 cur w hg (by simpa using Qp) h1
 simp only [Oq] at If
 simp [Builtin.append_,run_underlying ht,sizeOf,typeInfo,hi,Builtin.lenOf,dW,hf,Addr.add_lit,If]
theorem Cv2{t T:TypeId}(iX:Oj C.P T=false){c:Call}{x y:Operand}{z:List Value}{es bytes:Nat}{l:List (DV×Upd)}(ho:o.op=.call c)(hc:c.callee=.builtin .append)(Di:c.args.toList=[x,y])(Ys:c.argTypes.toList=[t,t])
  (ht:C.P.underlying t=some (.slice T)) (hz:Mh C.P T=some z) (Rs:z.length=C.P.cellsOf T) (M6:es=C.P.cellsOf T) (U6:bytes=C.P.bytesOf T) (hs:HoldsB C U s β a w) (Kk:¬ U nid) (h:Uf nid s (.app T es bytes x y)=some l) :
  ∃ p∈l,OpOk C (Un U nid) a w o p.1 (s.upd nid p.2):=by
 obtain ⟨i,v,hi,hv,rfl,h1z⟩:=R5 hz
 have He:C.P.cellsOf T=i.size:=by simp [Program.cellsOf,hi]
 have N3:C.P.bytesOf T=i.bytes:=by simp [Program.bytesOf,hi]
 have hA:c.args = #[x,y]:=by apply De;simpa using Di
 have hT:c.argTypes = #[t,t]:=by apply De;simpa using Ys
 have mA:v.cells.size=i.size:=by rw [He] at Rs;simpa using Rs
 simp only [Uf] at h
 split at h
 rotate_left
 .cases h
 rename_i id off n es' news m hx rF
 split at h
 rotate_left
 .cases h
 rename_i T' cs Ig
 split at h
 rotate_left
 .cases h
 rename_i hh
 obtain ⟨hT',Ma,J6,hlen,oR,hm,he,Zi,Ww⟩:=hh
 subst T' es'
 cases h
 obtain ⟨us,ul,u1,ur,jX⟩:=nB hs rF
 have T3:us.length=m*es:=by omega
 have h1:=hs.ev x
 rw [hx] at h1
 rcases mR h1 with ⟨_,h0,_⟩ | ⟨b,cap,cc,T,e1,hb,hw,hn,aH,Pf⟩
 .exact absurd h0 J6
 obtain ⟨c',Sf,eE,_,hr⟩:=hs.row hb Ig
 rw [hw] at Sf
 injection Sf with Sf
 injection Sf with Te jH
 subst jH Te
 obtain ⟨ad,MB,e2,Om⟩:∃ ad cap,a.eval y=.slice (some ad) m cap/\∀ (j:Nat) (u:Value),us[j]?=some u->w.cell? (ad.add j)=some u:=by
  rcases jX with h | ⟨_,_,h,_⟩
  .exact h
  .omega
 have Mt:b<w.heap.size:=(Bt.1 hw).1
 have Ha:id≠nid:=λe=>Kk (e ▸ hs.hh.used (lS (by rw [Ig];rfl)))
 have yP:∀ i,some id=some i->(s.ho i).isSome=true:=λi hi=>by cases hi;rw [Ig];rfl
 have tV:es=i.size:=by omega
 subst tV
 by_cases dW:n+m<=cap
 .have Qp:off+n*i.size+us.length<=cc.size:=by
   rw [T3,<- Pf,Mr,<- Dz]
   exact Nat.add_le_add_left (Cu _ dW) _
  have Fo:=Aq6 (P:=C.P) w t o.type T i ht hi b off n cap cc hw ad m MB us T3 Om u1 dW Qp
  generalize hrw:(cc.toList.take (off+n*i.size)++us++cc.toList.drop (off+n*i.size+us.length)).toArray=row at Fo
  have aC:(w.setRow b row).heap[b]?=some (.cells row T (0,0)):=setRow_heap w b cc _ T _ hw
  have yJ:row.size=cc.size:=by
   rw [<- hrw]
   simp only [Ot,Ap,Bs,Cr,Ck]
   omega
  have dT:=hs.turned (β':=upd (UI β (some id)) nid (some b)) (w':=w.setRow b row) Kk (some id) yP (.row T (cs++news))
   (λb' _ Ht=>setRow_other w b b' _ (λe=>Ht id rfl (by rw [e];exact hb)))
   rfl rfl rfl (by simp)
   (λj hj K4=>by rw [aP _ _ hj];exact aP β _ (λe=>K4 (by rw [e])))
   (λj hj=>by cases hj;rw [aP _ _ Ha];exact Dc _ _ _)
   (λb' Ht=>by rw [Dc] at Ht;cases Ht;exact ⟨.inl ⟨id,rfl,hb⟩,by simpa using Mt⟩)
   (λCe=>.inr ⟨b,row,by rw [Dc],aC,by rw [yJ,Ap];omega,λh=>(by rw [iX] at h;cases h),λj u d hu hd=>by
    rw [<- hrw] at hu
    simp only [Pm,Bu] at hu
    rw [Dr] at hu hd
    have Ez:(cc.toList.take (off+n*i.size)).length=cs.length:=by rw [Bs,Ck];omega
    rw [Ez] at hu
    by_cases hj:j<cs.length
    .rw [Af hj] at hu hd
     rw [Bz] at hu
     split at hu
     .have:=hr j u d (by simpa using hu) hd
      exact ⟨Ce _ _ this.1,this.2⟩
     .cases hu
    .rw [Ad hj] at hu hd
     have Qv:j-cs.length<us.length:=by have:=(As.1 hd).1;omega
     rw [Cz Qv] at hu
     exact ⟨Ce _ _ (ur _ u d hu hd),u1 u (Au hu)⟩⟩)
  refine ⟨_,Be _ (Am.2 rfl),.value (.slice (some ⟨b,off,none⟩) (n+m) cap),_,_,_,?_,.inl rfl,dT.1,?_⟩
  .simp [execOp,ho,resolve,hc,hA,hT,invoke,builtin,e1,e2,Fo]
  .exact qN (.ms nid off (n+m) _ b cap row T (Dc _ _ _) aC dW aH (by rw [yJ,Pf])) rfl
 .have Gg:((cc.toList.drop off).take (n*i.size)).length=n*i.size:=by
   simp only [Bs,Cr,Ck];omega
  obtain ⟨v',w',Fo,Xz,hg⟩:=run_append_arg_grows (P:=C.P) w t o.type T i v i.size bytes ht hi hv (by omega) (by omega) (by omega) he ⟨b,off,none⟩ n cap ((cc.toList.drop off).take (n*i.size)) Gg
   (λj u hu=>by
    rw [Addr.add_lit,cell_of_row w b (off+j) cc T (0,0) hw]
    rw [Bz] at hu
    split at hu
    .rw [Js] at hu;simpa using hu
    .cases hu) ad m MB us T3 Om (by omega) (by simp only [maxLen];omega) (by have:=aQ Zi Ww;omega)
  rcases Xz.2 with ⟨_,h2⟩ | ⟨g,qh,cur,e3,pG,oX,kP,jo,KA,iS⟩
  .omega
  have QF:g<w'.heap.size:=(Bt.1 oX).1
  have dT:=hs.turned (β':=upd (UI β (some id)) nid (some g)) (w':=w') Kk (some id) yP (.row T (cs.drop off++news))
   (λb' Ht _=>hg.block b' Ht (by simp))
   hg.os hg.tape hg.output hg.size
   (λj hj K4=>by rw [aP _ _ hj];exact aP β _ (λe=>K4 (by rw [e])))
   (λj hj=>by cases hj;rw [aP _ _ Ha];exact Dc _ _ _)
   (λb' Ht=>by rw [Dc] at Ht;cases Ht;exact ⟨.inr pG,QF⟩)
   (λCe=>.inr ⟨g,cur,by rw [Dc],oX,(by
    rw [KA,Ap,Cr,oR]
    have:cs.length-off=n*i.size:=by omega
    rw [this,<- Dz]
    exact Cu _ kP),λh=>(by rw [iX] at h;cases h),λj u d hu hd=>by
    have hj:j<(n+m)*i.size:=by
     have:=(As.1 hd).1
     rw [Ap,Cr,oR] at this
     rw [Dz];omega
    have Jq:((cc.toList.drop off).take (n*i.size)++us)[j]?=some u:=by
     rw [<- iS,Dw hj]
     simpa using hu
    rw [Dr] at Jq hd
    rw [Gg] at Jq
    have hdl:(cs.drop off).length=n*i.size:=by rw [Cr];omega
    rw [hdl] at hd
    by_cases yZ:j<n*i.size
    .rw [Af yZ] at Jq hd
     rw [Dw yZ,Js] at Jq
     rw [Js] at hd
     have:=hr _ u d (by simpa using Jq) hd
     exact ⟨Ce _ _ this.1,this.2⟩
    .rw [Ad yZ] at Jq hd
     exact ⟨Ce _ _ (ur _ u d Jq hd),u1 u (Au Jq)⟩⟩)
  refine ⟨_,Dv,.value v',_,_,_,?_,.inl rfl,dT.1,?_⟩
  .simp [execOp,ho,resolve,hc,hA,hT,invoke,builtin,e1,e2,Fo]
  .rw [e3]
   exact qN (.ms nid 0 (n+m) i.size g qh cur T (Dc _ _ _) oX kP jo (by rw [KA];omega)) rfl
end ops
end Go.DD

/- Maps among the own objects: made, read, written, counted. Keys: bools, integers, strings. -/
namespace Go.DD
open Go.RowKit (Below)
theorem Bs3{d:TypeDesc}{v:Value}(h:OF d v=true):MapKept.IsKey d v:=by
 cases d <;> cases v <;> simp_all [OF,MapKept.IsKey]
theorem bytes_beq(a b:ByteArray):(a==b)=(a.data.toList==b.data.toList):=by
 obtain ⟨x⟩:=a
 obtain ⟨y⟩:=b
 show (x==y)=(x.toList==y.toList)
 rw [Yr]
 simp only [Gm]
 exact ⟨λh=>by rw [h],λh=>Jl.1 h⟩
theorem xg(d:TypeDesc)(k x:Value):Xr d k x=Instr.sameNow d k x:=by
 cases d <;> cases k <;> cases x <;> simp [Xr,Instr.sameNow,bytes_beq]
theorem B42{kd:TypeDesc}{k x:Value}(h:Xr kd k x=some true):x=k:=by
 unfold Xr at h
 split at h
 .split at h
  .rename_i e;subst e;simp at h;rw [h]
  .cases h
 .simp only [Ed,Gm] at h
  congr 1
  rename_i x y
  obtain ⟨x⟩:=x
  obtain ⟨y⟩:=y
  simp only at h
  rw [Jl.1 h]
 .simp at h;rw [h]
 .cases h
theorem Bs4{kd:TypeDesc}{k:Value}(h:OF kd k=true):Instr.sameBits 10000 k k=true:=by
 unfold OF at h
 split at h
 .simp [Instr.sameBits]
 .simp [Instr.sameBits]
 .rw [Instr.sameBits,bytes_beq];simp
 .cases h
theorem bytes_inj{a b:ByteArray}(h:(a.toList==b.toList)=true):a=b:=by
 have e:a.toList=b.toList:=by simpa using h
 rw [ByteArray.toList_eq,ByteArray.toList_eq] at e
 obtain ⟨a⟩:=a
 obtain ⟨b⟩:=b
 congr 1
 exact Jl.1 e
theorem Bs5{ks:List Nat}{a b:Value}{r:Bool}(h:Nc (.f ks) a b=some r):∃ xs ys:Array Value,a=.agg xs/\b=.agg ys/\Rw ks (xs.toList.map .v) (ys.toList.map .v)=some r:=by
 cases a <;> cases b <;> simp only [Nc] at h <;> first | (cases h;done) | exact ⟨_,_,rfl,rfl,h⟩
theorem Bh0{ks:List Nat}{a:Value}(h:fS (.f ks) a=true):∃ xs:Array Value,a=.agg xs/\Hr ks xs.toList=true:=by
 cases a <;> simp only [fS] at h <;> first | (cases h;done) | exact ⟨_,rfl,h⟩
theorem B43{k:Nat}{x y:Value}(h:iA k (.v x) (.v y)=some true):x=y:=by
 match k with
 | 0=>
  cases x <;> cases y <;> simp only [iA] at h <;> first | (cases h;done) | skip
  split at h
  .rename_i hk;subst hk;simp at h;rw [h]
  .cases h
 | 1=>cases x <;> cases y <;> simp only [iA] at h <;> first | (cases h;done) | (have:=(Ge h);simp at this;rw [this])
 | 2=>cases x <;> cases y <;> simp only [iA] at h <;> first | (cases h;done) | exact Mq Value.string (bytes_inj (by simpa using h))
 | k+3=>cases x <;> cases y <;> simp [iA] at h
theorem Bh1:∀ {ks:List Nat} {xs ys:List Value},Rw ks (xs.map .v) (ys.map .v)=some true->xs=ys
 | [],[],[],_=>rfl
 | k::ks,x::xs,y::ys,h=>by
  simp only [Ag,Rw] at h
  split at h
  .rename_i hc;rw [B43 hc,Bh1 h]
  .cases h
  .cases h
 | [],_::_,_,h=>by simp [Rw] at h
 | [],[],_::_,h=>by simp [Rw] at h
 | _::_,[],_,h=>by simp [Rw] at h
 | _::_,_::_,[],h=>by simp [Rw] at h
structure KLaw (P:Program) (kt:TypeId) (kd:KD):Prop where
 chk:∀ (w:World) (e:Bool) (kv:Value),fS kd kv=true->(Instr.checkKey e 10000 kt kv).run P w=.ok () w
 one:∀ (kv x:Value),Nc kd kv x=some true->x=kv
 bits:∀ kv,fS kd kv=true->Instr.sameBits 10000 kv kv=true
 find:∀ (w:World) (kv:Value) (ms:List MapEntry) (es:List ME) (i:Nat) (r:Option (Nat×ME)),ms.length=es.length->(∀ (j:Nat) (e:MapEntry) (p:ME),ms[j]?=some e->es[j]?=some p->e.key=p.k)->findD kd kv es i=some r->
  (r=none/\∀ f,i=0->f=ms->(Instr.findKey kt kv f).run P w=.ok none w)\/∃ j e p,r=some (i+j,p)/\ms[j]?=some e/\es[j]?=some p/\(∀ f,i=0->f=ms->(Instr.findKey kt kv f).run P w=.ok (some (i+j,e.val)) w)/\Nc kd kv e.key=some true
theorem Bh2{d:TypeDesc}{k:Value} : ∀ (ms:List MapEntry) (es:List ME) (i:Nat) (r:Option (Nat×ME)),ms.length=es.length->(∀ (j:Nat) (e:MapEntry) (p:ME),ms[j]?=some e->es[j]?=some p->e.key=p.k)->
  findD (.p d) k es i=some r->(r=none/\Instr.findNow d k ms i=some none)\/
   ∃ j e p,r=some (i+j,p)/\ms[j]?=some e/\es[j]?=some p/\Instr.findNow d k ms i=some (some (i+j,e.val))/\Xr d k e.key=some true
 | [],[],i,r,_,_,h=>by simp [findD] at h;subst h;exact .inl ⟨rfl,rfl⟩
 | [],_::_,_,_,h,_,_=>by simp at h
 | _::_,[],_,_,h,_,_=>by simp at h
 | m::ms,p::ps,i,r,hl,hk,h=>by
  have Jc:m.key=p.k:=hk 0 m p rfl rfl
  simp only [findD,Nc] at h
  split at h
  .rename_i hs
   cases h
   refine .inr ⟨0,m,p,rfl,rfl,rfl,?_,by rw [Jc];exact hs⟩
   simp [Instr.findNow,<- xg,Jc,hs]
  .rename_i hs
   rcases Bh2 ms ps (i+1) r (by simpa using hl) (λj e q he hq=>hk (j+1) e q (by simpa using he) (by simpa using hq)) h with ⟨h1,h2⟩ | ⟨j,e,v,h1,h2,h3,h4,h5⟩
   .refine .inl ⟨h1,?_⟩
    simp [Instr.findNow,<- xg,Jc,hs,h2]
   .refine .inr ⟨j+1,e,v,by rw [h1];congr 2;omega,by simpa using h2,by simpa using h3,?_,h5⟩
    simp [Instr.findNow,<- xg,Jc,hs,h4];omega
  .cases h
theorem Cv3{P:Program}{kt:TypeId}{d:TypeDesc}(hu:P.underlying kt=some d):KLaw P kt (.p d) where
 chk:=λw e kv h=>MapKept.run_checkKey hu (Bs3 h) e 9999
 one:=λkv x h=>B42 h
 bits:=λkv h=>Bs4 h
 find:=λw kv ms es i r hl hk h=>by
  rcases Bh2 ms es i r hl hk h with ⟨h1,h2⟩ | ⟨j,e,p,h1,h2,h3,h4,h5⟩
  .exact .inl ⟨h1,λf hi hf=>by subst hi hf;exact MapKept.run_findKey hu h2⟩
  .exact .inr ⟨j,e,p,h1,h2,h3,λf hi hf=>by subst hi hf;exact MapKept.run_findKey hu h4,h5⟩
theorem Cb8{P:Program}{kt:TypeId}{ks:List Nat}(iQ:(match P.underlying kt with | some (.array _ _) | some (.struct _)=>true | _=>false)=true)
  (N1:∀ (w:World) (e:Bool) (cs:Array Value),Hr ks cs.toList=true->(Instr.checkKey e 10000 kt (.agg cs)).run P w=.ok () w)
  (heq:∀ (w:World) (xs ys:Array Value) (r:Bool),Rw ks (xs.toList.map .v) (ys.toList.map .v)=some r->(Op.equal kt (.agg xs) (.agg ys)).run P w=.ok r w):KLaw P kt (.f ks) where
 chk:=λw e kv h=>by
  obtain ⟨cs,rfl,h⟩:=Bh0 h
  exact N1 w e _ h
 one:=λkv x h=>by
  obtain ⟨xs,ys,rfl,rfl,h⟩:=Bs5 h
  have:=Bh1 h
  rw [Jl.1 this]
 bits:=λkv h=>by
  obtain ⟨cs,rfl,h⟩:=Bh0 h
  .have key:∀ (ks:List Nat) (l:List Value),Hr ks l=true->∀ p∈l.zip l,(Instr.sameBits 9999 p.1 p.2)=true:=by
    intro ks l
    induction l generalizing ks with
    | nil=>simp
    | cons a l ih=>
     intro h p hp
     simp only [List.zip_cons_cons,Aq] at hp
     unfold Hr at h
     split at h
     .rename_i e;cases e
     .rename_i e;cases e
      rcases hp with rfl | hp
      .simp [Instr.sameBits]
      .exact ih _ h p hp
     .rename_i e;cases e
      rcases hp with rfl | hp
      .simp [Instr.sameBits]
      .exact ih _ h p hp
     .rename_i e;cases e
      rcases hp with rfl | hp
      .rw [Instr.sameBits,bytes_beq];simp
      .exact ih _ h p hp
     .cases h
   show Instr.sameBits (9999+1) (.agg cs) (.agg cs)=true
   simp only [Instr.sameBits,Ji,Bool.true_and,Bi]
   exact key ks cs.toList h
 find:=λw kv ms es i r hl hk h=>by
  have key:∀ (ms:List MapEntry) (es:List ME) (i:Nat) (r:Option (Nat×ME)),ms.length=es.length->(∀ (j:Nat) (e:MapEntry) (p:ME),ms[j]?=some e->es[j]?=some p->e.key=p.k)->findD (.f ks) kv es i=some r->
    (r=none/\(Instr.findAsking kt kv ms i).run P w=.ok none w)\/∃ j e p,r=some (i+j,p)/\ms[j]?=some e/\es[j]?=some p/\(Instr.findAsking kt kv ms i).run P w=.ok (some (i+j,e.val)) w/\Nc (.f ks) kv e.key=some true:=by
   intro ms
   induction ms with
   | nil=>
    intro es i r hl _ h
    cases es with
    | nil=>simp [findD] at h;subst h;exact .inl ⟨rfl,by simp [Instr.findAsking]⟩
    | cons _ _=>simp at hl
   | cons m ms ih=>
    intro es i r hl hk h
    cases es with
    | nil=>simp at hl
    | cons p ps=>
     have Jc:m.key=p.k:=hk 0 m p rfl rfl
     have Fo:∀ b,Nc (.f ks) kv p.k=some b->(Op.equal kt kv m.key).run P w=.ok b w:=by
      intro b hb
      rw [Jc]
      obtain ⟨xs,ys,e1,e2,hb⟩:=Bs5 hb
      rw [e1,e2]
      exact heq w _ _ b hb
     simp only [findD] at h
     split at h
     .rename_i hs
      cases h
      refine .inr ⟨0,m,p,rfl,rfl,rfl,?_,by rw [Jc];exact hs⟩
      simp [Instr.findAsking,Fo _ hs]
     .rename_i hs
      rcases ih ps (i+1) r (by simpa using hl) (λj e q he hq=>hk (j+1) e q (by simpa using he) (by simpa using hq)) h with ⟨h1,h2⟩ | ⟨j,e,v,h1,h2,h3,h4,h5⟩
      .exact .inl ⟨h1,by simp [Instr.findAsking,Fo _ hs,h2]⟩
      .refine .inr ⟨j+1,e,v,by rw [h1];congr 2;omega,by simpa using h2,by simpa using h3,?_,h5⟩
       simp [Instr.findAsking,Fo _ hs,h4];omega
     .cases h
  rcases key ms es i r hl hk h with ⟨h1,h2⟩ | ⟨j,e,p,h1,h2,h3,h4,h5⟩
  .exact .inl ⟨h1,λf hi hf=>by subst hi hf;rw [run_findKey_eq w iQ];exact h2⟩
  .exact .inr ⟨j,e,p,h1,h2,h3,λf hi hf=>by subst hi hf;rw [run_findKey_eq w iQ];exact h4,h5⟩
theorem Aq7{P:Program}{w:World}{t:TypeId}{k:Nat}{v:Value}(h:rY P t=some k)(e:Bool)(n:Nat)(hv:Hr [k] [v]=true):(Instr.checkKey e (n+1) t v).run P w=.ok () w:=by
 unfold rY at h
 unfold Instr.checkKey
 split at h <;> first | (cases h;done) | skip
 all_goals
  rename_i hu
  simp only [Sem.run_bind,run_underlying hu,Result.andThen_ok]
  cases h
  cases v <;> first | (simp [Hr] at hv;done) | rfl
theorem Ax3{k:Nat}{ks:List Nat}{l:List Value}(h:Hr (k::ks) l=true):∃ v l',l=v::l'/\Hr [k] [v]=true/\Hr ks l'=true:=by
 cases l with
 | nil=>unfold Hr at h;simp at h
 | cons v l=>
  refine ⟨v,l,rfl,?_⟩
  match k with
  | 0=>cases v <;> simp_all [Hr]
  | 1=>cases v <;> simp_all [Hr]
  | 2=>cases v <;> simp_all [Hr]
  | k+3=>cases v <;> simp [Hr] at h
theorem A81{P:Program}{t:TypeId}{k:Nat}(h:rY P t=some k)(w:World):(isAgg t).run P w=.ok false w:=by
 unfold rY at h
 simp only [isAgg,Sem.run_bind]
 split at h <;> first | (rename_i hu;rw [run_underlying hu];rfl) | cases h
theorem A36{P:Program}{w:World}{t:TypeId}{k:Nat}{x y:Value}{b:Bool}(hp:rY P t=some k)(h:iA k (.v x) (.v y)=some b)(d:Nat):(Op.equalIn (d+1) t x y).run P w=.ok b w:=by
 unfold rY at hp
 unfold iA at h
 split at h
 .rename_i e1 e2;cases e1;cases e2
  split at h
  .cases h
   rename_i hk
   subst hk
   split at hp <;> cases hp
   rename_i hu;exact run_equalIn_int w d _ _ _ _ _ hu
  .cases h
 .rename_i e1 e2;cases e1;cases e2
  cases h
  split at hp <;> cases hp
  rename_i hu;exact run_equalIn_bool' w d _ _ _ hu
 .rename_i e1 e2;cases e1;cases e2
  cases h
  split at hp <;> cases hp
  rename_i hu;exact run_equalIn_string w d _ _ _ hu
 .cases h
theorem tC{P:Program}{kt:TypeId}{kd:KD}(h:Tv P kt=some kd):KLaw P kt kd:=by
 unfold Tv at h
 split at h
 .rename_i fs hu
  split at h
  rotate_left
  .cases h
  rename_i If
  obtain ⟨ks,hf,rfl⟩:=Ac.1 h
  refine Cb8 (by rw [hu]) (λw e cs hc=>?_) (λw xs ys r hr=>?_)
  .show (Instr.checkKey e (9999+1) kt (.agg cs)).run P w=.ok () w
   rw [Instr.checkKey]
   simp only [Sem.run_bind,run_underlying hu,Result.andThen_ok]
   rw [<- Array.forIn_toList]
   have key:∀ (L:List Field) (ks:List Nat) (off:Nat),qQ P off L=some ks->Hr ks (cs.toList.drop off)=true->
     (forIn L PUnit.unit (λ(f:Field) (_:PUnit)=>(do
      if f.name ≠ "_" then
       Instr.checkKey e 9999 f.type (<- part f.type cs f.offset)
       pure (ForInStep.yield PUnit.unit)
      else pure (ForInStep.yield PUnit.unit):Sem (ForInStep PUnit)))).run P w=.ok PUnit.unit w:=by
    intro L
    induction L with
    | nil=>intro ks off _ _;simp
    | cons f L ih=>
     intro ks off hk hc
     simp only [qQ] at hk
     split at hk
     rotate_left
     .cases hk
     rename_i J9
     simp only [Bo,bne_iff_ne,Bx,Gm] at J9
     obtain ⟨hn,ho⟩:=J9
     obtain ⟨k,hp,hk⟩:=Az.1 hk
     obtain ⟨ah,aD,rfl⟩:=Ac.1 hk
     obtain ⟨v,l',e1,hv,hl⟩:=Ax3 hc
     have Ez:off<cs.toList.length:=by
      rcases Dd off cs.toList.length with h1 | h1
      .exact h1
      .rw [Bc h1] at e1;cases e1
     rw [Bb Ez] at e1
     injection e1 with e1 e2
     have px:(part f.type cs f.offset).run P w=.ok v w:=by
      subst ho
      simp at e1 Ez
      simp [part,A81 hp w,Ez,e1]
     have pc:=Aq7 (w:=w) hp e 9998 hv
     rw [<- e2] at hl
     simp only [List.forIn_cons,Sem.run_bind,hn,Bx,Ah,Ex,Result.andThen_ok,px,pc,Sem.run_pure]
     exact ih ah (off+1) aD hl
   have:=key fs.toList ks 0 hf (by simpa using hc)
   rw [this];rfl
  .have hfs:P.fieldsOf kt=fs:=by simp [Program.fieldsOf,hu]
   have he:=sw (w:=w) (β:=λ_=>none) (P:=P) (al:=λ_=>True) 9998 fs.toList ks 0 xs.toList ys.toList (xs.toList.map .v) (ys.toList.map .v) r hf (by simpa using hr) (by simp) (by simp)
    (λj u d hu hd=>by simp only [Ee,hu,Cf,Ed] at hd;subst hd;exact .imm _ _ (.v u)) (λj u d hu hd=>by simp only [Ee,hu,Cf,Ed] at hd;subst hd;exact .imm _ _ (.v u))
   have h3:=run_equalIn_struct (P:=P) w 9999 kt xs ys (by rw [hfs];exact hu) If
   rw [hfs] at h3
   exact h3.trans (by simpa using he)
 .rename_i n el hu
  split at h
  rotate_left
  .cases h
  rename_i IH
  obtain ⟨k,hp,rfl⟩:=Ac.1 h
  obtain ⟨_,He,inf,hi,U2⟩:=NX IH (default:World)
  have He:∀ w,(sizeOf el).run P w=.ok 1 w:=λw=>(NX IH w).2.1
  have px:∀ (w:World) (cs:Array Value) (off:Nat) (v:Value),cs[off]?=some v->(part el cs off).run P w=.ok v w:=λw cs off v hv=>by simp [part,A81 hp w,hv]
  refine Cb8 (by rw [hu]) (λw e cs hc=>?_) (λw xs ys r hr=>?_)
  .show (Instr.checkKey e (9999+1) kt (.agg cs)).run P w=.ok () w
   rw [Instr.checkKey]
   simp only [Sem.run_bind,run_underlying hu,Result.andThen_ok]
   simp only [Std.Legacy.Range.forIn_eq_forIn_range',Std.Legacy.Range.size,Nat.sub_zero,Nat.add_one_sub_one,Nat.div_one]
   have key:∀ (m off:Nat),Hr (List.replicate m k) (cs.toList.drop off)=true->
     (forIn (List.range' off m) PUnit.unit (λ(i:Nat) (_:PUnit)=>(do
      Instr.checkKey e 9999 el (<- part el cs (i*(<- sizeOf el)))
      pure (ForInStep.yield PUnit.unit):Sem (ForInStep PUnit)))).run P w=.ok PUnit.unit w:=by
    intro m
    induction m with
    | zero=>intro off _;simp
    | succ m ih=>
     intro off hc
     rw [Jd] at hc
     obtain ⟨v,l',e1,hv,hl⟩:=Ax3 hc
     have Ez:off<cs.toList.length:=by
      rcases Dd off cs.toList.length with h1 | h1
      .exact h1
      .rw [Bc h1] at e1;cases e1
     rw [Bb Ez] at e1
     injection e1 with e1 e2
     have mF:cs[off]?=some v:=by
      rw [<- e1];simp at Ez;simp [Ez]
     have pc:=Aq7 (w:=w) hp e 9998 hv
     rw [<- e2] at hl
     rw [List.range'_succ]
     simp only [List.forIn_cons,Sem.run_bind,He,Result.andThen_ok,Nat.mul_one,px w cs off v mF,pc,Sem.run_pure]
     exact ih (off+1) hl
   have:=key n 0 (by simpa using hc)
   rw [this];rfl
  .have K5:∀ (m off:Nat),Rw (List.replicate m k) ((xs.toList.drop off).map .v) ((ys.toList.drop off).map .v)=some r->(Op.eqItems 9999 el 1 xs ys (List.range' off m)).run P w=.ok r w:=by
    intro m
    induction m with
    | zero=>
     intro off h
     simp only [List.replicate_zero] at h
     unfold Rw at h
     split at h <;> simp_all [Op.eqItems]
    | succ m ih=>
     intro off h
     rw [Jd] at h
     have hc:off<xs.toList.length:=by
      rcases Dd off xs.toList.length with h1 | h1
      .exact h1
      .rw [Bc h1] at h;simp [Rw] at h
     have hd:off<ys.toList.length:=by
      rcases Dd off ys.toList.length with h1 | h1
      .exact h1
      .rw [Bc h1] at h;simp [Rw] at h
     rw [Bb hc,Bb hd] at h
     simp only [Ag,Rw] at h
     have gx:=px w xs off xs.toList[off] (by simp at hc;simp [hc])
     have gy:=px w ys off ys.toList[off] (by simp at hd;simp [hd])
     rw [List.range'_succ]
     cases hq:iA k (.v xs.toList[off]) (.v ys.toList[off]) with
     | none=>rw [hq] at h;cases h
     | some b=>
      rw [hq] at h
      have pe:=A36 (w:=w) hp hq 9998
      simp only [Op.eqItems,Sem.run_bind,Nat.mul_one,gx,gy,pe,Result.andThen_ok]
      cases b
      .simp at h;subst h;simp
      .simpa using ih (off+1) h
   show (Op.equalIn (9999+1) kt (.agg xs) (.agg ys)).run P w=.ok r w
   rw [run_equalIn_array w 9999 xs ys hu hi]
   have tY:P.cellsOf el=1:=by unfold Program.cellsOf;simp [hi,U2]
   rw [tY,List.range_eq_range']
   exact K5 n 0 (by simpa using hr)
 .rename_i d oT Ya hu
  cases h
  exact Cv3 hu
 .cases h
theorem Bs6{P:Program}{w:World}{al:Nat->Prop}{β:Nat->Option Nat} : ∀ {us:List Value} {cs:List DV} {l:List Value},mU cs=some l->us.length=cs.length->(∀ (j:Nat) (u:Value) (d:DV),us[j]?=some u->cs[j]?=some d->Rel P w al β u d)->us=l
 | us,[],l,h,hl,_=>by simp [mU] at h;subst h;simpa using hl
 | [],_::_,_,_,hl,_=>by simp at hl
 | u::us,c::cs,l,h,hl,hr=>by
  unfold mU at h
  split at h
  .rename_i e;cases e
  .rename_i x l' e;cases e
   split at h
   .obtain ⟨r,eA,rfl⟩:=Ac.1 h
    have e1:u=x:=Eb (hr 0 u _ rfl rfl)
    have e2:us=r:=Bs6 eA (by simpa using hl) λj u d hu hd=>hr (j+1) u d (by simpa using hu) (by simpa using hd)
    rw [e1,e2]
   .cases h
  .cases h
theorem iP{P:Program}{w:World}{al:Nat->Prop}{β:Nat->Option Nat}{x kv:Value}{d:DV}(h:Rel P w al β x d)(hk:Tu d=some kv):x=kv:=by
 unfold Tu at hk
 split at hk
 .cases hk;exact Eb h
 .rename_i cs
  obtain ⟨l,hl,rfl⟩:=Ac.1 hk
  obtain ⟨vs,rfl,h1,_,h2⟩:=X1 h
  rw [Bs6 hl h1 h2]
 .cases hk
section ops
variable {C:Ctx} {U:Nat->Prop} {s:DS} {β:Nat->Option Nat} {a:Act} {w:World} {o:Oper} {d:DV} {s':DS} {nid:Nat}
theorem HoldsB.mapo{id b ck:Nat}{es:List ME}(hs:HoldsB C U s β a w)(hb:β id=some b)(ho:s.ho id=some (.mapo ck es)) :
  ∃ ms,w.heap[b]?=some (.map ms ck)/\ms.size=es.length/\∀ (j:Nat) (e:MapEntry) (p:ME),ms[j]?=some e->es[j]?=some p->e.key=p.k/\e.born=p.b/\WV C U (s.vw C) β w e.val p.v:=by
 obtain ⟨b',ms,Ht,h1,h2,h4⟩:=hs.hh.hp id _ (dB ho)
 rw [hb] at Ht;cases Ht
 exact ⟨ms,h1,h2,h4⟩
theorem Cv4{t:TypeId}(ho:o.op=.makeMap t none)(hs:HoldsB C U s β a w)(hn:¬ U nid):OpOk C (Un U nid) a w o (.mp nid) (s.upd nid (.lay (.mapo 0 []))):=by
 have Mt:=R9 w (.map #[] 0)
 have hf:=(hs.turned (β':=upd β nid (some w.heap.size)) (w':=w.alloc (.map #[] 0)) hn none (λ_ h=>by cases h) (.mapo 0 []) (λb hb _=>Mt.block b hb) Mt.os Mt.tape Mt.output Mt.size (λj hj _=>aP β _ hj) (λ_ h=>by cases h)
  (λb hb=>by rw [Dc] at hb;cases hb;exact ⟨.inr (Ai _),by simp⟩) (λ_=>⟨_,#[],Dc _ _ _,heap_alloc_new w _,rfl,by simp⟩)).1
 refine ⟨.value (.map (some w.heap.size)),_,_,_,?_,.inl rfl,hf,qN (.mp nid _ (by simp)) rfl⟩
 simp [execOp,ho,Instr.makeMap]
theorem TG{V:Nat->Option DObj}{ok b:Bool}{x:Value}{v:DV}(h:WV C U V β w x v):WV C U V β w (if ok then .tuple #[x,.bool b] else x) (Gj ok v b):=by
 unfold Gj
 cases ok
 .exact h
 .refine ⟨λid hi=>?_,λha=>.tup [x,.bool b] _ rfl λj u d hu hd=>?_,TP.of_wv (C:=C) (U:=U) (V:=V) (β:=β) (w:=w) (us:=[x,.bool b]) rfl λj u d hu hd=>?_⟩
  .simp [DV.refs,DV.refsL] at hi;exact h.1 id hi
  .match j with
   | 0=>simp at hu hd;subst hu hd;exact h.2.1 λid hi=>ha id (by simp [DV.refs,DV.refsL,hi])
   | 1=>simp at hu hd;subst hu hd;exact .imm _ _ (.v _)
   | j+2=>simp at hu
  .match j with
   | 0=>simp at hu hd;subst hu hd;exact h
   | 1=>simp at hu hd;subst hu hd;exact WV.v _
   | j+2=>simp at hu
theorem xf{P:Program}{et:TypeId}{z:Value}(hz:(P.info? et).bind (·.zero)=some z)(w:World):(zeroValue et:Sem Value).run P w=.ok z w:=by
 obtain ⟨i,hi,hz'⟩:=Az.1 hz
 simp [zeroValue,typeInfo,hi,hz']
theorem Cv5{t kt et:TypeId}{kd:KD}{x k:Operand}{ok:Bool}{kv z:Value}(ho:o.op=.lookup t x k ok)(ht:C.P.underlying t=some (.map kt et))(Vk:Tv C.P kt=some kd)
  (hz:(C.P.info? et).bind (·.zero)=some z) (hs:HoldsB C U s β a w) (hk:Tu (s.ev k)=some kv) (Jc:fS kd kv=true) :
  (s.ev x=.v (.map none)->OpOk C U a w o (Gj ok (.v z) false) s)/\
  (∀ id ck es r,s.ev x=.mp id->s.ho id=some (.mapo ck es)->findD kd kv es 0=some r->OpOk C U a w o (match r with | some p=>Gj ok p.2.v true | none=>Gj ok (.v z) false) s):=by
 have mD:a.eval k=kv:=iP (hs.ev k) hk
 have L:=tC Vk
 have hzero:=xf hz w
 have Ye:∀ e,(Instr.checkKey e 10000 kt kv).run C.P w=.ok () w:=λe=>L.chk w e kv Jc
 refine ⟨λhx=>?_,λid ck es r hx hid hf=>?_⟩
 .have Qu:a.eval x=.map none:=by have:=hs.ev x;rw [hx] at this;exact Eb this
  refine .same hs (x:=if ok then .tuple #[z,.bool false] else z) ?_ (TG (WV.v z))
  rcases L.find w kv [] [] 0 none rfl (by simp) rfl with ⟨_,h2⟩ | ⟨j,e,p,h1,_⟩
  .have cP:=h2 [] rfl rfl
   simp [execOp,ho,Instr.lookup,run_underlying ht,Qu,mD,Ye,cP,hzero,Result.andThen]
  .cases h1
 .have h1:=hs.ev x
  rw [hx] at h1
  obtain ⟨b,Qu,hb⟩:=qP h1
  obtain ⟨ms,hm,He,Ce⟩:=hs.mapo hb hid
  have hg:(getObj b).run C.P w=.ok (.map ms ck) w:=MapKept.run_getObj_map hm
  rcases L.find w kv ms.toList es 0 r (by simpa using He) (λj e p he hp=>(Ce j e p (by simpa using he) hp).1) hf with ⟨rfl,h2⟩ | ⟨j,e,v,rfl,h2,h3,h4,_⟩
  .refine .same hs (x:=if ok then .tuple #[z,.bool false] else z) ?_ (TG (WV.v z))
   have cP:=h2 _ rfl rfl
   simp [execOp,ho,Instr.lookup,run_underlying ht,Qu,mD,Ye,hg,cP,hzero,Result.andThen]
  .refine .same hs (x:=if ok then .tuple #[e.val,.bool true] else e.val) ?_ (TG (Ce j e _ (by simpa using h2) h3).2.2)
   have cP:=h4 _ rfl rfl
   simp [execOp,ho,Instr.lookup,run_underlying ht,Qu,mD,Ye,hg,cP,Result.andThen]
theorem Cv6{t kt et:TypeId}{c:Call}{x:Operand}(ho:o.op=.call c)(hc:c.callee=.builtin .len)(Di:c.args.toList=[x])(ht:c.argTypes[0]?=some t)(hu:C.P.underlying t=some (.map kt et))(hs:HoldsB C U s β a w) :
  (s.ev x=.v (.map none)->OpOk C U a w o (.v (.int .i64 0)) s)/\(∀ id ck es,s.ev x=.mp id->s.ho id=some (.mapo ck es)->OpOk C U a w o (.v (.int .i64 es.length)) s):=by
 have hA:c.args = #[x]:=by apply De;simpa using Di
 refine ⟨λhx=>?_,λid ck es hx hid=>?_⟩
 .have Qu:a.eval x=.map none:=by have:=hs.ev x;rw [hx] at this;exact Eb this
  refine .same hs (x:=.int .i64 0) ?_ (WV.v _)
  simp [execOp,ho,resolve,hc,hA,invoke,builtin,Builtin.len_,ht,Qu,run_underlying hu,goInt]
 .have h1:=hs.ev x
  rw [hx] at h1
  obtain ⟨b,Qu,hb⟩:=qP h1
  obtain ⟨ms,hm,He,_⟩:=hs.mapo hb hid
  have hg:(getObj b).run C.P w=.ok (.map ms ck) w:=MapKept.run_getObj_map hm
  refine .same hs (x:=.int .i64 es.length) ?_ (WV.v _)
  simp [execOp,ho,resolve,hc,hA,invoke,builtin,Builtin.len_,ht,Qu,run_underlying hu,hg,goInt,He,Result.andThen]
theorem Q9{id b ck ck':Nat}{ms ms':Array MapEntry}{es es':List ME}{nx:Next}{x:Value}(hs:HoldsB C U s β a w)(hb:β id=some b)(hid:s.ho id=some (.mapo ck es))(hm:w.heap[b]?=some (.map ms ck))
  (h1:ms'.size=es'.length)
  (h3:∀ (V':Nat->Option DObj) (w':World),(∀ x d,WV C U (s.vw C) β w x d->WV C U V' β w' x d)->∀ (j:Nat) (e:MapEntry) (p:ME),ms'[j]?=some e->es'[j]?=some p->e.key=p.k/\e.born=p.b/\WV C U V' β w' e.val p.v)
  (Fo:(execOp a.eval o).run C.P w=.ok nx { w with heap:=w.heap.setIfInBounds b (.map ms' ck') }) (Um:nx=.value x\/(nx=.skip/\x=undef)) (hd:WV C U (s.vw C) β w x d):OpOk C U a w o d (s.upd nid (.wr id (.mapo ck' es'))):=by
 have kZ:b<w.heap.size:=(Bt.1 hm).1
 have hw:=hs.wrote nid id b (.mapo ck' es') (w':={ w with heap:=w.heap.setIfInBounds b (.map ms' ck') }) hb (by rw [hid];rfl) (λk hk=>by simp [Gh (Ek hk)]) (by simp) rfl rfl rfl
  (λc T hc=>by rw [hm] at hc;cases hc) (λSg=>⟨b,ms',hb,by simp [kZ],h1,h3 _ _ Sg⟩)
 exact ⟨nx,_,β,x,Fo,Um,hw.1,hw.2 _ _ hd⟩
theorem Cv7{t kt et:TypeId}{kd:KD}{x k y:Operand}{kv:Value}{id ck ck':Nat}{es es':List ME}(ho:o.op=.mapUpdate t x k y\/o.op=.insert t x k y)(ht:C.P.underlying t=some (.map kt et))(Vk:Tv C.P kt=some kd)
  (hs:HoldsB C U s β a w) (hk:Tu (s.ev k)=some kv) (Jc:fS kd kv=true) (hx:s.ev x=.mp id) (hid:s.ho id=some (.mapo ck es)) (hp:Nd kd kv (s.ev y) ck es=some (ck',es')):OpOk C U a w o .any (s.upd nid (.wr id (.mapo ck' es'))):=by
 have mD:a.eval k=kv:=iP (hs.ev k) hk
 have L:=tC Vk
 have Ye:∀ e,(Instr.checkKey e 10000 kt kv).run C.P w=.ok () w:=λe=>L.chk w e kv Jc
 have h1:=hs.ev x
 rw [hx] at h1
 obtain ⟨b,Qu,hb⟩:=qP h1
 obtain ⟨ms,hm,He,Ce⟩:=hs.mapo hb hid
 have hg:(getObj b).run C.P w=.ok (.map ms ck) w:=MapKept.run_getObj_map hm
 have Ik:∀ o',(setObj b o').run C.P w=.ok () { w with heap:=w.heap.setIfInBounds b o' }:=λo'=>MapKept.run_setObj_map o' hm
 have yL:∀ w',(Instr.mapUpdate t (a.eval x) (a.eval k) (a.eval y)).run C.P w=.ok () w'->(execOp a.eval o).run C.P w=.ok .skip w':=λw' h=>by
  rcases ho with ho | ho <;> simp [execOp,ho,h]
 unfold Nd at hp
 split at hp
 .rename_i i e hf
  cases hp
  rcases L.find w kv ms.toList es 0 _ (by simpa using He) (λj e p he hp=>(Ce j e p (by simpa using he) hp).1) hf with ⟨h2,_⟩ | ⟨j,e0,v',h2,h3,h4,h5,h6⟩
  .cases h2
  .simp only [Cp,Ed,Prod.mk.injEq] at h2
   obtain ⟨rfl,rfl⟩:=h2
   have U5:e0.key=kv:=L.one _ _ h6
   have rH:ms[i]?=some e0:=by simpa using h3
   have aR0:i<ms.size:=(Bt.1 rH).1
   refine Q9 (ms':=ms.modify i λe=>{ e with key:=kv,val:=a.eval y }) (x:=undef) hs hb hid hm (by simpa using He) (λV' w' Ky j e' p Ma Ao=>?_) (yL _ ?_) (.inr ⟨rfl,rfl⟩) WV.any
   .rw [Kf] at Ma
    rw [List.getElem?_set] at Ao
    by_cases Oy:i=j
    .subst Oy
     rw [Af rfl] at Ma Ao
     split at Ao
     .cases Ao
      rw [rH] at Ma
      simp only [Cf,Ed] at Ma
      subst Ma
      exact ⟨rfl,(Ce i e0 e rH h4).2.1,Ky _ _ (hs.evw y)⟩
     .cases Ao
    .rw [Ad Oy] at Ma Ao
     have:=Ce j e' p Ma Ao
     exact ⟨this.1,this.2.1,Ky _ _ this.2.2⟩
   .have cP:=h5 _ rfl rfl
    simp [Instr.mapUpdate,run_underlying ht,Qu,mD,Ye,hg,cP,rH,U5,Instr.keyThatStays,L.bits kv Jc,Ik,Result.andThen]
 .rename_i hf
  cases hp
  rcases L.find w kv ms.toList es 0 _ (by simpa using He) (λj e p he hp=>(Ce j e p (by simpa using he) hp).1) hf with ⟨_,h2⟩ | ⟨j,e,v',h2,_⟩
  .refine Q9 (ms':=ms.push { key:=kv,val:=a.eval y,born:=ck }) (x:=undef) hs hb hid hm (by simp [He]) (λV' w' Ky j e' p Ma Ao=>?_) (yL _ ?_) (.inr ⟨rfl,rfl⟩) WV.any
   .rw [Array.getElem?_push] at Ma
    by_cases hj:j=ms.size
    .subst hj
     rw [Af rfl] at Ma
     cases Ma
     rw [He] at Ao
     simp at Ao
     subst Ao
     exact ⟨rfl,rfl,Ky _ _ (hs.evw y)⟩
    .rw [Ad hj] at Ma
     have Wu:j<ms.size:=(Bt.1 Ma).1
     rw [Cz (by omega)] at Ao
     have:=Ce j e' p Ma Ao
     exact ⟨this.1,this.2.1,Ky _ _ this.2.2⟩
   .have cP:=h2 _ rfl rfl
    simp [Instr.mapUpdate,run_underlying ht,Qu,mD,Ye,hg,cP,Ik,Result.andThen]
  .cases h2
 .cases hp
theorem Cb9{t kt et:TypeId}{c:Call}{kd:KD}{x k:Operand}{kv:Value}{id ck:Nat}{es:List ME}{r:Option (Nat×ME)}(ho:o.op=.call c)(hc:c.callee=.builtin .delete)(Di:c.args.toList=[x,k])(Ys:c.argTypes[0]?=some t)(ht:C.P.underlying t=some (.map kt et))(Vk:Tv C.P kt=some kd)
  (hs:HoldsB C U s β a w) (hk:Tu (s.ev k)=some kv) (Jc:fS kd kv=true) (hx:s.ev x=.mp id) (hid:s.ho id=some (.mapo ck es)) (hf:findD kd kv es 0=some r) :
  (∀ p,r=some p->OpOk C U a w o .any (s.upd nid (.wr id (.mapo ck (es.eraseIdx p.1)))))/\(r=none->OpOk C U a w o .any (s.upd nid (.wr id (.mapo ck es)))):=by
 have hA:c.args = #[x,k]:=by apply De;simpa using Di
 have mD:a.eval k=kv:=iP (hs.ev k) hk
 have L:=tC Vk
 have Ye:∀ e,(Instr.checkKey e 10000 kt kv).run C.P w=.ok () w:=λe=>L.chk w e kv Jc
 have h1:=hs.ev x
 rw [hx] at h1
 obtain ⟨b,Qu,hb⟩:=qP h1
 obtain ⟨ms,hm,He,Ce⟩:=hs.mapo hb hid
 have hg:(getObj b).run C.P w=.ok (.map ms ck) w:=MapKept.run_getObj_map hm
 have Ik:∀ o',(setObj b o').run C.P w=.ok () { w with heap:=w.heap.setIfInBounds b o' }:=λo'=>MapKept.run_setObj_map o' hm
 rcases L.find w kv ms.toList es 0 _ (by simpa using He) (λj e p he hp=>(Ce j e p (by simpa using he) hp).1) hf with ⟨rfl,h2⟩ | ⟨i,e,p,rfl,h3,h4,h5,h6⟩
 .refine ⟨λ_ h=>(by cases h),λ_=>?_⟩
  refine Q9 (ms':=ms) (x:=.tuple #[]) hs hb hid hm He (λV' w' Ky j e' p Ma Ao=>?_) ?_ (.inl rfl) WV.any
  .have:=Ce j e' p Ma Ao
   exact ⟨this.1,this.2.1,Ky _ _ this.2.2⟩
  .have cP:=h2 _ rfl rfl
   simp [execOp,ho,resolve,hc,hA,invoke,builtin,Builtin.delete_,Ys,Qu,mD,run_underlying ht,hg,Ye,cP,Ik,Result.andThen]
 .refine ⟨λ_ h=>?_,λh=>(by cases h)⟩
  cases h
  have rH:ms.toList[i]?=some e:=by simpa using h3
  have kS:i<ms.size:=by simpa using (As.1 rH).1
  have hE:(ms.eraseIdxIfInBounds i).toList=ms.toList.eraseIdx i:=by
   unfold Array.eraseIdxIfInBounds
   rw [dif_pos kS]
   simp
  rw [Cp]
  refine Q9 (ms':=ms.eraseIdxIfInBounds i) (x:=.tuple #[]) hs hb hid hm ?_ (λV' w' Ky j e' p' Ma Ao=>?_) ?_ (.inl rfl) WV.any
  .rw [<- Ck,hE,List.length_eraseIdx,List.length_eraseIdx,Ck,He]
  .rw [<- Dk,hE,List.getElem?_eraseIdx] at Ma
   rw [List.getElem?_eraseIdx] at Ao
   by_cases Nu:j<i
   .rw [Af Nu] at Ma Ao
    have:=Ce j e' p' (by simpa using Ma) Ao
    exact ⟨this.1,this.2.1,Ky _ _ this.2.2⟩
   .rw [Ad Nu] at Ma Ao
    have:=Ce (j+1) e' p' (by simpa using Ma) Ao
    exact ⟨this.1,this.2.1,Ky _ _ this.2.2⟩
  .have cP:=h5 _ rfl rfl
   rw [Cp] at cP
   simp [execOp,ho,resolve,hc,hA,invoke,builtin,Builtin.delete_,Ys,Qu,mD,run_underlying ht,hg,Ye,cP,Ik,Result.andThen]
theorem SC{V:Nat->Option DObj}{x y:Value}{v:DV}(h:WV C U V β w x v):WV C U V β w (.tuple #[x,y]) (.tup [v,.v y]):=by
 refine ⟨λid hi=>?_,λha=>.tup [x,y] _ rfl λj u d hu hd=>?_,TP.of_wv (C:=C) (U:=U) (V:=V) (β:=β) (w:=w) (us:=[x,y]) rfl λj u d hu hd=>?_⟩
 .simp [DV.refs,DV.refsL] at hi;exact h.1 id hi
 .match j with
  | 0=>simp at hu hd;subst hu hd;exact h.2.1 λid hi=>ha id (by simp [DV.refs,DV.refsL,hi])
  | 1=>simp at hu hd;subst hu hd;exact .imm _ _ (.v _)
  | j+2=>simp at hu
 .match j with
  | 0=>simp at hu hd;subst hu hd;exact h
  | 1=>simp at hu hd;subst hu hd;exact WV.v _
  | j+2=>simp at hu
theorem Cc0{t kt et:TypeId}{kd:KD}{x k:Operand}{kv z:Value}{id ck:Nat}{es:List ME}{r:Option (Nat×ME)}(ho:o.op=.mapEntry t x k)(ht:C.P.underlying t=some (.map kt et))(Vk:Tv C.P kt=some kd)(hz:(C.P.info? et).bind (·.zero)=some z)
  (hs:HoldsB C U s β a w) (hk:Tu (s.ev k)=some kv) (Jc:fS kd kv=true) (hx:s.ev x=.mp id) (hid:s.ho id=some (.mapo ck es)) (hf:findD kd kv es 0=some r) :
  (∀ p,r=some p->OpOk C U a w o (.tup [p.2.v,.v (.int .i64 p.2.b)]) (s.upd nid (.wr id (.mapo ck es))))/\(r=none->OpOk C U a w o (.tup [.v z,.v (.int .i64 ck)]) (s.upd nid (.wr id (.mapo (ck+1) (es ++ [⟨kv,.v z,ck⟩]))))):=by
 have mD:a.eval k=kv:=iP (hs.ev k) hk
 have L:=tC Vk
 have Ye:∀ e,(Instr.checkKey e 10000 kt kv).run C.P w=.ok () w:=λe=>L.chk w e kv Jc
 have h1:=hs.ev x
 rw [hx] at h1
 obtain ⟨b,Qu,hb⟩:=qP h1
 obtain ⟨ms,hm,He,Ce⟩:=hs.mapo hb hid
 have hg:(getObj b).run C.P w=.ok (.map ms ck) w:=MapKept.run_getObj_map hm
 have Ik:∀ o',(setObj b o').run C.P w=.ok () { w with heap:=w.heap.setIfInBounds b o' }:=λo'=>MapKept.run_setObj_map o' hm
 have hzero:=xf hz w
 rcases L.find w kv ms.toList es 0 _ (by simpa using He) (λj e p he hp=>(Ce j e p (by simpa using he) hp).1) hf with ⟨rfl,h2⟩ | ⟨i,e,p,rfl,h3,h4,h5,h6⟩
 .refine ⟨λ_ h=>(by cases h),λ_=>?_⟩
  refine Q9 (ms':=ms.push { key:=kv,val:=z,born:=ck }) (x:=.tuple #[z,.int .i64 ck]) hs hb hid hm (by simp [He]) (λV' w' Ky j e' p Ma Ao=>?_) ?_ (.inl rfl) (SC (WV.v z))
  .rw [Array.getElem?_push] at Ma
   by_cases hj:j=ms.size
   .subst hj
    rw [Af rfl] at Ma
    cases Ma
    rw [He] at Ao
    simp at Ao
    subst Ao
    exact ⟨rfl,rfl,WV.v z⟩
   .rw [Ad hj] at Ma
    have Wu:j<ms.size:=(Bt.1 Ma).1
    rw [Cz (by omega)] at Ao
    have:=Ce j e' p Ma Ao
    exact ⟨this.1,this.2.1,Ky _ _ this.2.2⟩
  .have cP:=h2 _ rfl rfl
   simp [execOp,ho,Instr.mapEntry,run_underlying ht,Qu,mD,Ye,hg,cP,Ik,hzero,goInt,Result.andThen]
 .refine ⟨λq hq=>?_,λh=>(by cases h)⟩
  cases hq
  dsimp only
  have U5:e.key=kv:=L.one _ _ h6
  have rH:ms[i]?=some e:=by simpa using h3
  have yM:=Ce i e p rH h4
  refine Q9 (ms':=ms.modify i λe=>{ e with key:=kv }) (x:=.tuple #[e.val,.int .i64 p.b]) hs hb hid hm (by simpa using He) (λV' w' Ky j e' p' Ma Ao=>?_) ?_ (.inl rfl) (SC yM.2.2)
  .rw [Kf] at Ma
   by_cases Oy:i=j
   .subst Oy
    rw [Af rfl,rH] at Ma
    simp only [Cf,Ed] at Ma
    subst Ma
    rw [h4] at Ao
    cases Ao
    exact ⟨by simp only;rw [<- U5];exact yM.1,yM.2.1,Ky _ _ yM.2.2⟩
   .rw [Ad Oy] at Ma
    have:=Ce j e' p' Ma Ao
    exact ⟨this.1,this.2.1,Ky _ _ this.2.2⟩
  .have cP:=h5 _ rfl rfl
   simp [execOp,ho,Instr.mapEntry,run_underlying ht,Qu,mD,Ye,hg,cP,rH,U5,Instr.keyThatStays,L.bits kv Jc,Ik,goInt,yM.2.1,Result.andThen]
theorem Bh4{n:Int} : ∀ (es:List ME) (ms:List MapEntry) (i j:Nat),ms.length=es.length->(∀ (j:Nat) (e:MapEntry) (p:ME),ms[j]?=some e->es[j]?=some p->e.born=p.b)->aI n es i=some j->∃ k,j=i+k/\ms.findIdx? (λe=>(e.born:Int)==n)=some k/\k<ms.length
 | [],_,_,_,_,_,h=>by simp [aI] at h
 | _::_,[],_,_,hl,_,_=>by simp at hl
 | p::ps,m::ms,i,j,hl,hr,h=>by
  have h0:m.born=p.b:=hr 0 m p rfl rfl
  simp only [aI] at h
  split at h
  .rename_i hp
   cases h
   exact ⟨0,rfl,by rw [List.findIdx?_cons,h0,Af hp],by simp⟩
  .rename_i hp
   obtain ⟨k,rfl,h2,h3⟩:=Bh4 ps ms (i+1) j (by simpa using hl) (λj e p he hp=>hr (j+1) e p (by simpa using he) (by simpa using hp)) h
   exact ⟨k+1,by omega,by rw [List.findIdx?_cons,h0,Ad hp,h2];rfl,by simp;omega⟩
theorem Cv8{t:TypeId}{x st y:Operand}{n:Int}{id ck i:Nat}{es:List ME}(ho:o.op=.entryStore t x st y)(hs:HoldsB C U s β a w)(hx:s.ev x=.mp id)(If:Lh (s.ev st)=some n)(hid:s.ho id=some (.mapo ck es))(hf:aI n es 0=some i) :
  OpOk C U a w o .any (s.upd nid (.wr id (.mapo ck (es.modify i λe=>{ e with v:=s.ev y })))):=by
 have h1:=hs.ev x
 rw [hx] at h1
 obtain ⟨b,Qu,hb⟩:=qP h1
 obtain ⟨kk,cu⟩:=C4 (hs.ev st) If
 obtain ⟨ms,hm,He,Ce⟩:=hs.mapo hb hid
 have hg:(getObj b).run C.P w=.ok (.map ms ck) w:=MapKept.run_getObj_map hm
 have Ik:∀ o',(setObj b o').run C.P w=.ok () { w with heap:=w.heap.setIfInBounds b o' }:=λo'=>MapKept.run_setObj_map o' hm
 obtain ⟨k,hk,h2,h3⟩:=Bh4 es ms.toList 0 i (by simpa using He) (λj e p he hp=>(Ce j e p (by simpa using he) hp).2.1) hf
 obtain rfl:i=k:=by omega
 have hfi:ms.findIdx? (λe=>(e.born:Int)==n)=some i:=by
  obtain ⟨l⟩:=ms
  simpa using h2
 refine Q9 (ms':=ms.modify i λe=>{ e with val:=a.eval y }) (x:=undef) hs hb hid hm (by simpa using He) (λV' w' Ky j e' p Ma Ao=>?_) ?_ (.inr ⟨rfl,rfl⟩) WV.any
 .rw [Kf] at Ma
  rw [List.getElem?_modify] at Ao
  by_cases Oy:i=j
  .subst Oy
   rw [Af rfl] at Ma
   obtain ⟨e0,JX,rfl⟩:=Ac.1 Ma
   obtain ⟨p0,Ng,rfl⟩:=Ac.1 Ao
   simp only [Ex]
   have:=Ce i e0 p0 JX Ng
   exact ⟨this.1,this.2.1,Ky _ _ (hs.evw y)⟩
  .rw [Ad Oy] at Ma
   obtain ⟨p0,Ng,rfl⟩:=Ac.1 Ao
   simp only [Oy,Ib]
   have:=Ce j e' p0 Ma Ng
   exact ⟨this.1,this.2.1,Ky _ _ this.2.2⟩
 .simp [execOp,ho,Instr.entryStore,Qu,cu,asInt,asIntOf,hg,hfi,Ik,Result.andThen]
end ops
end Go.DD
