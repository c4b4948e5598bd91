/- A part. -/
import Derived.Test.YtnphfnhhpcelbaaGreatZd
import Derived.Test.YtnphfnhhpcelbaaGreatZc
import Derived.IntWalk
namespace Go.DD
def kdI (rs:List DR) (i:Nat):Nat:=((rs[i]?).map fun r=>if (Bc0 rs r.op).isSome then 3 else r.op.kind).getD 0
def tgtI (rs:List DR) (r:DR):Nat:=(Bc0 rs r.op).getD 0
def Ak8 (rs:List DR):List Nat:=(List.range rs.length).filter fun i=>kdI rs i == 2
theorem kd_le (rs:List DR) (i:Nat):kdI rs i≤3:=by
 unfold kdI
 cases rs[i]? with
 | none=>simp
 | some r=>
  simp only [Option.map_some,Option.getD_some]
  split
  ·omega
  ·have:r.op.kind≤2:=by cases r.op <;> simp [DOp.kind]
   omega
theorem B65 (rs:List DR) (i:Nat):(((List.range rs.length).map (kdI rs))[i]?).getD 0=kdI rs i:=by
 by_cases h:i < rs.length
 ·simp [h]
 ·simp [h,kdI]
def okI (rs:List DR):Bool:=
  (rs.zipIdx.all fun (r,i)=>(r.pre.all fun j=>decide (j < i)) &&
   (match r.dst with | some t=>dstIx rs t == some i | none=>true) &&
   r.tmps.all fun t=>match dstIx rs t with | some p=>anB rs i p || anB rs p i || p == i | none=>true) &&
  ((Ak8 rs).all fun b=>(Ak8 rs).all fun a=>!(decide (a < b)) || anB rs b a) &&
  ((rs.zipIdx.map fun (r,i)=>{ an:=anR rs i,cls:=kdI rs i,tgt:=tgtI rs r,wide:=(Ak8 rs).any fun q=>!anB rs q i && !anB rs i q:OI }).zipIdx.all fun (o,w)=>o.cls != 3 || (anB rs w o.tgt && (List.range rs.length).all fun i=>!anB rs i o.tgt || anB rs i w || anB rs w i || w == i))
theorem A22 (rs:List DR):Ag2 rs = { l:=rs.zipIdx.map fun (r,i)=>{ an:=anR rs i,cls:=kdI rs i,tgt:=tgtI rs r,wide:=(Ak8 rs).any fun q=>!anB rs q i && !anB rs i q:OI },ok:=okI rs }:=by
 have e:(fun i=>(((List.range rs.length).map (kdI rs))[i]?).getD 0)=kdI rs:=funext fun i=>B65 rs i
 have e':∀ i,(((List.range rs.length).map (kdI rs))[i]?).getD 0=kdI rs i:=B65 rs
 have h:Ag2 rs=(fun K:Nat→Nat=>({ l:=rs.zipIdx.map fun (r,i)=>{ an:=anR rs i,cls:=K i,tgt:=tgtI rs r,wide:=((List.range rs.length).filter fun i=>K i == 2).any fun q=>!anB rs q i && !anB rs i q:OI },ok:=
  (rs.zipIdx.all fun (r,i)=>(r.pre.all fun j=>decide (j < i)) &&
   (match r.dst with | some t=>dstIx rs t == some i | none=>true) &&
   r.tmps.all fun t=>match dstIx rs t with | some p=>anB rs i p || anB rs p i || p == i | none=>true) &&
  (((List.range rs.length).filter fun i=>K i == 2).all fun b=>((List.range rs.length).filter fun i=>K i == 2).all fun a=>!(decide (a < b)) || anB rs b a) &&
  ((rs.zipIdx.map fun (r,i)=>{ an:=anR rs i,cls:=K i,tgt:=tgtI rs r,wide:=((List.range rs.length).filter fun i=>K i == 2).any fun q=>!anB rs q i && !anB rs i q:OI }).zipIdx.all fun (o,w)=>o.cls != 3 || (anB rs w o.tgt && (List.range rs.length).all fun i=>!anB rs i o.tgt || anB rs i w || anB rs w i || w == i)) } : RI)) (fun i=>(((List.range rs.length).map (kdI rs))[i]?).getD 0):=rfl
 rw [h,e]
 rfl
theorem Be9 {rs:List DR} {i:Nat} {r:DR} (hr:rs[i]?=some r):(Ag2 rs).l[i]?=some { an:=anR rs i,cls:=kdI rs i,tgt:=tgtI rs r,wide:=(Ak8 rs).any fun q=>!anB rs q i && !anB rs i q:OI }:=by
 rw [A22]
 simp [List.getElem?_map,List.getElem?_zipIdx,hr]
theorem B06 (rs:List DR):(Ag2 rs).l.length=rs.length:=by rw [A22]; simp
theorem Ay7 {α:Type} {l:List α} {i:Nat} {x:α} (h:l[i]?=some x):(x,i)∈l.zipIdx:=by
 rw [List.mem_zipIdx_iff_getElem?]; exact h
structure OkI (rs:List DR):Prop where
 pre:∀ (k:Nat) (r:DR),rs[k]?=some r→∀ j∈r.pre,j < k
 dst:∀ (i:Nat) (r:DR) (t:Nat),rs[i]?=some r→r.dst=some t→dstIx rs t=some i
 rd:∀ (i:Nat) (r:DR) (t p:Nat),rs[i]?=some r→t∈r.tmps→dstIx rs t=some p→anB rs i p=true∨anB rs p i=true∨p=i
 ch:∀ a b,a < rs.length→b < rs.length→kdI rs a=2→kdI rs b=2→a < b→anB rs b a=true
 wr:∀ (w:Nat) (r:DR),rs[w]?=some r→kdI rs w=3→anB rs w (tgtI rs r)=true∧∀ i,i < rs.length→anB rs i (tgtI rs r)=true→anB rs i w=true∨anB rs w i=true∨w=i
theorem Cp6 {rs:List DR} (h:(Ag2 rs).ok=true):OkI rs:=by
 rw [A22] at h
 replace h:okI rs=true:=h
 unfold okI at h
 rw [Bool.and_eq_true,Bool.and_eq_true] at h
 obtain ⟨⟨h1,h2⟩,h3⟩:=h
 have k1:∀ (i:Nat) (r:DR),rs[i]?=some r→_:=fun i r hr=>List.all_eq_true.1 h1 (r,i) (Ay7 hr)
 simp only [Bool.and_eq_true] at k1
 have hm:∀ a,a < rs.length→kdI rs a=2→a∈Ak8 rs:=fun a h1 h2=>by simp [Ak8,h1,h2]
 refine ⟨fun k r hr j hj=>?_,fun i r t hr ht=>?_,fun i r t p hr ht hp=>?_,fun a b ha hb ka kb hlt=>?_,fun w r hr hk=>?_⟩
 ·simpa using List.all_eq_true.1 (k1 k r hr).1.1 j hj
 ·have:=(k1 i r hr).1.2
  rw [ht] at this
  simpa using this
 ·have:=List.all_eq_true.1 (k1 i r hr).2 t ht
  rw [hp] at this
  simp only [Bool.or_eq_true,beq_iff_eq] at this
  rcases this with (h | h) | h
  ·exact .inl h
  ·exact .inr (.inl h)
  ·exact .inr (.inr h)
 ·have:=List.all_eq_true.1 (List.all_eq_true.1 h2 b (hm b hb kb)) a (hm a ha ka)
  simpa [hlt] using this
 ·have hl:=Be9 hr
  rw [A22] at hl
  have:=List.all_eq_true.1 h3 _ (Ay7 hl)
  simp only [hk,Bool.or_eq_true,Bool.and_eq_true] at this
  rcases this with h | ⟨h4,h5⟩
  ·simp at h
  ·refine ⟨h4,fun i hi hit=>?_⟩
   have:=List.all_eq_true.1 h5 i (by simpa using hi)
   simp only [hit,Bool.not_true,Bool.false_or,Bool.or_eq_true,beq_iff_eq] at this
   rcases this with (h | h) | h
   ·exact .inl h
   ·exact .inr (.inl h)
   ·exact .inr (.inr h)
theorem A66:∀ (rs:List DR) (acc:List (List Nat)) (k:Nat) (r:DR) (l:List Nat),rs[k]?=some r→(∀ (k:Nat) (r:DR),rs[k]?=some r→∀ j∈r.pre,j < acc.length+k)→(ancs rs acc)[acc.length+k]?=some l→
  ∀ x,(x∈r.pre∨∃ j∈r.pre,∃ l',(ancs rs acc)[j]?=some l'∧x∈l')→x∈l
 | [],acc,k,r,l,h,_,_=>by simp at h
 | r0 :: rs,acc,0,r,l,h,hb,hl=>by
  simp at h; subst h
  intro x hx
  have hl':l=(r0.pre ++ r0.pre.flatMap fun j=>(acc[j]?).getD []).eraseDups:=by
   simp only [ancs] at hl
   rw [Al4 rs _ _ (by simp)] at hl
   simpa using hl.symm
  rw [hl',List.mem_eraseDups,List.mem_append]
  rcases hx with hx | ⟨j,hj,l',hl2,hx⟩
  ·exact .inl hx
  ·have hjl:j < acc.length:=hb 0 r0 rfl j hj
   refine .inr (List.mem_flatMap.2 ⟨j,hj,?_⟩)
   simp only [ancs] at hl2
   rw [Al4 rs _ j (by simp; omega),List.getElem?_append_left hjl] at hl2
   rw [hl2]; exact hx
 | r0 :: rs,acc,k+1,r,l,h,hb,hl=>by
  have key:=A66 rs (acc ++ [(r0.pre ++ r0.pre.flatMap fun j=>(acc[j]?).getD []).eraseDups]) k r l (by simpa using h)
   (fun k' r' hr' j hj=>by have:=hb (k'+1) r' (by simpa using hr') j hj; simp; omega)
   (by simp only [ancs] at hl; rw [← hl]; congr 1; simp; omega)
  simpa only [ancs] using key
section
variable {rs:List DR} (hI:OkI rs)
theorem Bp7 {i:Nat} {r:DR} (hr:rs[i]?=some r):(ancs rs [])[i]?=some (anR rs i):=by
 have hil:i < (ancs rs []).length:=by rw [As6]; have:=(List.getElem?_eq_some_iff.1 hr).1; simpa using this
 simp [anR,List.getElem?_eq_getElem hil]
include hI
theorem Bf0 {i:Nat} {r:DR} (hr:rs[i]?=some r) (x:Nat):anB rs i x=true↔x∈r.pre∨∃ j∈r.pre,anB rs j x=true:=by
 have hb:∀ (k:Nat) (r:DR),rs[k]?=some r→∀ j∈r.pre,j < ([]:List (List Nat)).length+k:=fun k r' hk j hj=>by have:=hI.pre k r' hk j hj; simp; omega
 have hpre:∀ j∈r.pre,∃ rj,rs[j]?=some rj:=fun j hj=>by
  have h1:=hI.pre i r hr j hj
  have h2:=(List.getElem?_eq_some_iff.1 hr).1
  exact ⟨rs[j],List.getElem?_eq_getElem (by omega)⟩
 constructor
 ·intro h
  rcases A15 rs [] i r _ hr hb (by simpa using Bp7 hr) x (by simpa [anB] using h) with h | ⟨j,hj,l',hl',hx⟩
  ·exact .inl h
  ·exact .inr ⟨j,hj,by simp [anB,anR,hl',hx]⟩
 ·intro h
  have:=A66 rs [] i r _ hr hb (by simpa using Bp7 hr) x (by
   rcases h with h | ⟨j,hj,h⟩
   ·exact .inl h
   ·obtain ⟨rj,hrj⟩:=hpre j hj
    exact .inr ⟨j,hj,_,Bp7 hrj,by simpa [anB] using h⟩)
  simpa [anB] using this
theorem an_lt {i j:Nat} (hi:i < rs.length) (h:anB rs i j=true):j < i:=by
 induction i using Nat.strongRecOn with
 | _ i ih=>
  have hr:rs[i]?=some rs[i]:=List.getElem?_eq_getElem hi
  rcases (Bf0 hI hr j).1 h with h | ⟨x,hx,h⟩
  ·exact hI.pre i _ hr j h
  ·have h1:=hI.pre i _ hr x hx
   have:=ih x h1 (by omega) h
   omega
theorem B07 {a b c:Nat} (ha:a < rs.length) (h1:anB rs a b=true) (h2:anB rs b c=true):anB rs a c=true:=by
 induction a using Nat.strongRecOn with
 | _ a ih=>
  have hr:rs[a]?=some rs[a]:=List.getElem?_eq_getElem ha
  rcases (Bf0 hI hr b).1 h1 with h | ⟨x,hx,h⟩
  ·exact (Bf0 hI hr c).2 (.inr ⟨b,h,h2⟩)
  ·have hxl:=hI.pre a _ hr x hx
   exact (Bf0 hI hr c).2 (.inr ⟨x,hx,ih x hxl (by omega) h⟩)
end
theorem A23:∀ {a b:Value},sameV a b=true→a=b:=by
 intro a b h
 unfold sameV at h
 split at h
 ·simpa using h
 ·simp only [Bool.and_eq_true,beq_iff_eq] at h; rw [h.1,h.2]
 ·rename_i a b
  have h1:a.data.toList=b.data.toList:=by simpa using h
  have h2:a.data=b.data:=Array.toList_inj.1 h1
  obtain ⟨a⟩:=a; obtain ⟨b⟩:=b
  simp only at h2; rw [h2]
 ·rfl
 ·simp only [Bool.and_eq_true,beq_iff_eq] at h; rw [h.1,h.2]
 ·rfl
 ·rfl
 ·rfl
 ·cases h
theorem An2 {f:DV→DV→Bool} (hf:∀ a b,f a b=true→a=b):∀ {a b:List DV},sameL f a b=true→a=b
 | [],[],_=>rfl
 | a :: as,b :: bs,h=>by
  simp only [sameL,Bool.and_eq_true] at h
  rw [hf a b h.1,An2 hf h.2]
 | [],_ :: _,h=>by cases h
 | _ :: _,[],h=>by cases h
theorem Bp8 {a b:Fn} (h:Bo5 a b=true):a=b:=by
 unfold Bo5 at h
 split at h
 ·rw [beq_iff_eq.1 h]
 ·cases h
theorem Ah6:∀ (n:Nat) (a b:DV),Ab5 n a b=true→a=b
 | 0,_,_,h=>by cases h
 | n+1,a,b,h=>by
  have ih:=Ah6 n
  cases a <;> cases b <;> simp only [Ab5,Bool.and_eq_true,beq_iff_eq] at h <;> first
   | rfl
   | (cases h; done)
   | (rw [A23 h]; done)
   | (rw [An2 ih h]; done)
   | (rw [h.1,An2 ih h.2]; done)
   | (rw [Bp8 h.1,An2 ih h.2]; done)
   | (rw [h.1,ih _ _ h.2]; done)
   | (rw [h]; done)
   | (obtain ⟨⟨⟨h1,h2⟩,h3⟩,h4⟩:=h; rw [h1,h2,h3,h4]; done)
   | (obtain ⟨h1,h2⟩:=h; rw [h1,h2]; done)
theorem B08 {a b:Value} (h:Bo6 a b=true):a=b:=by
 unfold Bo6 at h
 split at h
 ·rename_i x y
  have key:∀ l m:List Value,sameL (fun x y=>match x,y with | .v x,.v y=>sameV x y | _,_=>false) (l.map .v) (m.map .v)=true→l=m:=by
   intro l
   induction l with
   | nil=>intro m h; cases m with
    | nil=>rfl
    | cons _ _=>simp [sameL] at h
   | cons u l ih=>intro m h; cases m with
    | nil=>simp [sameL] at h
    | cons v m=>
     simp only [List.map_cons,sameL,Bool.and_eq_true] at h
     rw [A23 h.1,ih m h.2]
  rw [Array.toList_inj.1 (key _ _ h)]
 ·exact A23 h
theorem Bf1 {n:Nat} : ∀ {a b:List ME},sameM n a b=true→a=b
 | [],[],_=>rfl
 | ⟨k,v,c⟩ :: a,⟨k',v',c'⟩ :: b,h=>by
  simp only [sameM,Bool.and_eq_true,beq_iff_eq] at h
  obtain ⟨⟨⟨h1,h2⟩,h3⟩,h4⟩:=h
  rw [B08 h1,Ah6 n _ _ h2,h3,Bf1 h4]
 | [],_ :: _,h=>by simp [sameM] at h
 | _ :: _,[],h=>by simp [sameM] at h
theorem A67:∀ {a b:List Nat},Ay5 a b=true→a=b
 | [],[],_=>rfl
 | x :: a,y :: b,h=>by
  simp only [Ay5,Bool.and_eq_true,beq_iff_eq] at h
  rw [h.1,A67 h.2]
 | [],_ :: _,h=>by simp [Ay5] at h
 | _ :: _,[],h=>by simp [Ay5] at h
theorem Bf2 {a b:DObj} (h:sameO a b=true):a=b:=by
 unfold sameO at h
 split at h
 ·simp only [Bool.and_eq_true,beq_iff_eq] at h
  rw [h.1,An2 (Ah6 6) h.2]
 ·simp only [Bool.and_eq_true,beq_iff_eq] at h
  rw [h.1,Bf1 h.2]
 ·simp only [Bool.and_eq_true,beq_iff_eq] at h
  obtain ⟨⟨⟨h1,h2⟩,h3⟩,h4⟩:=h
  rw [Ah6 2 _ _ h1,h2,A67 h3,h4]
 ·cases h
theorem Bp9 {a b:Tr DObj} {id:Nat} (h:sameAt a b id=true):a.get id=b.get id:=by
 unfold sameAt at h
 split at h
 ·rename_i h1 h2; rw [h1,h2,Bf2 h]
 ·cases h
structure Run (P:Program) (rs:List DR) (s0:DS) (Δ:Nat→DSt) (ρ:Nat→Rec):Prop where
 ok:OkI rs
 fr:s0.Fr
 z:(Δ 0).es.ds=⟨s0.sv,s0.ho,s0.nx+rs.length⟩
 lo0:(Δ 0).lo=[]
 sem:∀ i r o,rs[i]?=some r→(Ag2 rs).l[i]?=some o→Sem P s0.nx rs.length i r o (Δ i) (Δ (i+1)) (ρ i)
 nil:∀ i,rs.length≤i→ρ i=Rec.nil
 look:Ag0 s0.nx rs.length (Δ rs.length).ws (Δ rs.length).ps=true
theorem Sem.gw {P:Program} {n0 m i:Nat} {r:DR} {o:OI} {δ δ':DSt} {ρ:Rec} (h:Sem P n0 m i r o δ δ' ρ) (hi:i < m) (hn:n0+m≤δ.es.nx):δ.es.nx≤δ'.es.nx∧∀ id,δ.es.ds.ho id=none→δ'.es.ds.ho id≠none→n0≤id∧id < δ'.es.nx:=by
 have nxe:∀ {s:DS} {d:DV},δ'.es.ds=s.put r.dst d→δ'.es.nx=s.nx∧δ'.es.ds.ho=s.ho:=fun {s d} h=>by
  have h1:δ'.es.ds.nx=s.nx:=by rw [h,DS.nx_put]
  exact ⟨h1,by rw [h,DS.ho_put]⟩
 have nxd:δ.es.ds.nx=δ.es.nx:=rfl
 cases h with
 | off hw hd hl ht hm he hlo hws hps=>
  obtain ⟨e1,e2⟩:=nxe he
  rw [e1,e2]
  exact ⟨Nat.le_refl _,fun id h1 h2=>absurd h1 h2⟩
 | read hw hrf hx hl ht hm he hlo hws hlk hps=>
  obtain ⟨e1,e2⟩:=nxe he
  rw [e1,e2]
  exact ⟨Nat.le_refl _,fun id h1 h2=>absurd h1 h2⟩
 | lay ob hw hrf hx hl ht hm he hlo hws hlk hps=>
  obtain ⟨e1,e2⟩:=nxe he
  rw [e1,e2]
  refine ⟨Nat.le_refl _,fun id h1 h2=>?_⟩
  simp only [setH] at h2
  split at h2
  ·show n0≤id∧id < δ.es.nx; omega
  ·exact absurd h1 h2
 | wr ob hw hc hrf hx hal hlt han hl ht hob hm he hlo hws hps=>
  obtain ⟨e1,e2⟩:=nxe he
  rw [e1,e2]
  refine ⟨Nat.le_refl _,fun id h1 h2=>?_⟩
  simp only [setH] at h2
  split at h2
  ·rename_i e
   have:=Aq8 hx
   simp only [DS.hasU] at this
   rw [e] at h1; rw [h1] at this; cases this
  ·exact absurd h1 h2
 | main hid hs hhid hhs hw hc hrf hx hg hl ht hm he hlo hws hps=>
  obtain ⟨e1,e2⟩:=nxe he
  rw [e1,e2]
  have hle:δ.es.nx≤ρ.N:=by have:=hg.le; rw [hhs] at this; exact this
  refine ⟨hle,fun id h1 h2=>?_⟩
  simp only at h2
  split at h2
  ·exact absurd h1 h2
  ·rename_i hnh
   have:=hg.new id (by rw [hhs]; simp only; rw [if_neg hnh]; exact h1) h2
   rw [hhs] at this
   have h3:δ.es.nx≤id∧id < ρ.N:=this
   exact ⟨by omega,h3.2⟩
theorem Sem.fr {P:Program} {n0 m i:Nat} {r:DR} {o:OI} {δ δ':DSt} {ρ:Rec} (h:Sem P n0 m i r o δ δ' ρ) (hi:i < m) (hn:n0+m≤δ.es.nx) (hfr:δ.es.ds.Fr):δ'.es.ds.Fr:=fun id hid=>by
 obtain ⟨h1,h2⟩:=h.gw hi hn
 have hid':δ'.es.nx≤id:=hid
 cases h4:δ'.es.ds.ho id with
 | none=>rfl
 | some o=>
  have:=h2 id (hfr id (by show δ.es.nx≤id; omega)) (by rw [h4]; simp)
  omega
theorem A68 {P:Program} {call:CallT} (hc:Ad3 P call) {n0 m:Nat} : ∀ (rs:List DR) (os:List OI) (i:Nat) (δ δ':DSt),rs.length=os.length→i+rs.length≤m→rundE rs os i call n0 m δ=some δ'→δ.es.ds.Fr→n0+m≤δ.es.nx→
  ∃ (Δ:Nat→DSt) (ρ:Nat→Rec),Δ 0=δ∧Δ rs.length=δ'∧∀ j r o,rs[j]?=some r→os[j]?=some o→Sem P n0 m (i+j) r o (Δ j) (Δ (j+1)) (ρ j)
 | [],os,i,δ,δ',hl,hm,h,hfr,hn=>by
  have h3:some δ=some δ':=by
   cases os <;> exact h
  cases h3
  exact ⟨fun _=>δ,fun _=>Rec.nil,rfl,rfl,fun j r o hr=>by simp at hr⟩
 | r :: rs,[],i,δ,δ',hl,hm,h,hfr,hn=>by simp at hl
 | r :: rs,o :: os,i,δ,δ',hl,hm,h,hfr,hn=>by
  have h':dq (dstpG i r o) (rundE rs os (i+1)) call n0 m δ=some δ':=h
  obtain ⟨δ1,h1,h2⟩:=optR h'
  obtain ⟨ρ0,hs⟩:=A65 hc hfr h1
  have him:i < m:=by simp at hm; omega
  obtain ⟨g1,_⟩:=hs.gw him hn
  obtain ⟨Δ,ρ,e1,e2,e3⟩:=A68 hc rs os (i+1) δ1 δ' (by simpa using hl) (by simp at hm; omega) h2 (hs.fr him hn hfr) (by omega)
  refine ⟨fun j=>match j with | 0=>δ | j+1=>Δ j,fun j=>match j with | 0=>ρ0 | j+1=>ρ j,rfl,e2,fun j r' o' hr ho=>?_⟩
  cases j with
  | zero=>
   simp at hr ho
   subst hr; subst ho
   show Sem P n0 m (i+0) r o δ (Δ 0) ρ0
   rw [e1]; exact hs
  | succ j=>
   have:=e3 j r' o' (by simpa using hr) (by simpa using ho)
   rw [show i+(j+1)=i+1+j by omega]
   exact this
theorem Cp7 {P:Program} {call:CallT} (hc:Ad3 P call) {rs:List DR} {es es':ES} (hok:(Ag2 rs).ok=true) (h:regE rs.length (rundE rs (Ag2 rs).l 0) call es=some es') (hfr:es.ds.Fr):∃ Δ ρ,Run P rs es.ds Δ ρ∧(Δ rs.length).es=es':=by
 unfold regE at h
 obtain ⟨δ',h1,h2⟩:=optR h
 obtain ⟨h3,h4⟩:=Ac0 h2
 cases h4
 rw [cs_eq,Ab6] at h1
 obtain ⟨Δ,ρ,e1,e2,e3⟩:=A68 hc rs (Ag2 rs).l 0 _ _ (B06 rs).symm (by omega) h1 (fun id hid=>hfr id (by
  have:es.nx+rs.length≤id:=hid
  show es.nx≤id; omega)) (Nat.le_refl _)
 refine ⟨Δ,fun i=>if i < rs.length then ρ i else Rec.nil,⟨Cp6 hok,hfr,by rw [e1]; rfl,by rw [e1],fun i r o hr ho=>?_,fun i hi=>if_neg (by omega),by rw [e2]; exact h3⟩,by rw [e2]⟩
 have:=e3 i r o hr ho
 rw [Nat.zero_add] at this
 rw [if_pos (List.getElem?_eq_some_iff.1 hr).1]
 exact this
end Go.DD

/- The evaluator's regions that draw their order, second part. -/
namespace Go.DD
def cnt (f:Nat→Bool) (i:Nat):Nat:=((List.range i).filter f).length
theorem Ai4 (f:Nat→Bool) (i:Nat):cnt f (i+1)=cnt f i+(if f i=true then 1 else 0):=by
 unfold cnt
 rw [List.range_succ,List.filter_append,List.length_append]
 congr 1
 by_cases h:f i=true
 ·simp [h]
 ·simp [h]
theorem cnt_mono (f:Nat→Bool) {i j:Nat} (h:i≤j):cnt f i≤cnt f j:=by
 induction h with
 | refl=>exact Nat.le_refl _
 | step _ ih=>rw [Ai4]; omega
theorem cnt_lt (f:Nat→Bool) {i j:Nat} (h:i < j) (hf:f i=true):cnt f i < cnt f j:=by
 have:=cnt_mono f (Nat.succ_le_of_lt h)
 have h2:=Ai4 f i
 rw [if_pos hf] at h2
 have:cnt f (i+1)≤cnt f j:=this
 omega
theorem Bk6 (f:Nat→Bool):∀ (m k q:Nat),((List.range m).filter f)[k]?=some q↔q < m∧f q=true∧cnt f q=k:=by
 intro m
 induction m with
 | zero=>intro k q; simp
 | succ m ih=>
  intro k q
  rw [List.range_succ,List.filter_append]
  rcases Nat.lt_or_ge k ((List.range m).filter f).length with h | h
  ·rw [List.getElem?_append_left h,ih]
   constructor
   ·rintro ⟨h1,h2,h3⟩; exact ⟨by omega,h2,h3⟩
   ·rintro ⟨h1,h2,h3⟩
    refine ⟨?_,h2,h3⟩
    have:q≠m:=fun e=>by subst e; unfold cnt at h3; omega
    omega
  ·rw [List.getElem?_append_right h]
   by_cases hm:f m=true
   ·rw [List.filter_cons_of_pos hm,List.filter_nil]
    constructor
    ·intro h1
     have hk:k=((List.range m).filter f).length:=by
      rcases Nat.lt_or_ge ((List.range m).filter f).length k with h2 | h2
      ·rw [List.getElem?_eq_none (by simp; omega)] at h1; cases h1
      ·omega
     subst hk
     simp at h1
     subst h1
     exact ⟨by omega,hm,rfl⟩
    ·rintro ⟨h1,h2,h3⟩
     have hq:q=m:=by
      rcases Nat.lt_or_ge q m with h4 | h4
      ·have:=cnt_lt f h4 h2
       have e:cnt f m=((List.range m).filter f).length:=rfl
       omega
      ·omega
     subst hq
     have:k - ((List.range q).filter f).length=0:=by unfold cnt at h3; omega
     rw [this]; rfl
   ·rw [List.filter_cons_of_neg hm,List.filter_nil]
    constructor
    ·intro h1; simp at h1
    ·rintro ⟨h1,h2,h3⟩
     exfalso
     have hq:q≠m:=fun e=>hm (by rw [← e]; exact h2)
     have:=cnt_lt f (show q < m by omega) h2
     have e:cnt f m=((List.range m).filter f).length:=rfl
     omega
def mkH (ρ:Nat→Rec) (h0:Nat→Option DObj) (main:List Nat):Nat→Nat→Option DObj
 | 0=>h0
 | k+1=>match main[k]? with
  | some q=>(ρ q).H
  | none=>fun _=>none
def mkN (ρ:Nat→Rec) (n:Nat) (main:List Nat):Nat→Nat
 | 0=>n
 | k+1=>match main[k]? with
  | some q=>(ρ q).N
  | none=>mkN ρ n main k
def mkD (ρ:Nat→Rec) (s0:DS) (m:Nat):RG where
 d i:=(ρ i).d
 lay i:=(ρ i).lay
 tgt i:=(ρ i).tgt
 ob i:=(ρ i).ob
 main:=(List.range m).filter fun i=>(ρ i).mn
 H:=mkH ρ s0.ho ((List.range m).filter fun i=>(ρ i).mn)
 N:=mkN ρ (s0.nx+m) ((List.range m).filter fun i=>(ρ i).mn)
def kI (ρ:Nat→Rec) (i:Nat):Nat:=cnt (fun i=>(ρ i).mn) i
def Lt (i:Nat):Nat→Bool:=fun j=>decide (j < i)
section
variable {P:Program} {rs:List DR} {s0:DS} {Δ:Nat→DSt} {ρ:Nat→Rec} (R:Run P rs s0 Δ ρ)
include R
omit R in
theorem main_get {q k m:Nat} : (mkD ρ s0 m).main[k]?=some q↔q < m∧(ρ q).mn=true∧kI ρ q=k:=Bk6 _ _ _ _
omit R in
theorem B09 {m:Nat} : (mkD ρ s0 m).main.length=kI ρ m:=rfl
theorem semAt {i:Nat} {r:DR} (hr:rs[i]?=some r):Sem P s0.nx rs.length i r { an:=anR rs i,cls:=kdI rs i,tgt:=tgtI rs r,wide:=(Ak8 rs).any fun q=>!anB rs q i && !anB rs i q:OI } (Δ i) (Δ (i+1)) (ρ i):=R.sem i r _ hr (Be9 hr)
theorem Bf3 {i:Nat} (hi:i < rs.length) (h:(ρ i).mn=true):kdI rs i=2∧(ρ i).lay=none∧(ρ i).tgt=none:=by
 have hr:rs[i]?=some rs[i]:=List.getElem?_eq_getElem hi
 cases semAt R hr with
 | off hw hd hl ht hm he hlo hws hps=>rw [hm] at h; cases h
 | read hw hrf hx hl ht hm he hlo hws hlk hps=>rw [hm] at h; cases h
 | lay ob hw hrf hx hl ht hm he hlo hws hlk hps=>rw [hm] at h; cases h
 | wr ob hw hc hrf hx hal hlt han hl ht hob hm he hlo hws hps=>rw [hm] at h; cases h
 | main hid hs hhid hhs hw hc hrf hx hg hl ht hm he hlo hws hps=>exact ⟨hc,hl,ht⟩
theorem Bq0 {w j:Nat} (h:(ρ w).tgt=some j):w < rs.length∧anB rs w j=true∧∀ i,i < rs.length→anB rs i j=true→anB rs i w=true∨anB rs w i=true∨w=i:=by
 rcases Nat.lt_or_ge w rs.length with hi | hi
 ·have hr:rs[w]?=some rs[w]:=List.getElem?_eq_getElem hi
  cases semAt R hr with
  | off hw hd hl ht hm he hlo hws hps=>rw [ht] at h; cases h
  | read hw hrf hx hl ht hm he hlo hws hlk hps=>rw [ht] at h; cases h
  | lay ob hw hrf hx hl ht hm he hlo hws hlk hps=>rw [ht] at h; cases h
  | wr ob hw hc hrf hx hal hlt han hl ht hob hm he hlo hws hps=>
   rw [ht] at h
   have hj:tgtI rs rs[w]=j:=Option.some.inj h
   have h3:kdI rs w=3:=by
    have h1:=kd_le rs w
    have h2:kdI rs w≠0∧kdI rs w≠1∧kdI rs w≠2:=hc
    omega
   have:=R.ok.wr w _ hr h3
   rw [hj] at this
   exact ⟨hi,this⟩
  | main hid hs hhid hhs hw hc hrf hx hg hl ht hm he hlo hws hps=>rw [ht] at h; cases h
 ·rw [R.nil w hi] at h; cases h
theorem nx_at:∀ i,i≤rs.length→(mkD ρ s0 rs.length).N (kI ρ i)=(Δ i).es.nx∧s0.nx+rs.length≤(Δ i).es.nx∧(Δ i).es.ds.Fr
 | 0,_=>by
  have e:(Δ 0).es.nx=s0.nx+rs.length:=by have:=congrArg DS.nx R.z; exact this
  refine ⟨by rw [e]; rfl,by rw [e]; omega,?_⟩
  rw [R.z]
  intro id hid
  have:s0.nx+rs.length≤id:=hid
  exact R.fr id (by omega)
 | i+1,hi=>by
  obtain ⟨h1,h2,h3⟩:=nx_at i (by omega)
  have hr:rs[i]?=some rs[i]:=List.getElem?_eq_getElem (by omega)
  have hs:=semAt R hr
  have hg:=hs.gw (by omega) h2
  have hf:=hs.fr (by omega) h2 h3
  refine ⟨?_,by omega,hf⟩
  have same:(ρ i).mn=false→(Δ (i+1)).es.nx=(Δ i).es.nx→(mkD ρ s0 rs.length).N (kI ρ (i+1))=(Δ (i+1)).es.nx:=fun h4 h5=>by
   have:kI ρ (i+1)=kI ρ i:=by unfold kI; rw [Ai4]; simp [h4]
   rw [this,h1,h5]
  have nxe:∀ {s:DS} {d:DV},(Δ (i+1)).es.ds=s.put rs[i].dst d→(Δ (i+1)).es.nx=s.nx:=fun {s d} h=>by
   have h1:(Δ (i+1)).es.ds.nx=s.nx:=by rw [h,DS.nx_put]
   exact h1
  cases hs with
  | off hw hd hl ht hm he hlo hws hps=>exact same hm (nxe he)
  | read hw hrf hx hl ht hm he hlo hws hlk hps=>exact same hm (nxe he)
  | lay ob hw hrf hx hl ht hm he hlo hws hlk hps=>exact same hm (nxe he)
  | wr ob hw hc hrf hx hal hlt han hl ht hob hm he hlo hws hps=>exact same hm (nxe he)
  | main hid hs hhid hhs hw hc hrf hx hg hl ht hm he hlo hws hps=>
   rw [nxe he]
   have e:kI ρ (i+1)=kI ρ i+1:=by unfold kI; rw [Ai4]; simp [hm]
   have hmg:((List.range rs.length).filter fun i=>(ρ i).mn)[kI ρ i]?=some i:=(main_get (s0:=s0)).2 ⟨by omega,hm,rfl⟩
   rw [e]
   show mkN ρ _ _ _=_
   simp only [mkN,hmg]
theorem Aq9:(mkD ρ s0 rs.length).OKs rs s0 where
 pre:=R.ok.pre
 dst i j r r' t h1 h2 h3 h4:=by
  have e1:=R.ok.dst i r t h1 h3
  have e2:=R.ok.dst j r' t h2 h4
  rw [e1] at e2
  exact Option.some.inj e2
 rd:=R.ok.rd
 chain a b i j h1 h2 h3:=by
  obtain ⟨g1,g2,g3⟩:=main_get.1 h1
  obtain ⟨f1,f2,f3⟩:=main_get.1 h2
  have hij:i < j:=by
   rcases Nat.lt_or_ge i j with h | h
   ·exact h
   ·have:kI ρ j≤kI ρ i:=cnt_mono _ h
    omega
  exact R.ok.ch i j g1 f1 (Bf3 R g1 g2).1 (Bf3 R f1 f2).1 hij
 mlt a i h:=by
  obtain ⟨g1,g2,g3⟩:=main_get.1 h
  exact ⟨g1,(Bf3 R g1 g2).2⟩
 wr1 w j h:=(Bq0 R h).2.1
 wr2 i j w hi hw ha ht:=(Bq0 R ht).2.2 i hi ha
 h0:=rfl
 n0:=rfl
 mono k:=by
  cases hm:(mkD ρ s0 rs.length).main[k]? with
  | none=>
   have hm':((List.range rs.length).filter fun i=>(ρ i).mn)[k]?=none:=hm
   show mkN ρ _ _ k≤mkN ρ _ _ (k+1)
   simp only [mkN,hm']
   exact Nat.le_refl _
  | some q=>
   obtain ⟨g1,g2,g3⟩:=main_get.1 hm
   have e1:=nx_at R q (by omega)
   have e2:=nx_at R (q+1) (by omega)
   have hr:rs[q]?=some rs[q]:=List.getElem?_eq_getElem g1
   have:=((semAt R hr).gw g1 e1.2.1).1
   have ek:kI ρ (q+1)=k+1:=by
    have h5:=Ai4 (fun i=>(ρ i).mn) q
    rw [if_pos g2] at h5
    unfold kI at g3 ⊢
    omega
   rw [← ek,e2.1,← g3,e1.1]
   exact this
structure Inv (P:Program) (rs:List DR) (s0:DS) (Δ:Nat→DSt) (ρ:Nat→Rec) (i:Nat):Prop where
 sv:(Δ i).es.ds.sv=(mkD ρ s0 rs.length).sv rs s0 (Lt i)
 ho:(Δ i).es.ds.ho=(mkD ρ s0 rs.length).full rs s0 (Lt i) (kI ρ i)
 lo:∀ j,j∈(Δ i).lo↔j < i∧(ρ j).lay.isSome=true∧(mkD ρ s0 rs.length).pr rs (kI ρ i) j=false
theorem At3 {i:Nat} (hi:i≤rs.length):Done rs (mkD ρ s0 rs.length) (Lt i) (kI ρ i) where
 cl i' h1 h2 j h3:=by
  have h4:=an_lt R.ok h1 h3
  simp only [Lt,decide_eq_true_eq] at h2 ⊢
  omega
 le:=cnt_mono _ hi
 mn q j h:=by
  obtain ⟨g1,g2,g3⟩:=main_get.1 h
  simp only [Lt,decide_eq_true_eq]
  constructor
  ·intro h; rw [← g3]; exact cnt_lt _ h g2
  ·intro h
   rcases Nat.lt_or_ge j i with h' | h'
   ·exact h'
   ·have:kI ρ i≤kI ρ j:=cnt_mono _ h'
    omega
omit R in
theorem Cf6 (i:Nat) (j:Nat):Lt (i+1) j=(j == i || Lt i j):=by
 unfold Lt
 by_cases h:j=i
 ·subst h; simp
 ·have:decide (j < i+1)=decide (j < i):=by simp; omega
  rw [this,beq_eq_false_iff_ne.2 h,Bool.false_or]
theorem Lt_an {i:Nat} (hi:i < rs.length) (j:Nat) (h:anB rs i j=true):Lt i j=true:=by
 simp only [Lt,decide_eq_true_eq]; exact an_lt R.ok hi h
omit R in
theorem Aw1 (i:Nat):Lt i i=false:=by simp [Lt]
theorem Cf7 {i k:Nat} (hk:k≤kI ρ i):(mkD ρ s0 rs.length).pr rs k i=false:=by
 unfold RG.pr
 rw [List.any_eq_false]
 intro q hq
 obtain ⟨p,hp,rfl⟩:=List.mem_iff_getElem.1 hq
 rw [List.length_take] at hp
 have hm:(mkD ρ s0 rs.length).main[p]?=some ((mkD ρ s0 rs.length).main.take k)[p]:=by
  rw [List.getElem_take]; exact List.getElem?_eq_getElem (by omega)
 obtain ⟨g1,g2,g3⟩:=main_get.1 hm
 intro ha
 have h1:=an_lt R.ok g1 ha
 have h2:kI ρ i < kI ρ ((mkD ρ s0 rs.length).main.take k)[p]∨kI ρ i≤kI ρ ((mkD ρ s0 rs.length).main.take k)[p]:=.inr (cnt_mono _ (Nat.le_of_lt h1))
 omega
theorem seen {i:Nat} (hi:i < rs.length) (I:Inv P rs s0 Δ ρ i) (id:Nat):((mkD ρ s0 rs.length).st rs s0 i (kI ρ i)).ho id=if ∃ j∈(Δ i).lo.filter (fun j=>!(anR rs i).contains j),id=s0.nx+j then none else (Δ i).es.ds.ho id:=by
 have hr:rs[i]?=some rs[i]:=List.getElem?_eq_getElem hi
 have hv:=Av7 (D:=mkD ρ s0 rs.length) (rs:=rs) (s0:=s0) (L:=Lt i) (k:=kI ρ i) (Aq9 R) (At3 R (by omega)) hr (Aw1 i) (Lt_an R hi) id
 show (mkD ρ s0 rs.length).full rs s0 (anB rs i) (kI ρ i) id=_
 rw [hv,I.ho]
 cases hu:(mkD ρ s0 rs.length).unp rs s0 (kI ρ i) id with
 | none=>
  rw [if_neg]
  rintro ⟨j,hj,e⟩
  rw [List.mem_filter,I.lo] at hj
  obtain ⟨⟨h1,h2,h3⟩,_⟩:=hj
  have:(mkD ρ s0 rs.length).unp rs s0 (kI ρ i) id=some j:=by
   unfold RG.unp
   have e':id - s0.nx=j:=by omega
   rw [e',if_pos ⟨by omega,by omega,h2,h3⟩]
  rw [hu] at this; cases this
 | some j=>
  obtain ⟨e1,e2,e3,e4⟩:=Af9 hu
  simp only
  by_cases ha:anB rs i j=true
  ·rw [if_pos ha,if_neg]
   rintro ⟨j',hj,e⟩
   have:j'=j:=by omega
   subst this
   have h1:=(List.mem_filter.1 hj).2
   have h2:(anR rs i).contains j'=true:=ha
   rw [h2] at h1; cases h1
  ·rw [if_neg ha]
   rcases Nat.lt_or_ge j i with hji | hji
   ·rw [if_pos]
    refine ⟨j,List.mem_filter.2 ⟨(I.lo j).2 ⟨hji,e3,e4⟩,?_⟩,e1⟩
    have h2:¬ (anR rs i).contains j=true:=ha
    simpa using h2
   ·have hnone:(mkD ρ s0 rs.length).full rs s0 (Lt i) (kI ρ i) id=none:=by
     unfold RG.full
     rw [hu]
     have:Lt i j=false:=by simp [Lt]; omega
     simp [this]
    rw [hnone]
    split <;> rfl
theorem B10 {i:Nat} (hi:i < rs.length) (I:Inv P rs s0 Δ ρ i):Inv P rs s0 Δ ρ (i+1):=by
 have hr:rs[i]?=some rs[i]:=List.getElem?_eq_getElem hi
 have hOK:=Aq9 R
 have hD:=At3 R (Nat.le_of_lt hi)
 have han:=Lt_an R hi
 have hL':=Cf6 i
 have hs:=semAt R hr
 have kSame:(ρ i).mn=false→kI ρ (i+1)=kI ρ i:=fun h4=>by unfold kI; rw [Ai4]; simp [h4]
 have fin:∀ {ho:Nat→Option DObj} {nx:Nat},(Δ (i+1)).es.ds=(⟨(Δ i).es.ds.sv,ho,nx⟩:DS).put rs[i].dst (ρ i).d→ho=(mkD ρ s0 rs.length).full rs s0 (Lt (i+1)) (kI ρ (i+1))→
   (∀ j,j∈(Δ (i+1)).lo↔j < i+1∧(ρ j).lay.isSome=true∧(mkD ρ s0 rs.length).pr rs (kI ρ (i+1)) j=false)→Inv P rs s0 Δ ρ (i+1):=fun {ho nx} h1 h2 h3=>by
  obtain ⟨e1,e2⟩:=Bo2 (D:=mkD ρ s0 rs.length) (L:=Lt i) (L':=Lt (i+1)) hOK hr hL' (kI ρ (i+1)) ⟨(Δ i).es.ds.sv,ho,nx⟩ I.sv h2
  exact ⟨by rw [h1]; exact e1.symm,by rw [h1]; exact e2.symm,h3⟩
 have loSame:(ρ i).mn=false→(ρ i).lay=none→(Δ (i+1)).lo=(Δ i).lo→∀ j,j∈(Δ (i+1)).lo↔j < i+1∧(ρ j).lay.isSome=true∧(mkD ρ s0 rs.length).pr rs (kI ρ (i+1)) j=false:=fun h1 h2 h3 j=>by
  rw [h3,kSame h1,I.lo]
  constructor
  ·rintro ⟨g1,g2⟩; exact ⟨by omega,g2⟩
  ·rintro ⟨g1,g2,g3⟩
   refine ⟨?_,g2,g3⟩
   have:j≠i:=fun e=>by rw [e,h2] at g2; cases g2
   omega
 cases hs with
 | off hw hd hl ht hm he hlo hws hps=>
  refine fin (ho:=(Δ i).es.ds.ho) (nx:=(Δ i).es.ds.nx) (by rw [hd]; exact he) ?_ (loSame hm hl hlo)
  rw [kSame hm,I.ho]
  exact (Ap4 (D:=mkD ρ s0 rs.length) (L:=Lt i) (L':=Lt (i+1)) (i:=i) hL' hl ht).symm
 | read hw hrf hx hl ht hm he hlo hws hlk hps=>
  refine fin (ho:=(Δ i).es.ds.ho) (nx:=(Δ i).es.ds.nx) he ?_ (loSame hm hl hlo)
  rw [kSame hm,I.ho]
  exact (Ap4 (D:=mkD ρ s0 rs.length) (L:=Lt i) (L':=Lt (i+1)) (i:=i) hL' hl ht).symm
 | lay ob hw hrf hx hl ht hm he hlo hws hlk hps=>
  refine fin he ?_ fun j=>?_
  ·rw [kSame hm,I.ho]
   exact (Be1 (D:=mkD ρ s0 rs.length) (L:=Lt i) (L':=Lt (i+1)) hOK hD hr (Aw1 i) hL' hl ht).symm
  ·rw [hlo,List.mem_cons,kSame hm,I.lo]
   constructor
   ·rintro (rfl | ⟨g1,g2⟩)
    ·exact ⟨by omega,by rw [hl]; rfl,Cf7 R (Nat.le_refl _)⟩
    ·exact ⟨by omega,g2⟩
   ·rintro ⟨g1,g2⟩
    by_cases hji:j=i
    ·exact .inl hji
    ·exact .inr ⟨by omega,g2⟩
 | wr ob hw hc hrf hx hal hlt hant hl ht hob hm he hlo hws hps=>
  refine fin he ?_ (loSame hm hl hlo)
  obtain ⟨g1,g2,g3⟩:=(I.lo _).1 hlt
  have hu:(mkD ρ s0 rs.length).unp rs s0 (kI ρ i) (s0.nx+tgtI rs rs[i])=some (tgtI rs rs[i]):=by
   unfold RG.unp
   have g1':tgtI rs rs[i] < i:=g1
   have e':s0.nx+tgtI rs rs[i] - s0.nx=tgtI rs rs[i]:=by omega
   rw [e',if_pos ⟨by omega,by omega,g2,g3⟩]
  rw [kSame hm,I.ho,← hob]
  exact (Bo3 (D:=mkD ρ s0 rs.length) (L:=Lt i) (L':=Lt (i+1)) hOK hD hr (Aw1 i) han hL' hu hant ht hl).symm
 | main hid hs hhid hhs hw hc hrf hx hg hl ht hm he hlo hws hps=>
  have hmi:(mkD ρ s0 rs.length).main[kI ρ i]?=some i:=main_get.2 ⟨hi,hm,rfl⟩
  have hk:kI ρ (i+1)=kI ρ i+1:=by unfold kI; rw [Ai4]; simp [hm]
  have hH:(mkD ρ s0 rs.length).H (kI ρ i+1)=(ρ i).H:=by
   have:((List.range rs.length).filter fun i=>(ρ i).mn)[kI ρ i]?=some i:=hmi
   show mkH ρ s0.ho ((List.range rs.length).filter fun i=>(ρ i).mn) (kI ρ i+1)=_
   simp only [mkH,this]
  have hnx:=nx_at R i (by omega)
  have hmem:∀ j,j∈hid↔j∈(Δ i).lo∧anB rs i j=false:=fun j=>by
   rw [hhid,List.mem_filter]
   show _∧(!(anB rs i j))=true↔_
   simp
  refine fin he ?_ fun j=>?_
  ·funext id
   rw [hk,Av6 (D:=mkD ρ s0 rs.length) (L:=Lt i) (L':=Lt (i+1)) hL' hmi hl ht id,hH]
   cases hu:(mkD ρ s0 rs.length).unp rs s0 (kI ρ i) id with
   | none=>
    simp only
    rw [if_neg]
    rintro ⟨j,hj,e⟩
    obtain ⟨h1,h2,h3⟩:=(I.lo j).1 ((hmem j).1 hj).1
    have:(mkD ρ s0 rs.length).unp rs s0 (kI ρ i) id=some j:=by
     unfold RG.unp
     have e':id - s0.nx=j:=by omega
     rw [e',if_pos ⟨by omega,by omega,h2,h3⟩]
    rw [hu] at this; cases this
   | some j=>
    obtain ⟨e1,e2,e3,e4⟩:=Af9 hu
    simp only
    by_cases ha:anB rs i j=true
    ·rw [if_pos ha,if_neg]
     rintro ⟨j',hj,e⟩
     have:j'=j:=by omega
     subst this
     rw [((hmem j').1 hj).2] at ha; cases ha
    ·rw [if_neg ha]
     have hfull:(mkD ρ s0 rs.length).full rs s0 (Lt i) (kI ρ i) id=if Lt i j=true then (mkD ρ s0 rs.length).cur rs (Lt i) j else none:=by
      unfold RG.full; rw [hu]
     rcases Nat.lt_or_ge j i with hji | hji
     ·rw [if_pos ⟨j,(hmem j).2 ⟨(I.lo j).2 ⟨hji,e3,e4⟩,by simpa using ha⟩,e1⟩,I.ho,hfull]
     ·have hLj:Lt i j=false:=by simp [Lt]; omega
      rw [hLj]
      rw [hLj] at hfull
      simp only [Bool.false_eq_true,if_false] at hfull ⊢
      rw [if_neg (fun ⟨j',hj,e⟩=>by
       have:j'=j:=by omega
       subst this
       have:=((I.lo j').1 ((hmem j').1 hj).1).1
       omega)]
      cases hx:(ρ i).H id with
      | none=>rfl
      | some x=>
       exfalso
       have hn:hs.ho id=none:=by
        rw [hhs]
        simp only
        rw [I.ho,hfull]
        split <;> rfl
       have:=(hg.new id hn (by show (ρ i).H id≠none; rw [hx]; simp)).1
       rw [hhs] at this
       have h7:(Δ i).es.nx≤id:=this
       have:=hnx.2.1
       omega
  ·rw [hlo,hmem,I.lo,hk,Av5 hmi,Bool.or_eq_false_iff]
   constructor
   ·rintro ⟨⟨g1,g2,g3⟩,g4⟩; exact ⟨by omega,g2,g3,g4⟩
   ·rintro ⟨g1,g2,g3,g4⟩
    have:j≠i:=fun e=>by rw [e,hl] at g2; cases g2
    exact ⟨⟨by omega,g2,g3⟩,g4⟩
theorem Am1:∀ i,i≤rs.length→Inv P rs s0 Δ ρ i
 | 0,_=>by
  refine ⟨?_,?_,fun j=>by rw [R.lo0]; simp⟩
  ·funext t
   rw [R.z]
   show s0.sv t=RG.sv rs s0 _ _ t
   unfold RG.sv
   split
   ·simp [Lt]
   ·rfl
  ·funext id
   rw [R.z]
   show s0.ho id=RG.full rs s0 _ _ _ id
   unfold RG.full
   cases hu:(mkD ρ s0 rs.length).unp rs s0 (kI ρ 0) id with
   | none=>rfl
   | some j=>
    have:=Af9 hu
    simp [Lt]
    exact R.fr id (by omega)
 | i+1,hi=>B10 R (by omega) (Am1 i (by omega))
end
end Go.DD

/- The evaluator's regions that draw their order, third part: the theorem. -/
namespace Go.DD
theorem Cp8 {s:DS} {op:DOp} {x:Operand} (hx:x∈op.opnds) {id:Nat} (h:id∈(s.ev x).refs):Ag5 s op id:=by
 cases x with
 | tmp t=>
  simp only [DS.ev] at h
  split at h
  ·exact ⟨t,hx,h⟩
  ·simp [DV.refs] at h
 | const x=>simp only [DS.ev] at h; rw [Aj9] at h; cases h
 | func f=>simp [DS.ev,DV.refs,DV.refsL] at h
 | global g=>simp only [DS.ev] at h; rw [Bc4] at h; cases h
def HoEq (c:Bool) (a b:Option DObj):Prop:=if c=true then a=b else a.isSome=b.isSome
theorem HoEq.of {c:Bool} {a b:Option DObj} (h:a=b):HoEq c a b:=by
 unfold HoEq; subst h; split <;> rfl
theorem HoEq.some {c:Bool} {a b:Option DObj} (h:HoEq c a b):a.isSome=b.isSome:=by
 unfold HoEq at h; split at h
 ·rw [h]
 ·exact h
theorem HoEq.symm {c:Bool} {a b:Option DObj} (h:HoEq c a b):HoEq c b a:=by
 unfold HoEq at *
 split at h
 ·rename_i hc; rw [if_pos hc]; exact h.symm
 ·rename_i hc; rw [if_neg hc]; exact h.symm
theorem HoEq.trans {c:Bool} {a b d:Option DObj} (h:HoEq c a b) (h':HoEq c b d):HoEq c a d:=by
 unfold HoEq at *
 split at h
 ·rename_i hc; rw [if_pos hc] at h' ⊢; exact h.trans h'
 ·rename_i hc; rw [if_neg hc] at h' ⊢; exact h.trans h'
theorem look_eq {c:Bool} {a b:Tr DObj} {id:Nat} (h:(if c=true then sameAt a b id else Av8 a b id)=true):HoEq c (a.get id) (b.get id):=by
 unfold HoEq
 split at h
 ·rename_i hc; rw [if_pos hc]; exact Bp9 h
 ·rename_i hc; rw [if_neg hc]; unfold Av8 at h; simpa using h
theorem Bf4 {op:DOp} {s s':DS} (hsv:∀ t,.tmp t∈op.opnds→s'.sv t=s.sv t) (hho:∀ id,Ag5 s op id→HoEq op.rdC (s'.ho id) (s.ho id)):Agree op s s':=by
 refine ⟨fun x hx=>?_,fun x hx=>?_,fun hc x hx id hid=>(by have:=hho id (Cp8 hx hid); unfold HoEq at this; rwa [if_pos hc] at this)⟩
 ·cases x with
  | tmp t=>
   have h1:=hsv t hx
   have h2:s'.live (s'.sv t)=s.live (s.sv t):=by
    rw [h1]
    unfold DS.live
    rw [Bool.eq_iff_iff,List.all_eq_true,List.all_eq_true]
    constructor
    ·intro h id hid; rw [← (hho id ⟨t,hx,hid⟩).some]; exact h id hid
    ·intro h id hid; rw [(hho id ⟨t,hx,hid⟩).some]; exact h id hid
   simp only [DS.ev]
   rw [h2,h1]
  | _=>rfl
 ·cases x with
  | tmp t=>exact hsv t hx
  | _=>rfl
section
variable {P:Program} {rs:List DR} {s0:DS} {Δ:Nat→DSt} {ρ:Nat→Rec} (R:Run P rs s0 Δ ρ)
include R
theorem Cf8 {i:Nat} (hi:i < rs.length):(∀ w∈(Δ i).ws,w∈(Δ (i+1)).ws)∧(∀ p∈(Δ i).ps,p∈(Δ (i+1)).ps):=by
 cases semAt R (List.getElem?_eq_getElem hi) with
 | off hw hd hl ht hm he hlo hws hps=>rw [hws,hps]; exact ⟨fun _ h=>h,fun _ h=>h⟩
 | read hw hrf hx hl ht hm he hlo hws hlk hps=>rw [hps]; exact ⟨hws,fun _ h=>h⟩
 | lay ob hw hrf hx hl ht hm he hlo hws hlk hps=>rw [hps]; exact ⟨hws,fun _ h=>h⟩
 | wr ob hw hc hrf hx hal hlt han hl ht hob hm he hlo hws hps=>rw [hws,hps]; exact ⟨fun _ h=>h,fun _ h=>h⟩
 | main hid hs hhid hhs hw hc hrf hx hg hl ht hm he hlo hws hps=>rw [hws,hps]; exact ⟨fun _ h=>h,fun _ h=>List.mem_cons_of_mem _ h⟩
theorem B66 {i j:Nat} (h:i≤j) (hj:j≤rs.length):(∀ w∈(Δ i).ws,w∈(Δ j).ws)∧(∀ p∈(Δ i).ps,p∈(Δ j).ps):=by
 induction h with
 | refl=>exact ⟨fun _ h=>h,fun _ h=>h⟩
 | @step j h ih=>
  obtain ⟨h1,h2⟩:=ih (by have:j+1≤rs.length:=hj; omega)
  obtain ⟨h3,h4⟩:=Cf8 R (i:=j) hj
  exact ⟨fun w hw=>h3 w (h1 w hw),fun p hp=>h4 p (h2 p hp)⟩
theorem Cf9 {q:Nat} (hq:q < rs.length) (hm:(ρ q).mn=true):(⟨q,anR rs q,(Δ q).es.hp,(Δ (q+1)).es.hp⟩:Past)∈(Δ rs.length).ps:=by
 refine (B66 R (i:=q+1) (by omega) (Nat.le_refl _)).2 _ ?_
 cases semAt R (List.getElem?_eq_getElem hq) with
 | off hw hd hl ht hm' he hlo hws hps=>rw [hm] at hm'; cases hm'
 | read hw hrf hx hl ht hm' he hlo hws hlk hps=>rw [hm] at hm'; cases hm'
 | lay ob hw hrf hx hl ht hm' he hlo hws hlk hps=>rw [hm] at hm'; cases hm'
 | wr ob hw hc hrf hx hal hlt han hl ht hob hm' he hlo hws hps=>rw [hm] at hm'; cases hm'
 | main hid hs hhid hhs hw hc hrf hx hg hl ht hm' he hlo hws hps=>rw [hps]; exact List.mem_cons_self ..
theorem st_sv {i:Nat} {r:DR} (hr:rs[i]?=some r) (k:Nat) {t:Nat} (ht:t∈r.tmps):((mkD ρ s0 rs.length).st rs s0 i k).sv t=(Δ i).es.ds.sv t:=by
 have hi:=(List.getElem?_eq_some_iff.1 hr).1
 have I:=Am1 R i (by omega)
 rw [I.sv]
 exact (Bd8 (D:=mkD ρ s0 rs.length) (L:=Lt i) (k:=kI ρ i) (Aq9 R) (At3 R (by omega)) hr (Aw1 i) (Lt_an R hi) t ht).symm
omit R in
theorem Bf5 {r:DR} {t:Nat} (h : .tmp t∈r.op.opnds):t∈r.tmps:=by
 simp only [DR.tmps,List.mem_append,List.mem_filterMap]
 exact .inl ⟨_,h,rfl⟩
theorem st_ho {i:Nat} {r:DR} (hr:rs[i]?=some r) {id:Nat} (h:Ap6 s0.nx rs.length (anR rs i) (Δ i).es.ds id):((mkD ρ s0 rs.length).st rs s0 i (kI ρ i)).ho id=(Δ i).es.ds.ho id:=by
 have hi:=(List.getElem?_eq_some_iff.1 hr).1
 have I:=Am1 R i (by omega)
 rw [seen R hi I,if_neg]
 rintro ⟨j,hj,e⟩
 have h1:=(List.mem_filter.1 hj)
 have h2:=(I.lo j).1 h1.1
 rcases h.2 with h3 | h3 | h3
 ·omega
 ·omega
 ·have:id - s0.nx=j:=by omega
  rw [this] at h3
  have h4:=h1.2
  rw [h3] at h4; cases h4
theorem B11 {i:Nat} {r:DR} (hr:rs[i]?=some r) {id:Nat} (hlk:((Ak8 rs).any fun q=>!anB rs q i && !anB rs i q)=true→(⟨i,anR rs i,id,(Δ i).lo.contains (id - s0.nx),r.op.rdC⟩:Look)∈(Δ (i+1)).ws)
  {q p:Nat} (hq:(mkD ρ s0 rs.length).main[q]?=some p) (h1:anB rs p i=false) (h2:anB rs i p=false) :
  HoEq r.op.rdC (((mkD ρ s0 rs.length).st rs s0 i (q+1)).ho id) (((mkD ρ s0 rs.length).st rs s0 i q).ho id):=by
 have hi:=(List.getElem?_eq_some_iff.1 hr).1
 obtain ⟨g1,g2,g3⟩:=main_get.1 hq
 have hwide:((Ak8 rs).any fun q=>!anB rs q i && !anB rs i q)=true:=by
  rw [List.any_eq_true]
  exact ⟨p,by simp [Ak8,g1,(Bf3 R g1 g2).1],by simp [h1,h2]⟩
 have hl:=(B66 R (i:=i+1) (by omega) (Nat.le_refl _)).1 _ (hlk hwide)
 have hp:=Cf9 R g1 g2
 have hok:=List.all_eq_true.1 (List.all_eq_true.1 R.look _ hl) _ hp
 simp only at hok
 have e1:(anR rs i).contains p=false:=h2
 have e2:(anR rs p).contains i=false:=h1
 rw [e1,e2,Bool.false_or,Bool.false_or] at hok
 have hkp:kI ρ (p+1)=q+1:=by
  have h5:=Ai4 (fun i=>(ρ i).mn) p
  rw [if_pos g2] at h5
  unfold kI at g3 ⊢
  omega
 split at hok
 ·rename_i hout
  have hout:id < s0.nx∨s0.nx+rs.length≤id:=by
   rw [Bool.or_eq_true] at hout
   rcases hout with h | h
   ·exact .inl (by simpa [Nat.blt_eq] using h)
   ·exact .inr (by simpa [Nat.ble_eq] using h)
  have hu:∀ k,(mkD ρ s0 rs.length).unp rs s0 k id=none:=fun k=>by
   unfold RG.unp
   rw [if_neg (fun hc=>by omega)]
  have hf:∀ L k,(mkD ρ s0 rs.length).full rs s0 L k id=(mkD ρ s0 rs.length).H k id:=fun L k=>by
   unfold RG.full; rw [hu]
  show HoEq _ ((mkD ρ s0 rs.length).full rs s0 _ _ id) ((mkD ρ s0 rs.length).full rs s0 _ _ id)
  rw [hf,hf]
  have hs:=look_eq hok
  have i1:=congrFun (Am1 R p (by omega)).ho id
  have i2:=congrFun (Am1 R (p+1) (by omega)).ho id
  rw [hf] at i1 i2
  rw [g3] at i1
  rw [hkp] at i2
  rw [← i1,← i2]
  exact hs.symm
 ·rename_i hin
  rw [Bool.and_eq_true] at hok
  have hin':s0.nx≤id∧id < s0.nx+rs.length:=by
   rw [Bool.or_eq_true] at hin
   refine ⟨?_,?_⟩
   ·rcases Nat.lt_or_ge id s0.nx with h | h
    ·exact absurd (.inl (by simpa [Nat.blt_eq] using h)) hin
    ·exact h
   ·rcases Nat.lt_or_ge id (s0.nx+rs.length) with h | h
    ·exact h
    ·exact absurd (.inr (by simpa [Nat.ble_eq] using h)) hin
  have hlo:id - s0.nx∈(Δ i).lo:=by simpa using hok.1
  obtain ⟨l1,l2,l3⟩:=((Am1 R i (by omega)).lo _).1 hlo
  have hpj:anB rs p (id - s0.nx)=false:=by
   have:(!(anB rs p (id - s0.nx)))=true:=hok.2
   simpa using this
  have hpr:(mkD ρ s0 rs.length).pr rs q (id - s0.nx)=false:=by
   unfold RG.pr
   rw [List.any_eq_false]
   intro x hx
   obtain ⟨n,hn,rfl⟩:=List.mem_iff_getElem.1 hx
   rw [List.length_take] at hn
   have hm:(mkD ρ s0 rs.length).main[n]?=some ((mkD ρ s0 rs.length).main.take q)[n]:=by
    rw [List.getElem_take]; exact List.getElem?_eq_getElem (by omega)
   have hch:=(Aq9 R).chain n q _ _ hm hq (by omega)
   intro h
   have:=B07 R.ok g1 hch h
   rw [hpj] at this; cases this
  have hu1:(mkD ρ s0 rs.length).unp rs s0 q id=some (id - s0.nx):=by
   unfold RG.unp
   rw [if_pos ⟨hin'.1,hin'.2,l2,hpr⟩]
  have hu2:(mkD ρ s0 rs.length).unp rs s0 (q+1) id=some (id - s0.nx):=by
   unfold RG.unp
   rw [if_pos ⟨hin'.1,hin'.2,l2,by rw [Av5 hq,hpr,hpj]; rfl⟩]
  refine HoEq.of ?_
  show (mkD ρ s0 rs.length).full rs s0 _ _ id=(mkD ρ s0 rs.length).full rs s0 _ _ id
  unfold RG.full
  rw [hu1,hu2]
theorem Aw2 {i:Nat} (hi:i < rs.length) {k:Nat} (h:(mkD ρ s0 rs.length).may rs i k) {q p:Nat} (hq:(mkD ρ s0 rs.length).main[q]?=some p) (hb:(kI ρ i≤q∧q < k)∨(k≤q∧q < kI ρ i)):anB rs p i=false∧anB rs i p=false:=by
 obtain ⟨g1,g2,g3⟩:=main_get.1 hq
 rcases hb with ⟨h1,h2⟩ | ⟨h1,h2⟩
 ·refine ⟨h.2.1 q p h2 hq,?_⟩
  cases hx:anB rs i p with
  | false=>rfl
  | true=>
   have h3:=an_lt R.ok hi hx
   have:kI ρ p < kI ρ i:=cnt_lt _ h3 g2
   omega
 ·refine ⟨?_,h.2.2 q p h1 hq⟩
  cases hx:anB rs p i with
  | false=>rfl
  | true=>
   have h3:=an_lt R.ok g1 hx
   have:kI ρ i≤kI ρ p:=cnt_mono _ (by omega)
   omega
omit R in
theorem Ba6 {c:Bool} {f:Nat→Option DObj} {a b:Nat} (hab:a≤b) (h:∀ q,a≤q→q < b→HoEq c (f (q+1)) (f q)):HoEq c (f b) (f a):=by
 induction hab with
 | refl=>exact HoEq.of rfl
 | @step m hm ih=>
  exact (h m hm (Nat.lt_succ_self m)).trans (ih fun q h1 h2=>h q h1 (by omega))
theorem win {i:Nat} {r:DR} (hr:rs[i]?=some r) {id:Nat} (hlk:((Ak8 rs).any fun q=>!anB rs q i && !anB rs i q)=true→(⟨i,anR rs i,id,(Δ i).lo.contains (id - s0.nx),r.op.rdC⟩:Look)∈(Δ (i+1)).ws)
  {k:Nat} (h:(mkD ρ s0 rs.length).may rs i k):HoEq r.op.rdC (((mkD ρ s0 rs.length).st rs s0 i k).ho id) (((mkD ρ s0 rs.length).st rs s0 i (kI ρ i)).ho id):=by
 have hi:=(List.getElem?_eq_some_iff.1 hr).1
 have hstep:∀ q,(kI ρ i≤q∧q < k)∨(k≤q∧q < kI ρ i)→HoEq r.op.rdC (((mkD ρ s0 rs.length).st rs s0 i (q+1)).ho id) (((mkD ρ s0 rs.length).st rs s0 i q).ho id):=fun q hb=>by
  have hql:q < (mkD ρ s0 rs.length).main.length:=by
   have h1:=h.1
   have h2:kI ρ i≤(mkD ρ s0 rs.length).main.length:=cnt_mono _ (Nat.le_of_lt hi)
   omega
  have hq:=List.getElem?_eq_getElem hql
  obtain ⟨h1,h2⟩:=Aw2 R hi h hq hb
  exact B11 R hr hlk hq h1 h2
 rcases Nat.le_total (kI ρ i) k with hle | hle
 ·exact Ba6 (f:=fun q=>((mkD ρ s0 rs.length).st rs s0 i q).ho id) hle fun q h1 h2=>hstep q (.inl ⟨h1,h2⟩)
 ·exact (Ba6 (f:=fun q=>((mkD ρ s0 rs.length).st rs s0 i q).ho id) hle fun q h1 h2=>hstep q (.inr ⟨h1,h2⟩)).symm
theorem Bq1 {i:Nat} {r:DR} (hr:rs[i]?=some r) (hrf:∀ id,Ag5 (Δ i).es.ds r.op id→Ap6 s0.nx rs.length (anR rs i) (Δ i).es.ds id) {k:Nat} (hk:∀ id,Ag5 (Δ i).es.ds r.op id→HoEq r.op.rdC (((mkD ρ s0 rs.length).st rs s0 i k).ho id) (((mkD ρ s0 rs.length).st rs s0 i (kI ρ i)).ho id)) :
  liveR ((mkD ρ s0 rs.length).st rs s0 i k) r∧Agree r.op (Δ i).es.ds ((mkD ρ s0 rs.length).st rs s0 i k):=by
 have hsv:∀ t,.tmp t∈r.op.opnds→((mkD ρ s0 rs.length).st rs s0 i k).sv t=(Δ i).es.ds.sv t:=fun t ht=>st_sv R hr k (Bf5 ht)
 have hho:∀ id,Ag5 (Δ i).es.ds r.op id→HoEq r.op.rdC (((mkD ρ s0 rs.length).st rs s0 i k).ho id) ((Δ i).es.ds.ho id):=fun id hid=>(hk id hid).trans (HoEq.of (st_ho R hr (hrf id hid)))
 refine ⟨fun t ht=>?_,Bf4 hsv hho⟩
 rw [hsv t ht]
 unfold DS.live
 rw [List.all_eq_true]
 intro id hid
 rw [(hho id ⟨t,ht,hid⟩).some]
 exact (hrf id ⟨t,ht,hid⟩).1
theorem Cp9 (i:Nat) (r:DR) (hr:rs[i]?=some r):(mkD ρ s0 rs.length).ev rs s0 P i r:=by
 have hi:=(List.getElem?_eq_some_iff.1 hr).1
 have I:=Am1 R i (by omega)
 have hwe:((mkD ρ s0 rs.length).st rs s0 i 0).wanted r.g=(Δ i).es.ds.wanted r.g:=by
  unfold DS.wanted
  cases hg:r.g with
  | none=>rfl
  | some p=>
   obtain ⟨t,b⟩:=p
   have:=st_sv R hr 0 (t:=t) (by simp [DR.tmps,hg])
   simp only [this]
 have hnm:(ρ i).mn=false→i∉(mkD ρ s0 rs.length).main:=fun h hmem=>by
  obtain ⟨k,hk⟩:=List.mem_iff_getElem?.1 hmem
  have:=(main_get.1 hk).2.1
  rw [h] at this; cases this
 unfold RG.ev
 rw [hwe]
 have hs:=semAt R hr
 have notcall:∀ {nid:Nat} {d:DV} {u:Upd},execU nid (Δ i).es.ds r.op=some (d,u)→(∀ f args,r.op≠.call f args)∧∀ tb x args,r.op≠.cv tb x args:=fun {nid d u} h=>⟨fun f args e=>(by rw [e] at h; cases h),fun tb x args e=>(by rw [e] at h; cases h)⟩
 have nonmain:∀ {u0:Upd},(ρ i).mn=false→(Δ i).es.ds.wanted r.g=some true→execU (s0.nx+i) (Δ i).es.ds r.op=some ((ρ i).d,u0)→(∀ id,Ag5 (Δ i).es.ds r.op id→Ap6 s0.nx rs.length (anR rs i) (Δ i).es.ds id)→
   (∀ k,(mkD ρ s0 rs.length).may rs i k→(∀ id,Ag5 (Δ i).es.ds r.op id→HoEq r.op.rdC (((mkD ρ s0 rs.length).st rs s0 i k).ho id) (((mkD ρ s0 rs.length).st rs s0 i (kI ρ i)).ho id))∧match u0 with
     | .keep=>(ρ i).lay=none∧(ρ i).tgt=none
     | .lay o=>(ρ i).lay=some o∧(ρ i).tgt=none
     | .wr id o=>∃ j,(mkD ρ s0 rs.length).unp rs s0 k id=some j∧anB rs i j=true∧(ρ i).tgt=some j∧(ρ i).ob=o∧(ρ i).lay=none
     | _=>False)→(mkD ρ s0 rs.length).ev rs s0 P i r:=fun {u0} hm hw hx hrf hk=>by
  have hnc:=notcall hx
  unfold RG.ev
  rw [hwe,hw]
  simp only
  have key:∀ k,(mkD ρ s0 rs.length).may rs i k→liveR ((mkD ρ s0 rs.length).st rs s0 i k) r∧∃ u,execU (s0.nx+i) ((mkD ρ s0 rs.length).st rs s0 i k) r.op=some ((mkD ρ s0 rs.length).d i,u)∧match u with
     | .keep=>(mkD ρ s0 rs.length).lay i=none∧(mkD ρ s0 rs.length).tgt i=none
     | .lay o=>(mkD ρ s0 rs.length).lay i=some o∧(mkD ρ s0 rs.length).tgt i=none
     | .wr id o=>∃ j,(mkD ρ s0 rs.length).unp rs s0 k id=some j∧anB rs i j=true∧(mkD ρ s0 rs.length).tgt i=some j∧(mkD ρ s0 rs.length).ob i=o∧(mkD ρ s0 rs.length).lay i=none
     | _=>False:=fun k hmay=>by
   obtain ⟨h1,h2⟩:=hk k hmay
   obtain ⟨h3,h4⟩:=Bq1 R hr hrf h1
   refine ⟨h3,u0,by rw [Ak1 h4]; exact hx,h2⟩
  split
  ·rename_i f args ho; exact absurd ho (hnc.1 f args)
  ·rename_i tb x args ho; exact absurd ho (hnc.2 tb x args)
  ·exact .inr ⟨hnm hm,key⟩
 cases hs with
 | off hw hd hl ht hm he hlo hws hps=>rw [hw]; exact ⟨hd,hl,ht,hnm hm⟩
 | read hw hrf hx hl ht hm he hlo hws hlk hps=>
  have:=nonmain hm hw hx hrf fun k hmay=>⟨fun id hid=>win R hr (fun h=>hlk h id hid) hmay,hl,ht⟩
  unfold RG.ev at this
  rwa [hwe] at this
 | lay ob hw hrf hx hl ht hm he hlo hws hlk hps=>
  have:=nonmain hm hw hx hrf fun k hmay=>⟨fun id hid=>win R hr (fun h=>hlk h id hid) hmay,hl,ht⟩
  unfold RG.ev at this
  rwa [hwe] at this
 | wr ob hw hc hrf hx hal hlt hant hl ht hob hm he hlo hws hps=>
  obtain ⟨g1,g2,g3⟩:=(I.lo _).1 hlt
  have g1':tgtI rs r < i:=g1
  have hunp:∀ k,(mkD ρ s0 rs.length).may rs i k→(mkD ρ s0 rs.length).unp rs s0 k (s0.nx+tgtI rs r)=some (tgtI rs r):=fun k hmay=>by
   have hpr:(mkD ρ s0 rs.length).pr rs k (tgtI rs r)=false:=by
    unfold RG.pr
    rw [List.any_eq_false]
    intro x hx
    obtain ⟨n,hn,rfl⟩:=List.mem_iff_getElem.1 hx
    rw [List.length_take] at hn
    have hmn:(mkD ρ s0 rs.length).main[n]?=some ((mkD ρ s0 rs.length).main.take k)[n]:=by
     rw [List.getElem_take]; exact List.getElem?_eq_getElem (by omega)
    obtain ⟨f1,f2,f3⟩:=main_get.1 hmn
    intro h
    rcases Nat.lt_or_ge n (kI ρ i) with hlt' | hge
    ·have:(mkD ρ s0 rs.length).pr rs (kI ρ i) (tgtI rs r)=true:=by
      unfold RG.pr
      rw [List.any_eq_true]
      refine ⟨_,List.mem_iff_getElem?.2 ⟨n,?_⟩,h⟩
      rw [List.getElem?_take,if_pos hlt']; exact hmn
     have g3':(mkD ρ s0 rs.length).pr rs (kI ρ i) (tgtI rs r)=false:=g3
     rw [g3'] at this; cases this
    ·obtain ⟨u1,u2⟩:=Aw2 R hi hmay hmn (.inl ⟨hge,by omega⟩)
     rcases (Bq0 R ht).2.2 _ f1 h with h' | h' | h'
     ·rw [u1] at h'; cases h'
     ·rw [u2] at h'; cases h'
     ·rw [← h'] at f2; rw [hm] at f2; cases f2
   unfold RG.unp
   have e':s0.nx+tgtI rs r - s0.nx=tgtI rs r:=by omega
   rw [e',if_pos ⟨by omega,by omega,g2,hpr⟩]
  have hmay0:(mkD ρ s0 rs.length).may rs i (kI ρ i):=A16 (D:=mkD ρ s0 rs.length) (L:=Lt i) (Aq9 R) (At3 R (by omega)) (Aw1 i) (Lt_an R hi)
  have hfull:∀ k,(mkD ρ s0 rs.length).may rs i k→((mkD ρ s0 rs.length).st rs s0 i k).ho (s0.nx+tgtI rs r)=(mkD ρ s0 rs.length).cur rs (anB rs i) (tgtI rs r):=fun k hmay=>by
   show (mkD ρ s0 rs.length).full rs s0 _ _ _=_
   unfold RG.full
   rw [hunp k hmay]
   have ha:anB rs i (tgtI rs r)=true:=hant
   simp only
   rw [if_pos ha]
  have:=nonmain hm hw hx hrf fun k hmay=>⟨fun id hid=>by
   have e:id=s0.nx+tgtI rs r:=hal id hid
   exact HoEq.of (by rw [e,hfull k hmay,hfull _ hmay0]),⟨_,hunp k hmay,hant,ht,hob,hl⟩⟩
  unfold RG.ev at this
  rwa [hwe] at this
 | main hid hs hhid hhs hw hc hrf hx hg hl ht hm he hlo hws hps=>
  rw [hw]
  simp only
  have hmi:(mkD ρ s0 rs.length).main[kI ρ i]?=some i:=main_get.2 ⟨hi,hm,rfl⟩
  have hfn:((List.range rs.length).filter fun i=>(ρ i).mn)[kI ρ i]?=some i:=hmi
  have hH:(mkD ρ s0 rs.length).H (kI ρ i+1)=(ρ i).H:=by
   show mkH ρ s0.ho ((List.range rs.length).filter fun i=>(ρ i).mn) (kI ρ i+1)=_
   simp only [mkH,hfn]
  have hN:(mkD ρ s0 rs.length).N (kI ρ i+1)=(ρ i).N:=by
   show mkN ρ (s0.nx+rs.length) ((List.range rs.length).filter fun i=>(ρ i).mn) (kI ρ i+1)=_
   simp only [mkN,hfn]
  have hnx:=(nx_at R i (by omega)).1
  obtain ⟨hlv,_⟩:=Bq1 R hr hrf (k:=kI ρ i) fun _ _=>HoEq.of rfl
  have hsho:hs.ho=((mkD ρ s0 rs.length).st rs s0 i (kI ρ i)).ho:=by
   funext id
   rw [seen R hi I,hhs,hhid]
  have hsnx:hs.nx=((mkD ρ s0 rs.length).st rs s0 i (kI ρ i)).nx:=by
   rw [hhs]
   exact hnx.symm
  have hssv:∀ t,.tmp t∈r.op.opnds→((mkD ρ s0 rs.length).st rs s0 i (kI ρ i)).sv t=hs.sv t:=fun t htm=>by
   rw [hhs]; exact st_sv R hr _ (Bf5 htm)
  have hag:Agree r.op hs ((mkD ρ s0 rs.length).st rs s0 i (kI ρ i)):=Bf4 hssv fun id _=>HoEq.of (by rw [hsho])
  have hst:(⟨((mkD ρ s0 rs.length).st rs s0 i (kI ρ i)).sv,hs.ho,hs.nx⟩:DS)=(mkD ρ s0 rs.length).st rs s0 i (kI ρ i):=by rw [hsho,hsnx]
  have hargs:∀ (args:List Operand),(∀ x∈args,x∈r.op.opnds)→args.map ((mkD ρ s0 rs.length).st rs s0 i (kI ρ i)).rv=args.map hs.rv:=fun args hsub=>List.map_congr_left fun x hx=>hag.rv x (hsub x hx)
  unfold A63 at hx
  split
  ·rename_i f args ho
   rw [ho] at hx
   simp only at hx
   refine ⟨kI ρ i,hmi,hlv,?_⟩
   rw [hargs args (fun x hx=>by rw [ho]; exact hx),hH,hN,← hst]
   exact hx _
  ·rename_i tb x args ho
   rw [ho] at hx
   simp only at hx
   obtain ⟨f,fr,cs,h1,h2⟩:=hx
   refine ⟨kI ρ i,f,fr,cs,hmi,hlv,?_,?_⟩
   ·rw [hag.ev x (by rw [ho]; simp [DOp.opnds])]; exact h1
   ·rw [hargs args (fun y hy=>by rw [ho]; simp [DOp.opnds,hy]),hH,hN,← hst]
    exact h2 _
  ·rename_i hn2 hn3
   have hx':∃ u,hs.hasU u=true∧execU hs.nx hs r.op=some ((ρ i).d,u)∧(ρ i).H=u.app hs.nx hs.ho∧(ρ i).N=if u.new then hs.nx+1 else hs.nx:=by
    revert hx
    split
    ·rename_i f args ho; exact absurd ho (hn2 f args)
    ·rename_i tb x args ho; exact absurd ho (hn3 tb x args)
    ·exact id
   obtain ⟨u,h1,h2,h3,h4⟩:=hx'
   refine .inl ⟨kI ρ i,u,hmi,hlv,?_,?_,?_,?_⟩
   ·cases u with
    | wr id o=>simp only [DS.hasU] at h1 ⊢; rw [← hsho]; exact h1
    | mv old o=>
     cases old with
     | none=>rfl
     | some id=>simp only [DS.hasU] at h1 ⊢; rw [← hsho]; exact h1
    | _=>rfl
   ·have e:hs.nx=(mkD ρ s0 rs.length).N (kI ρ i):=hsnx
    rw [Ak1 hag,← e]
    exact h2
   ·have e:hs.nx=(mkD ρ s0 rs.length).N (kI ρ i):=hsnx
    rw [hH,h3,hsho,e]
   ·have e:hs.nx=(mkD ρ s0 rs.length).N (kI ρ i):=hsnx
    rw [hN,h4,e]
theorem Cq0:(mkD ρ s0 rs.length).OK rs s0 P:={ Aq9 R with ev:=Cp9 R }
theorem run_end:(mkD ρ s0 rs.length).at_ rs s0 (fun _=>true) (mkD ρ s0 rs.length).main.length=(Δ rs.length).es.ds:=by
 have I:=Am1 R rs.length (Nat.le_refl _)
 have hN:=(nx_at R rs.length (Nat.le_refl _)).1
 have hsv:(mkD ρ s0 rs.length).sv rs s0 (fun _=>true)=(mkD ρ s0 rs.length).sv rs s0 (Lt rs.length):=by
  funext t
  unfold RG.sv
  cases hp:rs.findIdx? (fun r=>r.dst == some t) with
  | none=>rfl
  | some p=>
   have:p < rs.length:=(List.findIdx?_eq_some_iff_findIdx_eq.1 hp).1
   simp [Lt,this]
 have hho:(mkD ρ s0 rs.length).full rs s0 (fun _=>true) (kI ρ rs.length)=(mkD ρ s0 rs.length).full rs s0 (Lt rs.length) (kI ρ rs.length):=by
  funext id
  unfold RG.full
  cases hu:(mkD ρ s0 rs.length).unp rs s0 (kI ρ rs.length) id with
  | none=>rfl
  | some j=>
   have hj:=(Af9 hu).2.1
   have hc:(mkD ρ s0 rs.length).cur rs (fun _=>true) j=(mkD ρ s0 rs.length).cur rs (Lt rs.length) j:=by
    unfold RG.cur
    rw [Ah3 (L:=Lt rs.length) (L':=fun _=>true) fun w hw _=>by simp [Lt,hw]]
   simp [Lt,hj,hc]
 show (⟨_,_,_⟩:DS)=_
 rw [B09,hsv,hho,hN,← I.sv,← I.ho]
 rfl
end
theorem Cg0 {C:Ctx} {call:CallT} (hc:Ad3 C.P call) (hm:C.P.follows .mixedOrders=true) {rs:List DR} {es es':ES} (hok:(Ag2 rs).ok=true) (h:regE rs.length (rundE rs (Ag2 rs).l 0) call es=some es') (hfr:es.ds.Fr) :
  Gw es.ds es'.ds∧∀ (info:RI) (Q:Exit→DS→Prop),Q .normal es'.ds→DW C (.reg true rs info) Q es.ds:=by
 obtain ⟨Δ,ρ,R,rfl⟩:=Cp7 hc hok h hfr
 refine ⟨?_,fun info Q hQ=>DW.regd (mkD ρ es.ds rs.length) hm (Cq0 R) (by rw [run_end R]; exact hQ)⟩
 have key:∀ i,i≤rs.length→∀ id,es.ds.ho id=none→(Δ i).es.ds.ho id≠none→es.ds.nx≤id∧id < (Δ i).es.nx:=by
  intro i
  induction i with
  | zero=>intro _ id h1 h2; rw [R.z] at h2; exact absurd h1 h2
  | succ i ih=>
   intro hi id h1 h2
   have hn:=(nx_at R i (by omega)).2.1
   obtain ⟨g1,g2⟩:=(semAt R (List.getElem?_eq_getElem (show i < rs.length by omega))).gw (by omega) hn
   cases h3:(Δ i).es.ds.ho id with
   | none=>exact g2 id h3 h2
   | some o=>
    have:=ih (by omega) id h1 (by rw [h3]; simp)
    omega
 have hn:=(nx_at R rs.length (Nat.le_refl _)).2.1
 exact ⟨by show es.ds.nx≤(Δ rs.length).es.nx; omega,key _ (Nat.le_refl _)⟩
end Go.DD

/- The contract of a function, out of its body. -/
namespace Go.DD
open Go.RowKit (Below)
def finD (s:DS) (rs:List (Nat×Option (Option Nat))):Option DV:=
 match resV s rs with
 | some d=>rz s.ho 6 d
 | none=>none
theorem DCall.intro {P:Program} {f:FuncId} {fn:Func} {df:DF} {args:List DV} {R:DV→Prop} (hf:P.funcs[f]?=some fn) (hc:Ay2 P fn=some df) (hn:args.length≤df.nt)
  (h:∀ (S:Nat→Prop) (w0:World),DW ⟨P,S,fun _=>False,w0,df.nt,fun _ _=>False,fun _=>False,none,fun _=>none,fun _=>False⟩ df.code (fun e s=>(e=.normal∨e=.ret)∧∃ r,finD s df.res=some r∧R r) ⟨argF args,fun _=>none,0⟩):DCall P f args R:=by
 intro w S vs hS hl hrel hglv
 unfold Ay2 at hc
 split at hc
 rotate_left
 ·cases hc
 rename_i body hb
 split at hc
 rotate_left
 ·cases hc
 rename_i c r hcc hcr
 cases hc
 refine callsIn_wide.1 (callsIn_of_wp_marks (n:=0) hf hb trivial ?_)
 have hhh:HH ⟨P,S,fun _=>False,w,fn.ntmps,fun _ _=>False,fun _=>False,none,fun _=>none,fun _=>False⟩ (Us ⟨P,S,fun _=>False,w,fn.ntmps,fun _ _=>False,fun _=>False,none,fun _=>none,fun _=>False⟩ 0) (vwF (fun _=>none) (fun _=>none)) (fun _=>none) w:=
  ⟨hS,⟨rfl,rfl,rfl,Nat.le_refl _,fun _ _ _=>rfl⟩,fun _ _ h=>(by cases h),fun _ _ _ h=>(by cases h),fun _ _=>rfl,fun _ _ h=>(by cases h)⟩
 have hentry:=A54 (C:=⟨P,S,fun _=>False,w,fn.ntmps,fun _ _=>False,fun _=>False,none,fun _=>none,fun _=>False⟩) (ho:=fun _=>none) (nx:=0) (args:=args) (vs:=vs) hhh
  (fun x d h=>h.elim False.elim fun h=>WV.flat (.imm _ _ ((hglv x d h).mono fun b hb=>⟨⟨.inl hb,hS b hb,fun _ h=>(by cases h)⟩,rfl⟩)) (Au5 (hglv x d h))) (fun _ _ h=>(by cases h)) (fun _ h=>h.elim) hn hl
  (fun j v d hv hd=>WV.flat (.imm _ _ ((hrel j v d hv hd).mono fun b hb=>⟨⟨.inl hb,hS b hb,fun _ h=>(by cases h)⟩,rfl⟩)) (Au5 (hrel j v d hv hd)))
 refine wpIn_mono (h S w body hcc _ w ⟨fun _ h=>h.elim,_,hentry⟩) ?_
 have hfin:∀ (s:DS) (a:Act) (w':World),Holds ⟨P,S,fun _=>False,w,fn.ntmps,fun _ _=>False,fun _=>False,none,fun _=>none,fun _=>False⟩ s a w'→(∃ d,finD s r=some d∧R d)→LeavesInM Fence.wide 0 P fn a.tmps (fun e w'=>∃ v' d,e=.returned v'∧R d∧Below w.heap.size w w'∧RelI w' (fun b=>(S b∨w.heap.size≤b)∧b < w'.heap.size) v' d) a.defers .returning w':=by
  rintro s ⟨tmps,l⟩ w' ⟨_,β,hs⟩ ⟨d,hd,hR⟩
  unfold finD at hd
  split at hd
  ·rename_i d0 hd0
   refine A11 hcr hd0 tmps (fun v w'' hs hr=>?_) l w' hs
   have hbl:=hs.hh.bel
   exact ⟨v,d,rfl,hR,⟨hbl.os,hbl.tape,hbl.output,hbl.size,fun k hk=>hbl.block k hk (fun h=>h)⟩,(rz_ok hs.hh (fun id o ho=>Ad9 ho) 6 v d0 d hr hd).mono fun b hb=>⟨⟨hb.1.imp id (fun h=>h.resolve_right (fun h=>h)),hb.2⟩,rfl⟩⟩
  ·cases hd
 rintro e a w' ⟨s,⟨h1,h2⟩,hs⟩
 rcases h1 with rfl | rfl
 ·exact hfin s a w' hs h2
 ·exact hfin s a w' hs h2
theorem DCall.of_callI {P:Program} {f:FuncId} {args:List DV} {R:DV→Prop} {sv:Nat→DV} (h:callI P f args ⟨sv,fun _=>none,0⟩ fun s d=>∃ r,rz s.ho 6 d=some r∧R r):DCall P f args R:=by
 obtain ⟨fn,df,hf,hc,hn,hw⟩:=h
 refine DCall.intro hf hc hn fun S w0=>(hw S (fun _=>False) w0 (fun _ _=>False) (fun _=>False) (fun _=>none) (fun _=>False)).mono ?_
 rintro e s ⟨h1,d,h2,r,h3,h4⟩
 refine ⟨h1,r,?_,h4⟩
 unfold finD
 rw [h2]
 exact h3
end Go.DD

/- The evaluator's code and calls. -/
namespace Go.DD
theorem As0 {P:Program} {call:CallT} (hc:Ad3 P call) {n0 m:Nat} : ∀ (rs:List DR) (os:List OI) (i:Nat) (δ δ':DSt),i+rs.length≤m→rundE rs os i call n0 m δ=some δ'→δ.es.ds.Fr→n0+m≤δ.es.nx→
  δ.es.nx≤δ'.es.nx∧∀ id,δ.es.ds.ho id=none→δ'.es.ds.ho id≠none→n0≤id∧id < δ'.es.nx
 | [],os,i,δ,δ',hm,h,hfr,hn=>by
  have h3:some δ=some δ':=by cases os <;> exact h
  cases h3
  exact ⟨Nat.le_refl _,fun id h1 h2=>absurd h1 h2⟩
 | r :: rs,[],i,δ,δ',hm,h,hfr,hn=>by
  have h3:some δ=some δ':=h
  cases h3
  exact ⟨Nat.le_refl _,fun id h1 h2=>absurd h1 h2⟩
 | r :: rs,o :: os,i,δ,δ',hm,h,hfr,hn=>by
  have h':dq (dstpG i r o) (rundE rs os (i+1)) call n0 m δ=some δ':=h
  obtain ⟨δ1,h1,h2⟩:=optR h'
  obtain ⟨ρ0,hs⟩:=A65 hc hfr h1
  have him:i < m:=by simp at hm; omega
  obtain ⟨g1,g2⟩:=hs.gw him hn
  obtain ⟨g3,g4⟩:=As0 hc rs os (i+1) δ1 δ' (by simp at hm; omega) h2 (hs.fr him hn hfr) (by omega)
  refine ⟨by omega,fun id k1 k2=>?_⟩
  cases k3:δ1.es.ds.ho id with
  | none=>exact g4 id k3 k2
  | some x=>
   have:=g2 id k1 (by rw [k3]; simp)
   omega
theorem Cg1 {P:Program} {call:CallT} (hc:Ad3 P call) {rs:List DR} {os:List OI} {es es':ES} (h:regE rs.length (rundE rs os 0) call es=some es') (hfr:es.ds.Fr):Gw es.ds es'.ds:=by
 unfold regE at h
 obtain ⟨δ',h1,h2⟩:=optR h
 obtain ⟨h3,h4⟩:=Ac0 h2
 cases h4
 rw [cs_eq,Ab6] at h1
 obtain ⟨g1,g2⟩:=As0 hc rs os 0 _ _ (by omega) h1 (fun id hid=>hfr id (by
  have:es.nx+rs.length≤id:=hid
  show es.nx≤id; omega)) (Nat.le_refl _)
 exact ⟨by (have:es.nx+rs.length≤δ'.es.nx:=g1); show es.nx≤δ'.es.nx; omega,fun id k1 k2=>g2 id k1 k2⟩
theorem evv {s:DS} {x:Operand} {v:Value} (h:s.rv x=.v v):s.ev x=.v v:=by
 cases x with
 | tmp t=>
  have h':s.sv t=.v v:=h
  simp only [DS.ev]
  rw [h',if_pos]
  rfl
 | _=>exact h
theorem A24 {a b:CE} {call:CallT} {es es':ES} {e:Exit} (h:cS a b call es=some (e,es')):(∃ es1,a call es=some (.normal,es1)∧b call es1=some (e,es'))∨(a call es=some (e,es')∧e≠.normal):=by
 obtain ⟨⟨e1,es1⟩,h1,h2⟩:=optR h
 cases e1 with
 | normal=>exact .inl ⟨es1,h1,h2⟩
 | _=>
  cases h2
  exact .inr ⟨h1,by simp⟩
theorem A25 {s:Stp} {call:CallT} {es es':ES} {e:Exit} (h:cN s call es=some (e,es')):s call es=some es'∧e=.normal:=by
 obtain ⟨es1,h1,h2⟩:=optR h
 cases h2
 exact ⟨h1,rfl⟩
theorem Cg2 {x:Operand} {a b:CE} {call:CallT} {es es':ES} {e:Exit} (h:cC (.of x) a b call es=some (e,es')):∃ t,es.ds.ev x=.v (.bool t)∧(if t=true then a call es else b call es)=some (e,es'):=by
 unfold cC at h
 rw [Ab3] at h
 obtain ⟨v,hv,h⟩:=Ak3 h
 cases v with
 | bool t=>
  refine ⟨t,evv hv,?_⟩
  cases t <;> exact h
 | _=>cases h
theorem Cg3 {id:Nat} {c:CE} {call:CallT} {es es':ES} {e:Exit} (h:cB id c call es=some (e,es')):∃ e1,c call es=some (e1,es')∧∀ (Q:Exit→DS→Prop),Q e es'.ds→blkQ id Q e1 es'.ds:=by
 obtain ⟨⟨e1,es1⟩,h1,h2⟩:=optR h
 cases e1 with
 | exit i=>
  have h3:iteB (Nat.beq i id) (some (Exit.normal,es1)) (some (Exit.exit i,es1))=some (e,es'):=h2
  rw [Ab2] at h3
  split at h3
  ·rename_i hb
   cases h3
   exact ⟨_,h1,fun Q hQ=>by simp only [blkQ]; rw [if_pos (Nat.eq_of_beq_eq_true hb)]; exact hQ⟩
  ·rename_i hb
   cases h3
   refine ⟨_,h1,fun Q hQ=>?_⟩
   simp only [blkQ]
   rw [if_neg (fun e=>hb (by rw [e]; exact Nat.beq_refl id))]; exact hQ
 | _=>
  cases h2
  exact ⟨_,h1,fun Q hQ=>hQ⟩
def EvOK (P:Program) (nt:Nat) (rd:Bool) (c:DC) (es:ES) (e:Exit) (es':ES):Prop:=
 Gw es.ds es'.ds∧∀ (C:Ctx) (Q:Exit→DS→Prop),C.P=P→C.nt=nt→(rd=false→C.rd=none)→Q e es'.ds→DW C c Q es.ds
theorem Cg4 {P:Program} {call:CallT} {n nt:Nat} {rd:Bool} {c:DC} (ih:∀ es e es',evalE n nt rd c call es=some (e,es')→es.ds.Fr→EvOK P nt rd c es e es'):∀ (m:Nat) (es:ES) (e:Exit) (es':ES),cL m (evalE n nt rd c) call es=some (e,es')→es.ds.Fr→EvOK P nt rd (.loop c) es e es':=by
 have gw:∀ (m:Nat) (es:ES) (e:Exit) (es':ES),cL m (evalE n nt rd c) call es=some (e,es')→es.ds.Fr→Gw es.ds es'.ds:=by
  intro m
  induction m with
  | zero=>intro es e es' h _; cases h
  | succ m im=>
   intro es e es' h hfr
   have h':cS (evalE n nt rd c) (cL m (evalE n nt rd c)) call es=some (e,es'):=h
   rcases A24 h' with ⟨es1,h1,h2⟩ | ⟨h1,_⟩
   ·have g1:=(ih _ _ _ h1 hfr).1
    exact g1.trans (im es1 e es' h2 (Gw.fr hfr g1))
   ·exact (ih _ _ _ h1 hfr).1
 intro m es e es' h hfr
 refine ⟨gw m es e es' h hfr,fun C Q hP hnt hrd hQ=>?_⟩
 refine DW.loop (I:=fun k s=>∃ es1,s=es1.ds∧es1.ds.Fr∧cL k (evalE n nt rd c) call es1=some (e,es')) m ⟨es,rfl,hfr,h⟩ ?_
 rintro k s ⟨es1,rfl,hfr1,h1⟩
 cases k with
 | zero=>cases h1
 | succ k=>
  have h':cS (evalE n nt rd c) (cL k (evalE n nt rd c)) call es1=some (e,es'):=h1
  rcases A24 h' with ⟨es2,h2,h3⟩ | ⟨h2,hne⟩
  ·obtain ⟨g1,g2⟩:=ih _ _ _ h2 hfr1
   exact g2 C _ hP hnt hrd ⟨k,Nat.lt_succ_self k,es2,rfl,Gw.fr hfr1 g1,h3⟩
  ·obtain ⟨g1,g2⟩:=ih _ _ _ h2 hfr1
   refine g2 C _ hP hnt hrd ?_
   cases e <;> first | exact hQ | exact absurd rfl hne
theorem At4 {P:Program} {call:CallT} (hc:Ad3 P call) (hm:P.follows .mixedOrders=true) {n nt:Nat} {rd:Bool} : ∀ (c:DC) (es:ES) (e:Exit) (es':ES),evalE n nt rd c call es=some (e,es')→es.ds.Fr→EvOK P nt rd c es e es':=by
 intro c
 induction c with
 | skip=>
  intro es e es' h hfr
  have h':some (Exit.normal,es)=some (e,es'):=h
  cases h'
  exact ⟨Gw.refl _,fun C Q _ _ _ hQ=>DW.skip hQ⟩
 | ret=>
  intro es e es' h hfr
  have h':some (Exit.ret,es)=some (e,es'):=h
  cases h'
  exact ⟨Gw.refl _,fun C Q _ _ _ hQ=>DW.ret hQ⟩
 | exit id=>
  intro es e es' h hfr
  have h':some (Exit.exit id,es)=some (e,es'):=h
  cases h'
  exact ⟨Gw.refl _,fun C Q _ _ _ hQ=>DW.exit hQ⟩
 | seq a b iha ihb=>
  intro es e es' h hfr
  have h':cS (evalE n nt rd a) (evalE n nt rd b) call es=some (e,es'):=h
  rcases A24 h' with ⟨es1,h1,h2⟩ | ⟨h1,hne⟩
  ·obtain ⟨g1,k1⟩:=iha _ _ _ h1 hfr
   obtain ⟨g2,k2⟩:=ihb _ _ _ h2 (Gw.fr hfr g1)
   exact ⟨g1.trans g2,fun C Q hP hnt hrd hQ=>DW.seq (k1 C _ hP hnt hrd (k2 C Q hP hnt hrd hQ))⟩
  ·obtain ⟨g1,k1⟩:=iha _ _ _ h1 hfr
   refine ⟨g1,fun C Q hP hnt hrd hQ=>DW.seq (k1 C _ hP hnt hrd ?_)⟩
   cases e <;> first | exact hQ | exact absurd rfl hne
 | cond x a b iha ihb=>
  intro es e es' h hfr
  have h':cC (.of x) (evalE n nt rd a) (evalE n nt rd b) call es=some (e,es'):=h
  obtain ⟨t,ht,h2⟩:=Cg2 h'
  cases t with
  | true=>
   rw [if_pos rfl] at h2
   obtain ⟨g1,k1⟩:=iha _ _ _ h2 hfr
   exact ⟨g1,fun C Q hP hnt hrd hQ=>DW.cond ht (fun _=>k1 C Q hP hnt hrd hQ) (fun h=>by cases h)⟩
  | false=>
   rw [if_neg (by simp)] at h2
   obtain ⟨g1,k1⟩:=ihb _ _ _ h2 hfr
   exact ⟨g1,fun C Q hP hnt hrd hQ=>DW.cond ht (fun h=>by cases h) (fun _=>k1 C Q hP hnt hrd hQ)⟩
 | blk id c ih=>
  intro es e es' h hfr
  have h':cB id (evalE n nt rd c) call es=some (e,es'):=h
  obtain ⟨e1,h1,h2⟩:=Cg3 h'
  obtain ⟨g1,k1⟩:=ih _ _ _ h1 hfr
  exact ⟨g1,fun C Q hP hnt hrd hQ=>DW.blk (k1 C _ hP hnt hrd (h2 Q hQ))⟩
 | loop c ih=>
  intro es e es' h hfr
  exact Cg4 ih n es e es' h hfr
 | reg draw ops info=>
  intro es e es' h hfr
  cases draw with
  | false=>
   have h':cN (runE ops) call es=some (e,es'):=h
   obtain ⟨h1,rfl⟩:=A25 h'
   obtain ⟨g1,k1⟩:=Bp5 hc ops es es' h1 hfr
   exact ⟨g1,fun C Q hP hnt hrd hQ=>DW.reg (by rw [hP]; exact k1 _ hQ)⟩
  | true=>
   cases hok:info.ok with
   | false=>
    have h':(match info.ok with
     | true=>cN (regE ops.length (rundE ops info.l 0))
     | false=>fun _ _=>none:CE) call es=some (e,es'):=h
    rw [hok] at h'
    cases h'
   | true=>
    have h':(match info.ok with
     | true=>cN (regE ops.length (rundE ops info.l 0))
     | false=>fun _ _=>none:CE) call es=some (e,es'):=h
    rw [hok] at h'
    have h'':cN (regE ops.length (rundE ops info.l 0)) call es=some (e,es'):=h'
    obtain ⟨h1,rfl⟩:=A25 h''
    refine ⟨Cg1 hc h1 hfr,fun C Q hP hnt hrd hQ=>?_⟩
    intro code hcode
    obtain ⟨id,os,hcd,hl,hi⟩:=Au0 hcode
    have hi':=hi rfl
    subst hi'
    subst hP
    exact (Cg0 hc hm hok h1 hfr).2 _ Q hQ code hcode
 | rng g ps a b iha ihb=>
  intro es e es' h hfr
  have h':cR nt rd (.of g) ps a b call es=some (e,es'):=h
  unfold cR at h'
  split at h'
  ·cases h'
  rename_i hrdn
  rw [Al5] at h'
  split at h'
  rotate_left
  ·cases h'
  rename_i f cs hfn
  split at h'
  rotate_left
  ·cases h'
  rename_i d hp nx hcall
  obtain ⟨n1,n2,hcb,hcI⟩:=hc _ _ _ _ _ _ _ hcall (fun id hid=>by
   rw [Tr.set_ho]
   simp only [setH]
   rw [if_neg (by omega)]
   exact hfr id (by show es.nx≤id; omega))
  rw [Tr.set_ho] at n2 hcI
  have gw:∀ es2:ES,es2.hp=hp.set es.nx none→es2.nx=nx→Gw es.ds es2.ds:=fun es2 e1 e2=>by
   refine ⟨by show es.nx≤es2.nx; omega,fun id k1 k2=>?_⟩
   have k2':es2.hp.get id≠none:=k2
   rw [e1,Tr.set_ho] at k2'
   simp only [setH] at k2'
   split at k2'
   ·exact absurd rfl k2'
   ·rename_i hne
    have:=n2 id (by simp only [setH]; rw [if_neg hne]; exact k1) k2'
    show es.nx≤id∧id < es2.nx
    omega
  have dw:∀ (C:Ctx) (Q:Exit→DS→Prop),C.P=P→C.nt=nt→(rd=false→C.rd=none)→(∃ lp,hp.get es.nx=some (.loop lp)∧lp.st≠.busy∧match lp.pend with
   | none=>Q .normal ⟨es.ds.sv,setH hp.get es.nx none,nx⟩
   | some .ret=>Q .ret ⟨es.ds.sv,setH hp.get es.nx none,nx⟩
   | some (.exit i)=>Q (.exit i) ⟨es.ds.sv,setH hp.get es.nx none,nx⟩
   | _=>False)→DW C (.rng g ps a b) Q es.ds:=fun C Q hP hnt hrd hQ=>by
   subst hP hnt
   exact DW.rng (sl:=.t es.sl) rfl (hrd (by simpa using hrdn)) hfn hcb (callC.i (ds:=.yl es.nx :: cs) ⟨.yl es.nx,List.mem_cons_self,by simp [DV.refs]⟩ (hcI es.ds.sv _ hQ))
  split at h'
  rotate_left
  ·cases h'
  rename_i lp hlp
  have hst:lp.st≠.busy:=fun hb=>by
   rw [hb] at h'
   cases h'
  have hmatch:(match lp.pend with
     | none=>some (Exit.normal,⟨es.sl,hp.set es.nx none,nx⟩)
     | some .ret=>some (Exit.ret,⟨es.sl,hp.set es.nx none,nx⟩)
     | some (.exit i)=>some (Exit.exit i,⟨es.sl,hp.set es.nx none,nx⟩)
     | _=>none)=some (e,es'):=by
   revert h'
   split
   ·rename_i hb; exact absurd hb hst
   ·exact id
  have hfin:∀ es2:ES,es2=⟨es.sl,hp.set es.nx none,nx⟩→es2.ds=⟨es.ds.sv,setH hp.get es.nx none,nx⟩:=fun es2 he=>by
   subst he
   rw [ds_eq,Tr.set_ho]; rfl
  cases hpe:lp.pend with
  | none=>
   rw [hpe] at hmatch
   cases hmatch
   refine ⟨gw _ rfl rfl,fun C Q hP hnt hrd hQ=>dw C Q hP hnt hrd ⟨lp,hlp,hst,?_⟩⟩
   rw [hpe]
   rw [hfin _ rfl] at hQ
   exact hQ
  | some p=>
   rw [hpe] at hmatch
   cases p with
   | ret=>
    cases hmatch
    refine ⟨gw _ rfl rfl,fun C Q hP hnt hrd hQ=>dw C Q hP hnt hrd ⟨lp,hlp,hst,?_⟩⟩
    rw [hpe]
    rw [hfin _ rfl] at hQ
    exact hQ
   | exit i=>
    cases hmatch
    refine ⟨gw _ rfl rfl,fun C Q hP hnt hrd hQ=>dw C Q hP hnt hrd ⟨lp,hlp,hst,?_⟩⟩
    rw [hpe]
    rw [hfin _ rfl] at hQ
    exact hQ
   | _=>cases hmatch
 | dfq t g cap=>
  intro es e es' h hfr
  cases rd with
  | true=>cases h
  | false=>
   have h':cN (stepE (some (pth t)) (.mkf (.func g) [] cap)) call es=some (e,es'):=h
   obtain ⟨h1,rfl⟩:=A25 h'
   have hex:Exd es.ds (.mkf (.func g) [] cap) (some t) es'.ds:=A21 (dst:=some t) (fun _ _ e=>by cases e) (fun _ _ _ e=>by cases e) (fun _ _ e=>by cases e) h1
   refine ⟨hex.gw hfr,fun C Q hP hnt hrd hQ=>DW.dfq (hrd rfl) ?_⟩
   obtain ⟨d,u,h2,h3⟩:=hex
   have h4:some (DV.fn (.func g) (.tup [] :: cap.map es.ds.ev),Upd.keep)=some (d,u):=h2
   cases h4
   rw [h3] at hQ
   exact hQ
 | bad=>
  intro es e es' h hfr
  cases h
end Go.DD

/- Functions that range over maps: all orders are run; what they leave alike is kept. -/
namespace Go.DD
theorem Imp.weak {s s':DS} (hsv:∀ t,s'.sv t=s.sv t∨s'.sv t=.any) (hho:∀ id,s'.ho id=s.ho id∨s'.ho id=none) (hnx:s.nx≤s'.nx):Imp s s':=by
 intro C a w ⟨hR,β,hs⟩
 refine ⟨fun id h=>Nat.lt_of_lt_of_le (hR id h) hnx,β,?_⟩
 have h:=hs.hh.less (U':=Us C s'.nx) (β':=β) (V':=s'.vw C) (fun id h=>⟨Nat.lt_of_lt_of_le h.1 hnx,h.2⟩) (fun _=>.inl rfl) (fun id=>by
  unfold DS.vw vwF
  rcases hho id with e | e
  ·rw [e]; exact .inl rfl
  ·rw [e]
   cases hq:s.ho id with
   | none=>exact .inl rfl
   | some o=>
    refine .inr ?_
    cases hy:C.Y id with
    | none=>rfl
    | some o'=>rw [hs.yd id o' hy] at hq; cases hq)
 refine ⟨h.1,h.2.2.mark hs.df,hs.sz,fun t=>?_,fun x d hx=>h.2.1 _ _ (hs.gh x d hx),fun id o hy=>?_⟩
 ·rcases hsv t with e | e
  ·rw [e]; exact h.2.1 _ _ (hs.sl t)
  ·rw [e]; exact WV.any
 ·rcases hho id with e | e
  ·rw [e]; exact hs.yd id o hy
  ·exact e
def meetV (a b:Option DObj):Option DObj:=match a,b with
 | some x,some y=>if sameO x y then some x else none
 | _,_=>none
def meetS (a b:Option DV):Option DV:=match a,b with
 | some x,some y=>if Ab5 6 x y then some x else none
 | _,_=>none
def meetT {α:Type} (f:Option α→Option α→Option α):Tr α→Tr α→Tr α
 | .n l v r,.n l' v' r'=>.n (meetT f l l') (f v v') (meetT f r r')
 | _,_=>.e
theorem Aj4 {α:Type} {f:Option α→Option α→Option α} (hf:f none none=none):∀ (a b:Tr α) (k:Nat),(meetT f a b).get k=f (a.get k) (b.get k)∨(meetT f a b).get k=none
 | .n l v r,.n l' v' r',0=>.inl rfl
 | .n l v r,.n l' v' r',k+1=>by
  simp only [meetT,Tr.get]
  split
  ·exact Aj4 hf l l' _
  ·exact Aj4 hf r r' _
 | .e,_,_=>.inr rfl
 | .n _ _ _,.e,_=>.inr rfl
theorem Bf6 (a b:Option DObj):(meetV a b=a∧meetV a b=b)∨meetV a b=none:=by
 unfold meetV
 split
 ·split
  ·rename_i h; rw [Bf2 h]; exact .inl ⟨rfl,rfl⟩
  ·exact .inr rfl
 ·exact .inr rfl
theorem Bf7 (a b:Option DV):(meetS a b=a∧meetS a b=b)∨meetS a b=none:=by
 unfold meetS
 split
 ·split
  ·rename_i h; rw [Ah6 _ _ _ h]; exact .inl ⟨rfl,rfl⟩
  ·exact .inr rfl
 ·exact .inr rfl
def meetE (a b:ES):ES:=⟨meetT meetS a.sl b.sl,meetT meetV a.hp b.hp,max a.nx b.nx⟩
structure Less (s s':DS):Prop where
 sv:∀ t,s'.sv t=s.sv t∨s'.sv t=.any
 ho:∀ id,s'.ho id=s.ho id∨s'.ho id=none
 nx:s.nx≤s'.nx
theorem Less.refl (s:DS):Less s s:=⟨fun _=>.inl rfl,fun _=>.inl rfl,Nat.le_refl _⟩
theorem Less.trans {a b c:DS} (h:Less a b) (h':Less b c):Less a c:=by
 refine ⟨fun t=>?_,fun id=>?_,Nat.le_trans h.nx h'.nx⟩
 ·rcases h'.sv t with e | e
  ·rw [e]; exact h.sv t
  ·exact .inr e
 ·rcases h'.ho id with e | e
  ·rw [e]; exact h.ho id
  ·exact .inr e
theorem Cg5 (a b:ES):Less a.ds (meetE a b).ds:=by
 refine ⟨fun t=>?_,fun id=>?_,Nat.le_max_left _ _⟩
 ·show ((meetT meetS a.sl b.sl).get t).getD .any=(a.sl.get t).getD .any∨((meetT meetS a.sl b.sl).get t).getD .any=.any
  rcases Aj4 (f:=meetS) rfl a.sl b.sl t with h | h
  ·rcases Bf7 (a.sl.get t) (b.sl.get t) with h2 | h2
   ·rw [h,h2.1]; exact .inl rfl
   ·rw [h,h2]; exact .inr rfl
  ·rw [h]; exact .inr rfl
 ·show (meetT meetV a.hp b.hp).get id=a.hp.get id∨_
  rcases Aj4 (f:=meetV) rfl a.hp b.hp id with h | h
  ·rcases Bf6 (a.hp.get id) (b.hp.get id) with h2 | h2
   ·rw [h]; exact .inl h2.1
   ·exact .inr (by show (meetT meetV a.hp b.hp).get id=none; rw [h,h2])
  ·exact .inr h
theorem Cg6 (a b:ES):Less b.ds (meetE a b).ds:=by
 refine ⟨fun t=>?_,fun id=>?_,Nat.le_max_right _ _⟩
 ·show ((meetT meetS a.sl b.sl).get t).getD .any=(b.sl.get t).getD .any∨((meetT meetS a.sl b.sl).get t).getD .any=.any
  rcases Aj4 (f:=meetS) rfl a.sl b.sl t with h | h
  ·rcases Bf7 (a.sl.get t) (b.sl.get t) with h2 | h2
   ·rw [h,h2.2]; exact .inl rfl
   ·rw [h,h2]; exact .inr rfl
  ·rw [h]; exact .inr rfl
 ·show (meetT meetV a.hp b.hp).get id=b.hp.get id∨_
  rcases Aj4 (f:=meetV) rfl a.hp b.hp id with h | h
  ·rcases Bf6 (a.hp.get id) (b.hp.get id) with h2 | h2
   ·rw [h]; exact .inl h2.2
   ·exact .inr (by show (meetT meetV a.hp b.hp).get id=none; rw [h,h2])
  ·exact .inr h
def bindL {α β:Type} (f:α→Option (List β)):List α→Option (List β)
 | []=>some []
 | a :: r=>match f a with
  | some b=>match bindL f r with
   | some c=>some (b ++ c)
   | none=>none
  | none=>none
theorem An3 {α β:Type} {f:α→Option (List β)} : ∀ {l:List α} {m:List β},bindL f l=some m→∀ a∈l,∃ b,f a=some b∧∀ x∈b,x∈m
 | [],_,_,a,ha=>by cases ha
 | a :: r,m,h,a',ha=>by
  unfold bindL at h
  split at h
  rotate_left
  ·cases h
  rename_i b hb
  split at h
  rotate_left
  ·cases h
  rename_i c hc
  cases h
  rcases List.mem_cons.1 ha with rfl | ha
  ·exact ⟨b,hb,fun x hx=>List.mem_append.2 (.inl hx)⟩
  ·obtain ⟨b',h1,h2⟩:=An3 hc a' ha
   exact ⟨b',h1,fun x hx=>List.mem_append.2 (.inr (h2 x hx))⟩
noncomputable def runN:List DR→CallT→ES→Option (List ES)
 | [],_,es=>some [es]
 | r :: rest,call,es=>match r.op,r.g with
  | .nxm k x,none=>match nxmL es.ds k x with
   | some l=>bindL (fun p=>runN rest call ((ES.mk es.sl (updE es.hp es.nx p.2) es.nx).putE (pthO r.dst) p.1)) l
   | none=>none
  | _,_=>match stpR r call es with
   | some es'=>runN rest call es'
   | none=>none
noncomputable def loopN (f:ES→Option (List (Exit×ES))):Nat→ES→Option (List (Exit×ES))
 | 0,_=>none
 | n+1,es=>match f es with
  | some l=>bindL (fun p=>match p.1 with
   | .normal=>loopN f n p.2
   | e=>some [(e,p.2)]) l
  | none=>none
noncomputable def codeN (n nt:Nat):DC→CallT→ES→Option (List (Exit×ES))
 | .skip,_,es=>some [(.normal,es)]
 | .ret,_,es=>some [(.ret,es)]
 | .exit id,_,es=>some [(.exit id,es)]
 | .seq a b,call,es=>match codeN n nt a call es with
  | some l=>bindL (fun p=>match p.1 with
   | .normal=>codeN n nt b call p.2
   | e=>some [(e,p.2)]) l
  | none=>none
 | .cond x a b,call,es=>match rawE es (.of x) with
  | .v (.bool t)=>if t then codeN n nt a call es else codeN n nt b call es
  | _=>none
 | .blk id c,call,es=>match codeN n nt c call es with
  | some l=>some (l.map fun p=>match p.1 with
   | .exit i=>if i=id then (.normal,p.2) else (.exit i,p.2)
   | e=>(e,p.2))
  | none=>none
 | .loop c,call,es=>loopN (codeN n nt c call) n es
 | .reg false ops _,call,es=>match runN ops call es with
  | some l=>some (l.map fun e=>(.normal,e))
  | none=>none
 | d,call,es=>match evalE n nt false d call es with
  | some p=>some [p]
  | none=>none
def EvL (P:Program) (nt:Nat) (c:DC) (es:ES) (l:List (Exit×ES)):Prop:=
 (∀ p∈l,Gw es.ds p.2.ds)∧∀ (C:Ctx) (Q:Exit→DS→Prop),C.P=P→C.nt=nt→C.rd=none→(∀ p∈l,Q p.1 p.2.ds)→DW C c Q es.ds
theorem A26 {P:Program} {call:CallT} (hc:Ad3 P call):∀ (ops:List DR) (es:ES) (l:List ES),runN ops call es=some l→es.ds.Fr→(∀ e∈l,Gw es.ds e.ds)∧∀ K:DS→Prop,(∀ e∈l,K e.ds)→Aj3 P ops es.ds K
 | [],es,l,h,_=>by
  have h3:some [es]=some l:=h
  cases h3
  exact ⟨fun e he=>by rw [List.mem_singleton] at he; subst he; exact Gw.refl _,fun K hK=>hK es (by simp)⟩
 | r :: rest,es,l,h,hfr=>by
  unfold runN at h
  split at h
  ·rename_i k x ho hg
   split at h
   rotate_left
   ·cases h
   rename_i lo hlo
   have hstep:∀ p∈lo,((ES.mk es.sl (updE es.hp es.nx p.2) es.nx).putE (pthO r.dst) p.1).ds=(es.ds.upd es.ds.nx p.2).put r.dst p.1:=fun p _=>by
    have e:(ES.mk es.sl (updE es.hp es.nx p.2) es.nx).ds=es.ds.upd es.ds.nx p.2:=by
     simp only [ES.ds,A19]; rfl
    rw [Ag3,e]
   have hgw:∀ p∈lo,Gw es.ds ((ES.mk es.sl (updE es.hp es.nx p.2) es.nx).putE (pthO r.dst) p.1).ds:=fun p hp=>by
    rw [hstep p hp]
    exact (Bp3 (A20 hlo p hp).1 (A20 hlo p hp).2 _).trans (Gw.put _ _ _)
   refine ⟨fun e he=>?_,fun K hK=>?_⟩
   ·have key:∀ {lo':List (DV×Upd)} {l':List ES},(∀ p∈lo',p∈lo)→bindL (fun p=>runN rest call ((ES.mk es.sl (updE es.hp es.nx p.2) es.nx).putE (pthO r.dst) p.1)) lo'=some l'→∀ e∈l',Gw es.ds e.ds:=by
     intro lo'
     induction lo' with
     | nil=>intro l' _ h e he; cases h; cases he
     | cons p lo' ih=>
      intro l' hsub h e he
      unfold bindL at h
      split at h
      rotate_left
      ·cases h
      rename_i b hb
      split at h
      rotate_left
      ·cases h
      rename_i c hcc
      cases h
      rcases List.mem_append.1 he with he | he
      ·have hp:=hsub p (by simp)
       exact (hgw p hp).trans ((A26 hc rest _ b hb (Gw.fr hfr (hgw p hp))).1 e he)
      ·exact ih (fun q hq=>hsub q (by simp [hq])) hcc e he
    exact key (fun p hp=>hp) h e he
   ·simp only [Aj3,hg,DS.wanted]
    unfold stepR
    rw [ho]
    simp only [hlo]
    intro p hp
    obtain ⟨b,h1,h2⟩:=An3 h p hp
    rw [← hstep p hp]
    exact (A26 hc rest _ b h1 (Gw.fr hfr (hgw p hp))).2 K fun e he=>hK e (h2 e he)
  ·split at h
   rotate_left
   ·cases h
   rename_i es1 h1
   obtain ⟨g1,k1⟩:=Bp4 hc h1 hfr
   obtain ⟨g2,k2⟩:=A26 hc rest es1 l h (Gw.fr hfr g1)
   exact ⟨fun e he=>g1.trans (g2 e he),fun K hK=>k1 (k2 K hK)⟩
theorem A27 {α:Type} {s:DS} {g:α→DS} {f:α→Option (List (Exit×ES))} (hg:∀ a b,f a=some b→Gw s (g a)→∀ p∈b,Gw s p.2.ds):∀ {l:List α} {m:List (Exit×ES)},(∀ a∈l,Gw s (g a))→bindL f l=some m→∀ p∈m,Gw s p.2.ds
 | [],m,_,h,p,hp=>by cases h; cases hp
 | a :: r,m,hl,h,p,hp=>by
  unfold bindL at h
  split at h
  rotate_left
  ·cases h
  rename_i b hb
  split at h
  rotate_left
  ·cases h
  rename_i c hcc
  cases h
  rcases List.mem_append.1 hp with hp | hp
  ·exact hg a b hb (hl a (by simp)) p hp
  ·exact A27 hg (fun x hx=>hl x (by simp [hx])) hcc p hp
theorem B12 {P:Program} {call:CallT} (hc:Ad3 P call) (hm:P.follows .mixedOrders=true) {n nt:Nat} : ∀ (c:DC) (es:ES) (l:List (Exit×ES)),codeN n nt c call es=some l→es.ds.Fr→EvL P nt c es l:=by
 intro c
 have one:∀ (d:DC) (es:ES) (l:List (Exit×ES)),(match evalE n nt false d call es with
  | some p=>some [p]
  | none=>none)=some l→es.ds.Fr→EvL P nt d es l:=by
  intro d es l h hfr
  split at h
  rotate_left
  ·cases h
  rename_i p hp
  cases h
  obtain ⟨e,es'⟩:=p
  obtain ⟨g,k⟩:=At4 hc hm d es e es' hp hfr
  exact ⟨fun q hq=>by rw [List.mem_singleton] at hq; subst hq; exact g,fun C Q hP hnt hrd hQ=>k C Q hP hnt (fun _=>hrd) (hQ (e,es') (by simp))⟩
 induction c with
 | skip=>
  intro es l h hfr
  have h':some [(Exit.normal,es)]=some l:=h
  cases h'
  exact ⟨fun q hq=>by rw [List.mem_singleton] at hq; subst hq; exact Gw.refl _,fun C Q _ _ _ hQ=>DW.skip (hQ (.normal,es) (by simp))⟩
 | ret=>
  intro es l h hfr
  have h':some [(Exit.ret,es)]=some l:=h
  cases h'
  exact ⟨fun q hq=>by rw [List.mem_singleton] at hq; subst hq; exact Gw.refl _,fun C Q _ _ _ hQ=>DW.ret (hQ (.ret,es) (by simp))⟩
 | exit id=>
  intro es l h hfr
  have h':some [(Exit.exit id,es)]=some l:=h
  cases h'
  exact ⟨fun q hq=>by rw [List.mem_singleton] at hq; subst hq; exact Gw.refl _,fun C Q _ _ _ hQ=>DW.exit (hQ (.exit id,es) (by simp))⟩
 | seq a b iha ihb=>
  intro es l h hfr
  unfold codeN at h
  split at h
  rotate_left
  ·cases h
  rename_i la hla
  obtain ⟨ga,ka⟩:=iha es la hla hfr
  refine ⟨?_,fun C Q hP hnt hrd hQ=>DW.seq (ka C _ hP hnt hrd fun p hp=>?_)⟩
  ·refine A27 (g:=fun p:Exit×ES=>p.2.ds) (fun p b hb hgp q hq=>?_) ga h
   split at hb
   ·exact hgp.trans ((ihb p.2 b hb (Gw.fr hfr hgp)).1 q hq)
   ·cases hb; rw [List.mem_singleton] at hq; subst hq; exact hgp
  ·obtain ⟨m,h1,h2⟩:=An3 h p hp
   obtain ⟨e,es1⟩:=p
   cases e with
   | normal=>exact (ihb es1 m h1 (Gw.fr hfr (ga _ hp))).2 C Q hP hnt hrd fun q hq=>hQ q (h2 q hq)
   | _=>cases h1; exact hQ _ (h2 _ (by simp))
 | cond x a b iha ihb=>
  intro es l h hfr
  unfold codeN at h
  split at h
  rotate_left
  ·cases h
  rename_i t ht
  rw [Ab3] at ht
  have ht':=evv ht
  split at h
  ·rename_i htt
   obtain ⟨g,k⟩:=iha es l h hfr
   exact ⟨g,fun C Q hP hnt hrd hQ=>DW.cond ht' (fun _=>k C Q hP hnt hrd hQ) (fun h=>by rw [htt] at h; cases h)⟩
  ·rename_i htt
   obtain ⟨g,k⟩:=ihb es l h hfr
   exact ⟨g,fun C Q hP hnt hrd hQ=>DW.cond ht' (fun h=>absurd h htt) (fun _=>k C Q hP hnt hrd hQ)⟩
 | blk id c ih=>
  intro es l h hfr
  unfold codeN at h
  split at h
  rotate_left
  ·cases h
  rename_i lc hlc
  cases h
  obtain ⟨g,k⟩:=ih es lc hlc hfr
  refine ⟨fun p hp=>?_,fun C Q hP hnt hrd hQ=>DW.blk (k C _ hP hnt hrd fun p hp=>?_)⟩
  ·obtain ⟨q,hq,rfl⟩:=List.mem_map.1 hp
   obtain ⟨e,es1⟩:=q
   have:=g _ hq
   cases e <;> first | exact this | (simp only; split <;> exact this)
  ·have:=hQ _ (List.mem_map.2 ⟨p,hp,rfl⟩)
   obtain ⟨e,es1⟩:=p
   cases e with
   | exit i=>
    simp only [blkQ] at this ⊢
    split
    ·rename_i hi; rw [if_pos hi] at this; exact this
    ·rename_i hi; rw [if_neg hi] at this; exact this
   | _=>exact this
 | loop c ih=>
  intro es l h hfr
  have h':loopN (codeN n nt c call) n es=some l:=h
  have gw:∀ (m:Nat) (es:ES) (l:List (Exit×ES)),loopN (codeN n nt c call) m es=some l→es.ds.Fr→∀ p∈l,Gw es.ds p.2.ds:=by
   intro m
   induction m with
   | zero=>intro es l h _; cases h
   | succ m im=>
    intro es l h hfr
    unfold loopN at h
    split at h
    rotate_left
    ·cases h
    rename_i lc hlc
    obtain ⟨g,_⟩:=ih es lc hlc hfr
    refine A27 (g:=fun p:Exit×ES=>p.2.ds) (fun p b hb hgp q hq=>?_) g h
    split at hb
    ·exact hgp.trans (im p.2 b hb (Gw.fr hfr hgp) q hq)
    ·cases hb; rw [List.mem_singleton] at hq; subst hq; exact hgp
  refine ⟨gw n es l h' hfr,fun C Q hP hnt hrd hQ=>?_⟩
  refine DW.loop (I:=fun k s=>∃ es1 l1,s=es1.ds∧es1.ds.Fr∧loopN (codeN n nt c call) k es1=some l1∧∀ p∈l1,Q p.1 p.2.ds) n ⟨es,l,rfl,hfr,h',hQ⟩ ?_
  rintro k s ⟨es1,l1,rfl,hfr1,h1,hQ1⟩
  cases k with
  | zero=>cases h1
  | succ k=>
   unfold loopN at h1
   split at h1
   rotate_left
   ·cases h1
   rename_i lc hlc
   obtain ⟨g,kk⟩:=ih es1 lc hlc hfr1
   refine kk C _ hP hnt hrd fun p hp=>?_
   obtain ⟨m,h2,h3⟩:=An3 h1 p hp
   obtain ⟨e,es2⟩:=p
   cases e with
   | normal=>exact ⟨k,Nat.lt_succ_self k,es2,m,rfl,Gw.fr hfr1 (g _ hp),h2,fun q hq=>hQ1 q (h3 q hq)⟩
   | _=>cases h2; exact hQ1 _ (h3 _ (by simp))
 | reg draw ops info=>
  intro es l h hfr
  cases draw with
  | false=>
   unfold codeN at h
   split at h
   rotate_left
   ·cases h
   rename_i lc hlc
   cases h
   obtain ⟨g,k⟩:=A26 hc ops es lc hlc hfr
   refine ⟨fun p hp=>?_,fun C Q hP hnt hrd hQ=>DW.reg (by rw [hP]; exact k _ fun e he=>hQ _ (List.mem_map.2 ⟨e,he,rfl⟩))⟩
   obtain ⟨e,he,rfl⟩:=List.mem_map.1 hp
   exact g e he
  | true=>exact one _ es l h hfr
 | rng g ps a b _ _=>intro es l h hfr; exact one _ es l h hfr
 | dfq t g cap=>intro es l h hfr; exact one _ es l h hfr
 | bad=>intro es l h hfr; exact one _ es l h hfr
def meetL:List (Exit×ES)→Option ES
 | []=>none
 | [p]=>match p.1 with
  | .normal=>some p.2
  | .ret=>some p.2
  | _=>none
 | p :: r=>match p.1,meetL r with
  | .normal,some es=>some (meetE p.2 es)
  | .ret,some es=>some (meetE p.2 es)
  | _,_=>none
theorem Bf8:∀ {l:List (Exit×ES)} {es:ES},meetL l=some es→∀ p∈l,(p.1=.normal∨p.1=.ret)∧Less p.2.ds es.ds
 | [p],es,h,q,hq=>by
  rw [List.mem_singleton] at hq
  subst hq
  obtain ⟨e,es1⟩:=q
  cases e <;> simp only [meetL] at h <;> first | (cases h; done) | skip
  ·cases h; exact ⟨.inl rfl,Less.refl _⟩
  ·cases h; exact ⟨.inr rfl,Less.refl _⟩
 | p :: p' :: r,es,h,q,hq=>by
  obtain ⟨e,es1⟩:=p
  cases hm:meetL (p' :: r) with
  | none=>cases e <;> simp [meetL,hm] at h
  | some es2=>
   have hee:(e=.normal∨e=.ret)∧es=meetE es1 es2:=by
    cases e <;> simp only [meetL,hm] at h <;> first | (cases h; done) | (cases h; first | exact ⟨.inl rfl,rfl⟩ | exact ⟨.inr rfl,rfl⟩)
   obtain ⟨h1,rfl⟩:=hee
   rcases List.mem_cons.1 hq with rfl | hq
   ·exact ⟨h1,Cg5 _ _⟩
   ·have:=Bf8 hm q hq
    exact ⟨this.1,this.2.trans (Cg6 _ _)⟩
def DC.hasN:DC→Bool
 | .seq a b=>a.hasN || b.hasN
 | .cond _ a b=>a.hasN || b.hasN
 | .blk _ c=>c.hasN
 | .loop c=>c.hasN
 | .reg false ops _=>ops.any fun r=>match r.op with
  | .nxm _ _=>true
  | _=>false
 | _=>false
noncomputable def cM (n nt:Nat) (c:DC):CE:=fun call es=>match codeN n nt c call es with
 | some l=>match meetL l with
  | some es'=>some (.ret,es')
  | none=>none
 | none=>none
noncomputable def runF (n nt:Nat) (c:DC):CE:=Bool.rec (motive:=fun _=>CE) (evalE n nt false c) (cM n nt c) c.hasN
theorem Cg7 {P:Program} {call:CallT} (hc:Ad3 P call) (hm:P.follows .mixedOrders=true) {n nt:Nat} {c:DC} {es es':ES} {e:Exit} (h:runF n nt c call es=some (e,es')) (hfr:es.ds.Fr) :
  Gw es.ds es'.ds∧∀ (C:Ctx) (Q:Exit→DS→Prop),C.P=P→C.nt=nt→C.rd=none→(∀ e',e'=e∨e'=.normal∨e'=.ret→Q e' es'.ds)→DW C c Q es.ds:=by
 unfold runF at h
 cases hh:c.hasN with
 | false=>
  rw [hh] at h
  obtain ⟨g,k⟩:=At4 hc hm c es e es' h hfr
  exact ⟨g,fun C Q hP hnt hrd hQ=>k C Q hP hnt (fun _=>hrd) (hQ e (.inl rfl))⟩
 | true=>
  rw [hh] at h
  have h':cM n nt c call es=some (e,es'):=h
  unfold cM at h'
  split at h'
  rotate_left
  ·cases h'
  rename_i l hl
  split at h'
  rotate_left
  ·cases h'
  rename_i es2 hes2
  cases h'
  obtain ⟨g,k⟩:=B12 hc hm c es l hl hfr
  have hml:=Bf8 hes2
  have hne:∃ p,p∈l:=by
   cases l with
   | nil=>cases hes2
   | cons p r=>exact ⟨p,by simp⟩
  obtain ⟨p0,hp0⟩:=hne
  refine ⟨⟨Nat.le_trans (g p0 hp0).le (hml p0 hp0).2.nx,fun id h1 h2=>?_⟩,fun C Q hP hnt hrd hQ=>?_⟩
  ·have hl0:=(hml p0 hp0).2
   rcases hl0.ho id with e | e
   ·rw [e] at h2
    have:=(g p0 hp0).new id h1 h2
    exact ⟨this.1,Nat.lt_of_lt_of_le this.2 hl0.nx⟩
   ·exact absurd e h2
  ·intro code hcode a w hs
   refine wpIn_mono (k C (fun e s=>(e=.normal∨e=.ret)∧Less s es'.ds) hP hnt hrd (fun p hp=>hml p hp) code hcode a w hs) ?_
   rintro e a' w' ⟨s,⟨he,hls⟩,hh⟩
   exact ⟨es'.ds,hQ e (.inr he),Imp.weak hls.sv hls.ho hls.nx C a' w' hh⟩
end Go.DD

/- The evaluator's calls; what a closed run shows. -/
namespace Go.DD
theorem Bf9 (ds:List DV) (t:Nat):((argT ds).get t).getD .any=argF ds t:=by
 have key:∀ (ds:List DV) (i:Nat) (tr:Tr DV),(List.rec (motive:=fun _=>Nat→Tr DV→Tr DV) (fun _ t=>t) (fun d _ ih i t=>ih (i+1) (sP (pth i) (some d) t)) ds i tr:Tr DV).get t=if i≤t∧t < i+ds.length then ds[t - i]? else tr.get t:=by
  intro ds
  induction ds with
  | nil=>
   intro i tr
   rw [if_neg (by simp only [List.length_nil]; omega)]
  | cons d ds ih=>
   intro i tr
   show (List.rec (motive:=fun _=>Nat→Tr DV→Tr DV) (fun _ t=>t) (fun d _ ih i t=>ih (i+1) (sP (pth i) (some d) t)) ds (i+1) (sP (pth i) (some d) tr):Tr DV).get t=_
   rw [ih,Bo9]
   by_cases h1:i+1≤t∧t < i+1+ds.length
   ·rw [if_pos h1,if_pos (by simp; omega)]
    rw [show t - i=(t - (i+1))+1 by omega]
    simp
   ·rw [if_neg h1]
    by_cases h2:i=t
    ·subst h2
     rw [if_pos rfl,if_pos (by simp)]
     simp
    ·rw [if_neg h2,if_neg (by simp; omega)]
 have:=key ds 0 .e
 unfold argT argF
 rw [this]
 by_cases h:t < ds.length
 ·rw [if_pos (by omega)]; simp
 ·rw [if_neg (by omega),List.getElem?_eq_none (by omega)]
  cases t <;> rfl
theorem Bg0:∀ (ps:List Nat) (ds:List DV) (sl:Tr DV),(fun u=>((zipT ps ds sl).get u).getD .any)=zipF ps ds fun u=>(sl.get u).getD .any
 | [],ds,sl=>by cases ds <;> rfl
 | p :: ps,[],sl=>rfl
 | p :: ps,d :: ds,sl=>by
  have e:zipT (p :: ps) (d :: ds) sl=zipT ps ds (sP (pth p) (some d) sl):=rfl
  rw [e,Bg0 ps ds]
  simp only [zipF]
  congr 1
  funext u
  rw [Bo9]
  by_cases h:p=u
  ·simp [h]
  ·simp [h]
theorem Cq1 {k:Option Nat} {t:Nat} {es:ES} {d:DV} (h:xLp k (.t (pth t)) es=some d):resD es.ds (t,some k)=some d:=by
 unfold xLp at h
 rcases Al9 h with ⟨_,_,h⟩ | ⟨id,off,ha,h⟩
 ·cases h
 ·obtain ⟨T,cs,hr,h⟩:=Aw0 h
  have ha':es.ds.rv (.tmp t)=.pt id off:=by rw [← Ab3]; exact ha
  have ho:es.ds.ho id=some (.row T cs):=hr
  simp only [resD,ev_pt ha' (by rw [ho]; rfl),ho]
  rw [← Ae0,← An1]
  exact h
theorem Cg8 {es:ES} {q:Nat×Option (Option Nat)} {d:DV} (h:resE es q=some d):resD es.ds q=some d:=by
 obtain ⟨t,k⟩:=q
 cases k with
 | none=>
  have h':some (evE es (.t (pth t)))=some d:=h
  have e:evE es (.t (pth t))=es.ds.ev (.tmp t):=Al5 es (.tmp t)
  rw [e] at h'
  exact h'
 | some k=>exact Cq1 h
theorem Bq2 {es:ES} : ∀ {qs:List (Nat×Option (Option Nat))} {ds:List DV},qs.mapM (resE es)=some ds→qs.mapM (resD es.ds)=some ds
 | [],ds,h=>by simpa using h
 | q :: qs,ds,h=>by
  simp only [List.mapM_cons,Option.bind_eq_bind,Option.bind_eq_some_iff,Option.pure_def] at h ⊢
  obtain ⟨d,hd,dt,hdt,h⟩:=h
  exact ⟨d,Cg8 hd,dt,Bq2 hdt,h⟩
theorem Cg9 {es:ES} {qs:List (Nat×Option (Option Nat))} {d:DV} {hp:Tr DObj} {nx:Nat} (h:finE qs es=some (d,hp,nx)):resV es.ds qs=some d∧hp=es.hp∧nx=es.nx:=by
 unfold finE at h
 cases hm:qs.mapM (resE es) with
 | none=>rw [hm] at h; cases h
 | some ds=>
  rw [hm] at h
  have h2:=Bq2 hm
  unfold resV
  rw [h2]
  match ds,h with
  | [],h=>cases h; exact ⟨rfl,rfl,rfl⟩
  | [x],h=>cases h; exact ⟨rfl,rfl,rfl⟩
  | x :: y :: l,h=>cases h; exact ⟨rfl,rfl,rfl⟩
noncomputable def fnE (P:Program) (n:Nat) (fn:Func):Option FE:=match Ay2 P fn with
 | some df=>some ⟨runF n df.nt df.code,df.res,df.nt⟩
 | none=>none
def TbAt (P:Program) (n f:Nat) (fe:FE):Prop:=Ac7 P f=true∧∃ fn df,P.funcs[f]?=some fn∧Ay2 P fn=some df∧fe.run=runF n df.nt df.code∧fe.res=df.res∧fe.nt=df.nt
def TbOK (P:Program) (n:Nat) (tb:Nat→Option FE):Prop:=∀ f fe,tb f=some fe→TbAt P n f fe
theorem TbAt.of {P:Program} {n f:Nat} {fe:FE} {fn:Func} (h1:P.funcs[f]?=some fn) (h2:Ac7 P f=true) (h3:fnE P n fn=some fe):TbAt P n f fe:=by
 unfold fnE at h3
 split at h3
 ·rename_i df hd
  cases h3
  exact ⟨h2,fn,df,h1,hd,rfl,rfl,rfl⟩
 ·cases h3
noncomputable def tbP (P:Program) (n f:Nat):Option FE:=iteB (Ac7 P f) (Option.rec (motive:=fun _=>Option FE) none (fun fn=>fnE P n fn) (P.funcs[f]?)) none
theorem Bq3 (P:Program) (n:Nat):TbOK P n (tbP P n):=by
 intro f fe h
 obtain ⟨h1,h2⟩:=Ac0 h
 obtain ⟨fn,h3,h4⟩:=optR h2
 exact TbAt.of h3 h1 h4
theorem B67 (es:ES) (id:Nat) (o:Option DObj):(ES.mk es.sl (es.hp.set id o) es.nx).ds=es.ds.lay id o:=by
 rw [ds_eq,Tr.set_ho]; rfl
theorem B68 {es:ES} {id:Nat} {o:DObj} {x:DObj} (h:es.hp.get id=some x):Gw es.ds (ES.mk es.sl (es.hp.set id (some o)) es.nx).ds:=by
 rw [B67]
 refine ⟨Nat.le_refl _,fun j h1 h2=>?_⟩
 simp only [DS.lay,setH] at h2
 split at h2
 ·rename_i e
  have h1':es.hp.get j=none:=h1
  rw [e,h] at h1'; cases h1'
 ·exact absurd h1 h2
theorem At5 {P:Program} (hm:P.follows .mixedOrders=true) {tb:Nat→Option FE} {n' n:Nat} (htb:TbOK P n' tb) {call:CallT} (ih:Ad3 P call):Ad3 P (stepC tb n call):=by
  intro tg ds hp nx d hp' nx' h hfr
  cases tg with
  | fn f=>
   have h0:(match tb f with
    | some fe=>if ds.length≤fe.nt then match fe.run call ⟨argT ds,hp,nx⟩ with
      | some (.normal,es)=>finE fe.res es
      | some (.ret,es)=>finE fe.res es
      | _=>none
     else none
    | none=>none)=some (d,hp',nx'):=h
   split at h0
   rotate_left
   ·cases h0
   rename_i fe hfe
   obtain ⟨hcb,fn,df,hf,hcf,e1,e2,e3⟩:=htb f fe hfe
   split at h0
   rotate_left
   ·cases h0
   rename_i hlen
   rw [e1] at h0
   have hrun:∃ e es,runF n' df.nt df.code call ⟨argT ds,hp,nx⟩=some (e,es)∧(e=.normal∨e=.ret)∧finE fe.res es=some (d,hp',nx'):=by
    revert h0
    split
    ·rename_i es he; exact fun h0=>⟨_,es,he,.inl rfl,h0⟩
    ·rename_i es he; exact fun h0=>⟨_,es,he,.inr rfl,h0⟩
    ·intro h0; cases h0
   obtain ⟨e,es,hev,hee,hfin⟩:=hrun
   obtain ⟨hres,rfl,rfl⟩:=Cg9 hfin
   obtain ⟨g1,g2⟩:=Cg7 ih hm hev hfr
   refine ⟨g1.le,g1.new,hcb,fun sv K hK=>.inl ⟨fn,df,hf,hcf,by rw [← e3]; exact hlen,fun S G w0 X M Y R=>?_⟩⟩
   have hst:(ES.mk (argT ds) hp nx).ds=⟨argF ds,hp.get,nx⟩:=by
    rw [ds_eq]
    congr 1
    funext t
    exact Bf9 ds t
   have:=g2 ⟨P,S,G,w0,df.nt,X,M,none,Y,R⟩ (fun e s'=>(e=.normal∨e=.ret)∧∃ d,resV s' df.res=some d∧K ⟨sv,s'.ho,s'.nx⟩ d) rfl rfl rfl (fun e' he'=>⟨by rcases he' with rfl | h | h; exact hee; exact .inl h; exact .inr h,d,by rw [← e2]; exact hres,hK⟩)
   rw [hst] at this
   exact this
  | yl id=>
   have h0:(match hp.get id with
   | some (.loop lp)=>match lp.st,lp.sl with
    | .ready,.t sl=>if ds.length=lp.ps.length∧lp.ps.all (fun t=>Nat.blt t lp.nt)=true then
      match evalE n lp.nt true lp.asg call ⟨zipT lp.ps ds sl,hp,nx⟩ with
      | some (.normal,es1)=>match es1.hp.get id with
       | some (.loop lp1)=>match lp1.st with
        | .ready=>match evalE n lp.nt true lp.body call { es1 with hp:=es1.hp.set id (some (.loop { lp1 with st:=.busy })) } with
         | some (e,es2)=>match es2.hp.get id with
          | some (.loop lp2)=>match e with
           | .normal=>some (.v (.bool true),es2.hp.set id (some (.loop { lp2 with st:=.ready,pend:=none })),es2.nx)
           | .ret=>some (.v (.bool false),es2.hp.set id (some (.loop { lp2 with st:=.done,pend:=some .ret })),es2.nx)
           | .exit i=>some (.v (.bool false),es2.hp.set id (some (.loop { lp2 with st:=.done,pend:=some (.exit i) })),es2.nx)
           | _=>none
          | _=>none
         | none=>none
        | _=>none
       | _=>none
      | _=>none
     else none
    | _,_=>none
   | _=>none)=some (d,hp',nx'):=h
   split at h0
   rotate_left
   ·cases h0
   rename_i lp hlp
   split at h0
   rotate_left
   ·cases h0
   rename_i sl hst hsl
   split at h0
   rotate_left
   ·cases h0
   rename_i hlen
   obtain ⟨hlen,hps⟩:=hlen
   split at h0
   rotate_left
   ·cases h0
   rename_i es1 hev1
   split at h0
   rotate_left
   ·cases h0
   rename_i lp1 hlp1
   split at h0
   rotate_left
   ·cases h0
   rename_i hst1
   split at h0
   rotate_left
   ·cases h0
   rename_i e es2 hev2
   split at h0
   rotate_left
   ·cases h0
   rename_i lp2 hlp2
   obtain ⟨g1,k1⟩:=At4 ih hm lp.asg _ _ _ hev1 hfr
   have hfr0:(ES.mk (zipT lp.ps ds sl) hp nx).ds.Fr:=hfr
   have hfr1:es1.ds.Fr:=Gw.fr hfr0 g1
   have gs1:=B68 (o:=.loop { lp1 with st:=.busy }) hlp1
   obtain ⟨g2,k2⟩:=At4 ih hm lp.body _ _ _ hev2 (Gw.fr hfr1 gs1)
   have hz:(ES.mk (zipT lp.ps ds sl) hp nx).ds=⟨zipF lp.ps ds lp.sl.get,hp.get,nx⟩:=by
    rw [ds_eq,hsl]
    congr 1
    exact Bg0 lp.ps ds sl
   have hall:∀ t∈lp.ps,t < lp.nt:=fun t ht=>by
    have:=List.all_eq_true.1 hps t ht
    simpa [Nat.blt_eq] using this
   have gwAll:∀ o,Gw (ES.mk (zipT lp.ps ds sl) hp nx).ds (ES.mk es2.sl (es2.hp.set id (some o)) es2.nx).ds:=fun o=>((g1.trans gs1).trans g2).trans (B68 hlp2)
   have fin:∀ (o:DObj) (b:Bool),(d=.v (.bool b)∧hp'=es2.hp.set id (some o)∧nx'=es2.nx)→
     (∀ (sv:Nat→DV) (K:DS→DV→Prop),K ⟨sv,hp'.get,nx'⟩ d→(fun (e:Exit) (s2:DS)=>∃ lp2,s2.ho id=some (.loop lp2)∧match e with
      | .normal=>K ⟨sv,setH s2.ho id (some (.loop { lp2 with st:=.ready,pend:=none })),s2.nx⟩ (.v (.bool true))
      | .ret=>K ⟨sv,setH s2.ho id (some (.loop { lp2 with st:=.done,pend:=some .ret })),s2.nx⟩ (.v (.bool false))
      | .exit i=>K ⟨sv,setH s2.ho id (some (.loop { lp2 with st:=.done,pend:=some (.exit i) })),s2.nx⟩ (.v (.bool false))
      | _=>False) e es2.ds)→
     nx≤nx'∧(∀ id,hp.get id=none→hp'.get id≠none→nx≤id∧id < nx')∧∀ (sv:Nat→DV) (K:DS→DV→Prop),K ⟨sv,hp'.get,nx'⟩ d→A55 P id ds ⟨sv,hp.get,nx⟩ K:=fun o b ⟨q1,q2,q3⟩ hfin=>by
    have gw:=gwAll o
    subst q2 q3
    refine ⟨gw.le,gw.new,fun sv K hK=>⟨lp,hlp,hst,hlen,hall,fun S G w0 X M Y R l=>?_⟩⟩
    rw [← hz]
    refine k1 _ _ rfl rfl (fun h=>by cases h) ⟨rfl,lp1,hlp1,hst1,?_⟩
    rw [← B67]
    exact k2 _ _ rfl rfl (fun h=>by cases h) (hfin sv K hK)
   split at h0
   ·cases h0
    refine fin _ true ⟨rfl,rfl,rfl⟩ fun sv K hK=>⟨lp2,hlp2,?_⟩
    rw [Tr.set_ho] at hK
    exact hK
   ·cases h0
    refine fin _ false ⟨rfl,rfl,rfl⟩ fun sv K hK=>⟨lp2,hlp2,?_⟩
    rw [Tr.set_ho] at hK
    exact hK
   ·cases h0
    refine fin _ false ⟨rfl,rfl,rfl⟩ fun sv K hK=>⟨lp2,hlp2,?_⟩
    rw [Tr.set_ho] at hK
    exact hK
   ·cases h0
theorem Bg1 {P:Program} (hm:P.follows .mixedOrders=true) {tb:Nat→Option FE} {n' n:Nat} (htb:TbOK P n' tb):∀ k,Ad3 P (callE tb n k)
 | 0=>fun tg ds hp nx d hp' nx' h=>by cases h
 | k+1=>At5 hm htb (Bg1 hm htb k)
abbrev Memo:Type:=Tr (List (List DV×DV))
noncomputable def lkD (l:List (List DV×DV)) (ds:List DV):Option DV:=List.rec (motive:=fun _=>Option DV) none (fun e _ ih=>Bool.rec (motive:=fun _=>Option DV) ih (some e.2) (sameL (Ab5 8) e.1 ds)) l
noncomputable def memoC (mm:Memo) (call:CallT):CallT:=fun tg ds hp nx=>match tg with
 | .fn f=>Option.rec (motive:=fun _=>Option (DV×Tr DObj×Nat)) (call (.fn f) ds hp nx) (fun l=>Option.rec (motive:=fun _=>Option (DV×Tr DObj×Nat)) (call (.fn f) ds hp nx) (fun d=>some (d,hp,nx)) (lkD l ds)) (gN mm f)
 | .yl id=>call (.yl id) ds hp nx
noncomputable def callR (tb:Nat→Option FE) (mm:Memo) (n:Nat):Nat→CallT
 | 0=>fun _ _ _ _=>none
 | k+1=>stepC tb n (memoC mm (callR tb mm n k))
def Known (P:Program) (f:Nat) (ds:List DV) (d:DV):Prop:=Ac7 P f=true∧(∀ x∈ds,x.refs=[])∧DCall P f ds fun d'=>d'=d
def MemoOK (P:Program) (mm:Memo):Prop:=∀ f l,mm.get f=some l→∀ e∈l,Known P f e.1 e.2
theorem Bg2 {ds:List DV} {d:DV} : ∀ {l:List (List DV×DV)},lkD l ds=some d→(ds,d)∈l
 | [],h=>by cases h
 | e :: l,h=>by
  have h':Bool.rec (motive:=fun _=>Option DV) (lkD l ds) (some e.2) (sameL (Ab5 8) e.1 ds)=some d:=h
  cases hs:sameL (Ab5 8) e.1 ds with
  | true=>
   rw [hs] at h'
   cases h'
   have:=An2 (Ah6 8) hs
   obtain ⟨a,b⟩:=e
   simp only at this
   subst this
   simp
  | false=>
   rw [hs] at h'
   exact List.mem_cons_of_mem _ (Bg2 h')
theorem B13 {P:Program} {mm:Memo} (hmm:MemoOK P mm) {call:CallT} (hc:Ad3 P call):Ad3 P (memoC mm call):=by
 intro tg ds hp nx d hp' nx' h hfr
 cases tg with
 | yl id=>exact hc (.yl id) ds hp nx d hp' nx' h hfr
 | fn f=>
  have h0:Option.rec (motive:=fun _=>Option (DV×Tr DObj×Nat)) (call (.fn f) ds hp nx) (fun l=>Option.rec (motive:=fun _=>Option (DV×Tr DObj×Nat)) (call (.fn f) ds hp nx) (fun d=>some (d,hp,nx)) (lkD l ds)) (gN mm f)=some (d,hp',nx'):=h
  cases hg:gN mm f with
  | none=>rw [hg] at h0; exact hc (.fn f) ds hp nx d hp' nx' h0 hfr
  | some l=>
   rw [hg] at h0
   cases hl:lkD l ds with
   | none=>
    have h1:Option.rec (motive:=fun _=>Option (DV×Tr DObj×Nat)) (call (.fn f) ds hp nx) (fun d=>some (d,hp,nx)) (lkD l ds)=some (d,hp',nx'):=h0
    rw [hl] at h1
    exact hc (.fn f) ds hp nx d hp' nx' h1 hfr
   | some d0=>
    have h1:Option.rec (motive:=fun _=>Option (DV×Tr DObj×Nat)) (call (.fn f) ds hp nx) (fun d=>some (d,hp,nx)) (lkD l ds)=some (d,hp',nx'):=h0
    rw [hl] at h1
    cases h1
    rw [gN_eq] at hg
    obtain ⟨k1,k2,k3⟩:=hmm f l hg _ (Bg2 hl)
    exact ⟨Nat.le_refl _,fun id h2 h3=>absurd h2 h3,k1,fun sv K hK=>.inr ⟨_,k2,k3,hK⟩⟩
theorem Bg3 {P:Program} (hm:P.follows .mixedOrders=true) {tb:Nat→Option FE} {n' n:Nat} (htb:TbOK P n' tb) {mm:Memo} (hmm:MemoOK P mm):∀ k,Ad3 P (callR tb mm n k)
 | 0=>fun tg ds hp nx d hp' nx' h=>by cases h
 | k+1=>At5 hm htb (B13 hmm (Bg3 hm htb hmm k))
theorem MemoOK.nil (P:Program):MemoOK P .e:=fun f l h=>by cases f <;> cases h
theorem Ba7:∀ (n:Nat) (d r:DV),rz (fun _=>none) n d=some r→r=d
 | 0,d,r,h=>by
  simp only [rz] at h
  split at h
  ·cases h; rfl
  ·cases h
 | n+1,d,r,h=>by
  have hl:∀ cs l,rzL (rz (fun _=>none) n) cs=some l→l=cs:=fun cs l hz=>by
   obtain ⟨h1,h2⟩:=As5 hz
   apply List.ext_getElem?
   intro j
   by_cases hj:j < cs.length
   ·have e1:=List.getElem?_eq_getElem hj
    have e2:=List.getElem?_eq_getElem (l:=l) (i:=j) (by omega)
    rcases h2 j _ _ e1 e2 with ⟨_,h3⟩ | h3
    ·rw [e1,e2,h3]
    ·rw [e1,e2,Ba7 n _ _ h3]
   ·rw [List.getElem?_eq_none (by omega),List.getElem?_eq_none (by omega)]
  cases d with
  | agg cs=>obtain ⟨l,hz,rfl⟩:=Option.map_eq_some_iff.1 h; rw [hl cs l hz]
  | tup cs=>obtain ⟨l,hz,rfl⟩:=Option.map_eq_some_iff.1 h; rw [hl cs l hz]
  | fn f cs=>obtain ⟨l,hz,rfl⟩:=Option.map_eq_some_iff.1 h; rw [hl cs l hz]
  | ifc T d=>obtain ⟨e,hz,rfl⟩:=Option.map_eq_some_iff.1 h; rw [Ba7 n _ _ hz]
  | ms id off k es=>simp [rz] at h
  | pt id off=>simp [rz] at h
  | mp id=>simp [rz] at h
  | yl id=>simp [rz] at h
  | any=>simp [rz] at h; exact h.symm
  | v x=>simp [rz] at h; exact h.symm
  | sl cs k=>simp [rz] at h; exact h.symm
  | ia cs=>simp [rz] at h; exact h.symm
theorem DCall.of_callC {P:Program} {f:FuncId} {args:List DV} {R:DV→Prop} {sv:Nat→DV} (h:callC P f args ⟨sv,fun _=>none,0⟩ fun s d=>∃ r,rz s.ho 6 d=some r∧R r):DCall P f args R:=by
 rcases h with h | ⟨d,h1,h2,r,h3,h4⟩
 ·exact DCall.of_callI h
 ·have hd:r=d:=Ba7 6 _ _ h3
  subst hd
  exact h2.mono fun d hd=>by rw [hd]; exact h4
noncomputable def flatB (ds:List DV):Bool:=ds.all fun d=>(refsE d).isEmpty
noncomputable def retE (x:Option (DV×Tr DObj×Nat)) (d:DV):Bool:=match x with
 | some (d',hp,_)=>match rz hp.get 6 d' with
  | some r=>Ab5 12 r d
  | none=>false
 | none=>false
theorem A69 {P:Program} (hm:P.follows .mixedOrders=true) {tb:Nat→Option FE} {n' n k f:Nat} (htb:TbOK P n' tb) {mm:Memo} (hmm:MemoOK P mm) {ds:List DV} {d:DV} (hf:flatB ds=true) (h:retE (callR tb mm n k (.fn f) ds .e 0) d=true):Known P f ds d:=by
 unfold retE at h
 split at h
 rotate_left
 ·cases h
 rename_i d' hp nx hr
 split at h
 rotate_left
 ·cases h
 rename_i r hrz
 have hd:=Ah6 _ _ _ h
 subst hd
 obtain ⟨_,_,hcb,hI⟩:=Bg3 hm htb hmm k _ _ _ _ _ _ _ hr (fun id _=>by cases id <;> rfl)
 refine ⟨hcb,fun x hx=>?_,DCall.of_callC (sv:=fun _=>.any) ?_⟩
 ·have:=List.all_eq_true.1 hf x hx
  rw [Ak2] at this
  simpa using this
 ·have:=hI (fun _=>.any) (fun s d=>∃ r',rz s.ho 6 d=some r'∧r'=r) ⟨r,hrz,rfl⟩
  have e:(Tr.e:Tr DObj).get=fun _=>none:=by funext id; cases id <;> rfl
  rw [e] at this
  exact this
theorem Bg4 {P:Program} (hm:P.follows .mixedOrders=true) {tb:Nat→Option FE} {n' n k f:Nat} (htb:TbOK P n' tb) (h:okBE (callE tb n k (.fn f) [] .e 0)=true):Ac7 P f=true∧DCall P f [] fun d=>d=.v (.bool true):=by
 unfold okBE at h
 split at h
 rotate_left
 ·cases h
 rename_i b hp nx hr
 subst h
 obtain ⟨_,_,hcb,hI⟩:=Bg1 hm htb k _ _ _ _ _ _ _ hr (fun id _=>by cases id <;> rfl)
 refine ⟨hcb,DCall.of_callC (sv:=fun _=>.any) ?_⟩
 have:=hI (fun _=>.any) (fun s d=>∃ r,rz s.ho 6 d=some r∧r=.v (.bool true)) ⟨.v (.bool true),rfl,rfl⟩
 have e:(Tr.e:Tr DObj).get=fun _=>none:=by funext id; cases id <;> rfl
 rw [e] at this
 exact this
end Go.DD

/- The evaluator, read with symbols: what a piece of code leads to. -/
namespace Go.DD
def EW (c:CE) (call:CallT) (es:ES) (Q:Exit→ES→Prop):Prop:=∃ e es',c call es=some (e,es')∧Q e es'
def SW (s:Stp) (call:CallT) (es:ES) (Q:ES→Prop):Prop:=∃ es',s call es=some es'∧Q es'
def XW (x:Option DV) (Q:DV→Prop):Prop:=∃ d,x=some d∧Q d
def thenE (next:ES→Prop) (Q:Exit→ES→Prop):Exit→ES→Prop
 | .normal,es=>next es
 | e,es=>Q e es
def blkE (id:Nat) (Q:Exit→ES→Prop):Exit→ES→Prop
 | .exit i,es=>if i=id then Q .normal es else Q (.exit i) es
 | e,es=>Q e es
theorem EW.mono {c:CE} {call:CallT} {es:ES} {Q Q':Exit→ES→Prop} (h:EW c call es Q) (hq:∀ e es,Q e es→Q' e es):EW c call es Q':=by
 obtain ⟨e,es',h1,h2⟩:=h
 exact ⟨e,es',h1,hq _ _ h2⟩
theorem EW.s {a b:CE} {call:CallT} {es:ES} {Q:Exit→ES→Prop} (h:EW a call es (thenE (fun es1=>EW b call es1 Q) Q)):EW (cS a b) call es Q:=by
 obtain ⟨e,es1,h1,h2⟩:=h
 cases e with
 | normal=>
  obtain ⟨e2,es2,h3,h4⟩:=h2
  refine ⟨e2,es2,?_,h4⟩
  unfold cS; rw [h1]; exact h3
 | _=>exact ⟨_,es1,by unfold cS; rw [h1],h2⟩
theorem EW.n {s:Stp} {call:CallT} {es:ES} {Q:Exit→ES→Prop} (h:SW s call es (Q .normal)):EW (cN s) call es Q:=by
 obtain ⟨es1,h1,h2⟩:=h
 exact ⟨_,es1,by unfold cN; rw [h1],h2⟩
theorem EW.e {e:Exit} {call:CallT} {es:ES} {Q:Exit→ES→Prop} (h:Q e es):EW (cE e) call es Q:=⟨e,es,rfl,h⟩
theorem EW.c {x:EO} {a b:CE} {call:CallT} {es:ES} {Q:Exit→ES→Prop} (t:Bool) (ht:rawE es x=.v (.bool t)) (h1:t=true→EW a call es Q) (h2:t=false→EW b call es Q):EW (cC x a b) call es Q:=by
 have e:cC x a b call es=Bool.rec (motive:=fun _=>Option (Exit×ES)) (b call es) (a call es) t:=by unfold cC; rw [ht]; rfl
 cases t with
 | true=>obtain ⟨e1,es1,h3,h4⟩:=h1 rfl; exact ⟨e1,es1,e.trans h3,h4⟩
 | false=>obtain ⟨e1,es1,h3,h4⟩:=h2 rfl; exact ⟨e1,es1,e.trans h3,h4⟩
theorem EW.b {id:Nat} {c:CE} {call:CallT} {es:ES} {Q:Exit→ES→Prop} (h:EW c call es (blkE id Q)):EW (cB id c) call es Q:=by
 obtain ⟨e,es1,h1,h2⟩:=h
 cases e with
 | exit i=>
  have e1:cB id c call es=iteB (Nat.beq i id) (some (.normal,es1)) (some (.exit i,es1)):=by unfold cB; rw [h1]
  rw [Ab2] at e1
  simp only [blkE] at h2
  by_cases hi:i=id
  ·subst hi
   rw [if_pos (Nat.beq_refl i)] at e1
   rw [if_pos rfl] at h2
   exact ⟨_,_,e1,h2⟩
  ·rw [if_neg (fun h=>hi (Nat.eq_of_beq_eq_true h))] at e1
   rw [if_neg hi] at h2
   exact ⟨_,_,e1,h2⟩
 | _=>exact ⟨_,es1,by unfold cB; rw [h1],h2⟩
theorem EW.l {c:CE} {call:CallT} {Q:Exit→ES→Prop} (I:Nat→ES→Prop) (step:∀ n es,I n es→EW c call es (thenE (fun es1=>∃ m,m < n∧I m es1) Q)):∀ (n k:Nat) (es:ES),I n es→n < k→EW (cL k c) call es Q:=by
 intro n
 induction n using Nat.strongRecOn with
 | _ n ih=>
  intro k es h hk
  cases k with
  | zero=>omega
  | succ k=>
   show EW (cS c (cL k c)) call es Q
   refine EW.s ((step n es h).mono ?_)
   intro e es1 h1
   cases e with
   | normal=>
    obtain ⟨m,hm,hI⟩:=h1
    exact ih m hm k es1 hI (by omega)
   | _=>exact h1
theorem SW.q {s k:Stp} {call:CallT} {es:ES} {Q:ES→Prop} (h:SW s call es fun es1=>SW k call es1 Q):SW (sq s k) call es Q:=by
 obtain ⟨es1,h1,es2,h2,h3⟩:=h
 exact ⟨es2,by unfold sq; rw [h1]; exact h2,h3⟩
theorem SW.z {call:CallT} {es:ES} {Q:ES→Prop} (h:Q es):SW sEnd call es Q:=⟨es,rfl,h⟩
theorem SW.m {dst:Option Pa} {x:EO} {call:CallT} {es:ES} {Q:ES→Prop} (h:Q (es.putE dst (rawE es x))):SW (sM dst x) call es Q:=⟨_,rfl,h⟩
theorem SW.x {dst:Option Pa} {x:XP} {call:CallT} {es:ES} {Q:ES→Prop} (d:DV) (hx:x es=some d) (h:Q (es.putE dst d)):SW (sX dst x) call es Q:=⟨_,by unfold sX; rw [hx],h⟩
theorem SW.call {f:Nat} {args:List EO} {dst:Option Pa} {call:CallT} {es:ES} {Q:ES→Prop} (d:DV) (hp:Tr DObj) (nx:Nat) (hc:call (.fn f) (args.map (rawE es)) es.hp es.nx=some (d,hp,nx)) (h:Q ((ES.mk es.sl hp nx).putE dst d)):SW (sCall f args dst) call es Q:=by
 refine ⟨_,?_,h⟩
 unfold sCall Ah4 evL
 rw [Al6,hc]; rfl
theorem gP_e {α:Type} (p:Pa):gP p (.e:Tr α)=none:=by cases p <;> rfl
theorem Aw3 {α:Type} : ∀ (p:Pa) (v:Option α) (t:Tr α),gP p (sP p v t)=v
 | .o,v,t=>by cases t <;> rfl
 | .l p,v,.e=>Aw3 p v .e
 | .l p,v,.n l _ _=>Aw3 p v l
 | .r p,v,.e=>Aw3 p v .e
 | .r p,v,.n _ _ r=>Aw3 p v r
theorem Ap7 {α:Type} : ∀ {p q:Pa} (v:Option α) (t:Tr α),q≠p→gP p (sP q v t)=gP p t
 | .o,.o,v,t,h=>absurd rfl h
 | .o,.l q,v,t,_=>by cases t <;> rfl
 | .o,.r q,v,t,_=>by cases t <;> rfl
 | .l p,.o,v,t,_=>by cases t <;> first | rfl | exact gP_e p
 | .l p,.r q,v,t,_=>by cases t <;> first | rfl | exact gP_e p
 | .r p,.o,v,t,_=>by cases t <;> first | rfl | exact gP_e p
 | .r p,.l q,v,t,_=>by cases t <;> first | rfl | exact gP_e p
 | .l p,.l q,v,.e,h=>show gP p (sP q v .e)=none from (Ap7 (p:=p) (q:=q) v .e fun e=>h (by rw [e])).trans (gP_e p)
 | .l p,.l q,v,.n l _ _,h=>Ap7 v l fun e=>h (by rw [e])
 | .r p,.r q,v,.e,h=>show gP p (sP q v .e)=none from (Ap7 (p:=p) (q:=q) v .e fun e=>h (by rw [e])).trans (gP_e p)
 | .r p,.r q,v,.n _ _ r,h=>Ap7 v r fun e=>h (by rw [e])
theorem Ch0 (sl:Tr DV) (hp:Tr DObj) (nx:Nat) (p:Pa) (d:DV):rawE (ES.putE ⟨sl,hp,nx⟩ (some p) d) (.t p)=d:=by
 show Option.rec (motive:=fun _=>DV) _ _ (gP p (sP p (some d) sl))=d
 rw [Aw3]
theorem A28 (es:ES) {p q:Pa} (d:DV) (h:q≠p):rawE (ES.putE es (some q) d) (.t p)=rawE es (.t p):=by
 obtain ⟨sl,hp,nx⟩:=es
 show Option.rec (motive:=fun _=>DV) _ _ (gP p (sP q (some d) sl))=Option.rec (motive:=fun _=>DV) _ _ (gP p sl)
 rw [Ap7 _ _ h]
theorem Bq4 (es:ES) (p:Pa) (d:DV):rawE (ES.putE es (some p) d) (.t p)=d:=by
 obtain ⟨sl,hp,nx⟩:=es
 exact Ch0 sl hp nx p d
theorem Bq5 (es:ES) (p:Option Pa) (d:DV):(ES.putE es p d).hp=es.hp:=by cases p <;> rfl
theorem nx_put (es:ES) (p:Option Pa) (d:DV):(ES.putE es p d).nx=es.nx:=by cases p <;> rfl
theorem Bq6 (es:ES) (hp:Tr DObj) (nx:Nat) (p:Option Pa) (d:DV):ES.putE (ES.mk es.sl hp nx) p d=ES.mk (ES.putE es p d).sl hp nx:=by cases p <;> rfl
theorem B69 (b:Bool):outV (some (.bool b))=some (.v (.bool b)):=by cases b <;> rfl
theorem Cq2 (k:IntKind) (n:Int):outV (some (.int k n))=some (.v (.int k n)):=by
 show Bo4 n (fun n=>some (DV.v (.int k n)))=_
 rw [A61]
def CW (d:DV) (A B:Prop):Prop:=∃ t,d=.v (.bool t)∧(t=true→A)∧(t=false→B)
def KW (call:CallT) (tg:Tg) (ds:List DV) (hp:Tr DObj) (nx:Nat) (K:DV→Tr DObj→Nat→Prop):Prop:=∃ d hp' nx',call tg ds hp nx=some (d,hp',nx')∧K d hp' nx'
theorem ew_s {a b:CE} {call:CallT} {es:ES} {Q:Exit→ES→Prop} : EW (cS a b) call es Q↔EW a call es (thenE (fun es1=>EW b call es1 Q) Q):=by
 refine ⟨fun ⟨e,es',h1,h2⟩=>?_,EW.s⟩
 rcases A24 h1 with ⟨es1,h3,h4⟩ | ⟨h3,hne⟩
 ·exact ⟨.normal,es1,h3,e,es',h4,h2⟩
 ·refine ⟨e,es',h3,?_⟩
  cases e <;> first | exact h2 | exact absurd rfl hne
theorem ew_n {s:Stp} {call:CallT} {es:ES} {Q:Exit→ES→Prop} : EW (cN s) call es Q↔SW s call es (Q .normal):=by
 refine ⟨fun ⟨e,es',h1,h2⟩=>?_,EW.n⟩
 obtain ⟨h3,rfl⟩:=A25 h1
 exact ⟨es',h3,h2⟩
theorem ew_e {e:Exit} {call:CallT} {es:ES} {Q:Exit→ES→Prop} : EW (cE e) call es Q↔Q e es:=by
 refine ⟨fun ⟨e',es',h1,h2⟩=>?_,EW.e⟩
 have h3:some (e,es)=some (e',es'):=h1
 cases h3; exact h2
theorem ew_c {x:EO} {a b:CE} {call:CallT} {es:ES} {Q:Exit→ES→Prop} (h:CW (rawE es x) (EW a call es Q) (EW b call es Q)):EW (cC x a b) call es Q:=by
 obtain ⟨t,h1,h2,h3⟩:=h
 exact EW.c t h1 h2 h3
theorem ew_c' {x:EO} {a b:CE} {call:CallT} {es:ES} {Q:Exit→ES→Prop} : EW (cC x a b) call es Q↔CW (rawE es x) (EW a call es Q) (EW b call es Q):=by
 refine ⟨fun ⟨e,es',h1,h2⟩=>?_,ew_c⟩
 unfold cC at h1
 obtain ⟨v,hv,h1⟩:=Ak3 h1
 cases v with
 | bool t=>
  refine ⟨t,hv,fun ht=>?_,fun ht=>?_⟩
  ·subst ht; exact ⟨e,es',h1,h2⟩
  ·subst ht; exact ⟨e,es',h1,h2⟩
 | _=>cases h1
theorem ew_b {id:Nat} {c:CE} {call:CallT} {es:ES} {Q:Exit→ES→Prop} : EW (cB id c) call es Q↔EW c call es (blkE id Q):=by
 refine ⟨fun ⟨e,es',h1,h2⟩=>?_,EW.b⟩
 obtain ⟨⟨e1,es1⟩,h3,h4⟩:=optR h1
 refine ⟨e1,es1,h3,?_⟩
 cases e1 with
 | exit i=>
  have h5:iteB (Nat.beq i id) (some (Exit.normal,es1)) (some (Exit.exit i,es1))=some (e,es'):=h4
  rw [Ab2] at h5
  simp only [blkE]
  split at h5
  ·rename_i hb
   cases h5
   rw [if_pos (Nat.eq_of_beq_eq_true hb)]; exact h2
  ·rename_i hb
   cases h5
   rw [if_neg (fun e=>hb (by rw [e]; exact Nat.beq_refl id))]; exact h2
 | _=>cases h4; exact h2
theorem sw_q {s k:Stp} {call:CallT} {es:ES} {Q:ES→Prop} : SW (sq s k) call es Q↔SW s call es fun es1=>SW k call es1 Q:=by
 refine ⟨fun ⟨es',h1,h2⟩=>?_,SW.q⟩
 obtain ⟨es1,h3,h4⟩:=optR h1
 exact ⟨es1,h3,es',h4,h2⟩
theorem sw_z {call:CallT} {es:ES} {Q:ES→Prop} : SW sEnd call es Q↔Q es:=by
 refine ⟨fun ⟨es',h1,h2⟩=>?_,SW.z⟩
 have h3:some es=some es':=h1
 cases h3; exact h2
theorem sw_m {dst:Option Pa} {x:EO} {call:CallT} {es:ES} {Q:ES→Prop} : SW (sM dst x) call es Q↔Q (es.putE dst (rawE es x)):=by
 refine ⟨fun ⟨es',h1,h2⟩=>?_,SW.m⟩
 have h3:some (es.putE dst (rawE es x))=some es':=h1
 cases h3; exact h2
theorem sw_x {dst:Option Pa} {x:XP} {call:CallT} {es:ES} {Q:ES→Prop} : SW (sX dst x) call es Q↔XW (x es) fun d=>Q (es.putE dst d):=by
 refine ⟨fun ⟨es',h1,h2⟩=>?_,fun ⟨d,h1,h2⟩=>SW.x d h1 h2⟩
 obtain ⟨d,h3,h4⟩:=optR h1
 have h5:some (es.putE dst d)=some es':=h4
 cases h5
 exact ⟨d,h3,h2⟩
theorem A29 {d:DV} {Q:DV→Prop} : XW (some d) Q↔Q d:=⟨fun ⟨d',h1,h2⟩=>(by cases h1; exact h2),fun h=>⟨d,rfl,h⟩⟩
theorem sw_call {f:Nat} {args:List EO} {dst:Option Pa} {call:CallT} {es:ES} {Q:ES→Prop} : SW (sCall f args dst) call es Q↔KW call (.fn f) (args.map (rawE es)) es.hp es.nx fun d hp nx=>Q ((ES.mk es.sl hp nx).putE dst d):=by
 have e:sCall f args dst call es=Ah4 (.fn f) (args.map (rawE es)) dst call es:=by unfold sCall evL; rw [Al6]
 constructor
 ·rintro ⟨es',h1,h2⟩
  rw [e] at h1
  obtain ⟨⟨d,hp,nx⟩,h3,h4⟩:=optR h1
  have h5:some ((ES.mk es.sl hp nx).putE dst d)=some es':=h4
  cases h5
  exact ⟨d,hp,nx,h3,h2⟩
 ·rintro ⟨d,hp,nx,h1,h2⟩
  exact SW.call d hp nx h1 h2
theorem cw_b {t:Bool} {A B:Prop} : CW (.v (.bool t)) A B↔(t=true→A)∧(t=false→B):=⟨fun ⟨_,h1,h2⟩=>(by cases h1; exact h2),fun h=>⟨t,rfl,h⟩⟩
def binD (op:BinOp) (a b:DV):Option DV:=(binV op a b).map .v
theorem x_bin (op:BinOp) (x y:EO) (es:ES):xBin op x y es=binD op (rawE es x) (rawE es y):=by
 cases hx:rawE es x with
 | v a=>
  cases hy:rawE es y with
  | v b=>
   cases a with
   | int k m=>
    cases b with
    | int k' n=>
     have e:xBin op x y es=outV (iteB (isSh op) (shI op k m n) (iteB (Nat.beq k.ctorIdx k'.ctorIdx) (binI op k m n) none)):=by unfold xBin; rw [hx,hy]; rfl
     rw [e,Ab2,Ab2]
     have hk:(Nat.beq k.ctorIdx k'.ctorIdx=true)↔k=k':=by cases k <;> cases k' <;> simp [IntKind.ctorIdx]
     have hout:∀ v:Option Value,(∀ w,v=some w→(∃ t,w=.bool t)∨∃ k n,w=.int k n)→outV v=v.map DV.v:=by
      intro v hv
      cases v with
      | none=>rfl
      | some w=>
       rcases hv w rfl with ⟨t,rfl⟩ | ⟨k,n,rfl⟩
       ·exact B69 t
       ·exact Cq2 k n
     have hsh:∀ w,shI op k m n=some w→(∃ t,w=.bool t)∨∃ k n,w=.int k n:=by
      intro w hw
      unfold shI at hw
      split at hw
      ·cases hw
      ·split at hw <;> first | (cases hw; exact .inr ⟨_,_,rfl⟩) | cases hw
     have hbi:∀ w,binI op k m n=some w→(∃ t,w=.bool t)∨∃ k n,w=.int k n:=by
      intro w hw
      unfold binI at hw
      split at hw <;> first | (cases hw; exact .inr ⟨_,_,rfl⟩) | (cases hw; exact .inl ⟨_,rfl⟩) | (split at hw <;> first | (cases hw; exact .inr ⟨_,_,rfl⟩) | cases hw) | cases hw
     simp only [binD,binV]
     split
     ·exact hout _ hsh
     ·by_cases h:k=k'
      ·rw [if_pos (hk.2 h),if_pos h]; exact hout _ hbi
      ·rw [if_neg (fun h'=>h (hk.1 h')),if_neg h]; rfl
    | _=>unfold xBin; rw [hx,hy]; rfl
   | string m=>
    cases b with
    | string n=>
     have e:xBin op x y es=outV (binS op m n):=by unfold xBin; rw [hx,hy]; rfl
     rw [e]
     simp only [binD,binV]
     have hbs:∀ w,binS op m n=some w→(∃ t,w=.bool t)∨∃ s,w=.string s:=by
      intro w hw
      unfold binS at hw
      split at hw <;> first | (cases hw; exact .inl ⟨_,rfl⟩) | (split at hw <;> first | (cases hw; exact .inr ⟨_,rfl⟩) | cases hw) | cases hw
     cases hv:binS op m n with
     | none=>rfl
     | some w=>
      rcases hbs w hv with ⟨t,rfl⟩ | ⟨s,rfl⟩
      ·exact B69 t
      ·rfl
    | _=>unfold xBin; rw [hx,hy]; rfl
   | _=>unfold xBin; rw [hx,hy]; rfl
  | _=>unfold xBin; rw [hx,hy]; cases a <;> rfl
 | _=>unfold xBin; rw [hx]; rfl
theorem wrap_in {n:Int} (h : -9223372036854775808≤n∧n≤9223372036854775807):IntKind.i64.wrap n=n:=IntWalk.i64_in n h
theorem b_lss (k:IntKind) (a b:Int):binD .lss (.v (.int k a)) (.v (.int k b))=some (.v (.bool (decide (a < b)))):=by simp [binD,binV,isSh,binI]
theorem b_gtr (k:IntKind) (a b:Int):binD .gtr (.v (.int k a)) (.v (.int k b))=some (.v (.bool (decide (a > b)))):=by simp [binD,binV,isSh,binI]
theorem b_leq (k:IntKind) (a b:Int):binD .leq (.v (.int k a)) (.v (.int k b))=some (.v (.bool (decide (a≤b)))):=by simp [binD,binV,isSh,binI]
theorem b_geq (k:IntKind) (a b:Int):binD .geq (.v (.int k a)) (.v (.int k b))=some (.v (.bool (decide (a≥b)))):=by simp [binD,binV,isSh,binI]
theorem b_eql (k:IntKind) (a b:Int):binD .eql (.v (.int k a)) (.v (.int k b))=some (.v (.bool (a == b))):=by simp [binD,binV,isSh,binI]
theorem b_neq (k:IntKind) (a b:Int):binD .neq (.v (.int k a)) (.v (.int k b))=some (.v (.bool (a != b))):=by simp [binD,binV,isSh,binI]
theorem b_add (k:IntKind) (a b:Int):binD .add (.v (.int k a)) (.v (.int k b))=some (.v (.int k (k.wrap (a+b)))):=by simp [binD,binV,isSh,binI]
theorem b_sub (k:IntKind) (a b:Int):binD .sub (.v (.int k a)) (.v (.int k b))=some (.v (.int k (k.wrap (a - b)))):=by simp [binD,binV,isSh,binI]
theorem b_mul (k:IntKind) (a b:Int):binD .mul (.v (.int k a)) (.v (.int k b))=some (.v (.int k (k.wrap (a*b)))):=by simp [binD,binV,isSh,binI]
end Go.DD

/- Contracts in the evaluator's terms. -/
namespace Go.DD
theorem Cq3 {es:ES} {p:Pa} {d:DV} (h:rawE es (.t p)=d) (hr:d.refs=[]):evE es (.t p)=d:=by
 have e:evE es (.t p)=liveE es.hp (rawE es (.t p)):=rfl
 rw [e,h]
 unfold liveE
 rw [Ak2,hr]
 rfl
theorem fin1 {es:ES} {t:Nat} {d:DV} (h:rawE es (.t (pth t))=d) (hr:d.refs=[]):finE [(t,none)] es=some (d,es.hp,es.nx):=by
 have e:resE es (t,none)=some d:=congrArg some (Cq3 h hr)
 unfold finE
 simp only [List.mapM_cons,List.mapM_nil,e,Option.pure_def,Option.bind_eq_bind,Option.bind_some,resVE]
structure Al (hp:Tr DObj) (nx:Nat) (hp':Tr DObj) (nx':Nat):Prop where
 le:nx≤nx'
 same:∀ id,id < nx→hp'.get id=hp.get id
theorem Al.refl (hp:Tr DObj) (nx:Nat):Al hp nx hp nx:=⟨Nat.le_refl _,fun _ _=>rfl⟩
theorem Al.trans {h1 h2 h3:Tr DObj} {n1 n2 n3:Nat} (a:Al h1 n1 h2 n2) (b:Al h2 n2 h3 n3):Al h1 n1 h3 n3:=
 ⟨Nat.le_trans a.le b.le,fun id h=>by rw [b.same id (by have:=a.le; omega),a.same id h]⟩
def Ent (es:ES) (args:List DV):Prop:=∀ i d,args[i]?=some d→rawE es (.t (pth i))=d
theorem Bq7 (args:List DV) (hp:Tr DObj) (nx:Nat):Ent ⟨argT args,hp,nx⟩ args:=fun i d h=>by
 have e:rawE ⟨argT args,hp,nx⟩ (.t (pth i))=argF args i:=by
  rw [Bp0]
  exact Bf9 args i
 rw [e]
 simp [argF,h]
end Go.DD

/- The evaluator, read with symbols: regions that draw their order. -/
namespace Go.DD
def TW (s:DStp) (call:CallT) (n0 m:Nat) (δ:DSt) (Q:DSt→Prop):Prop:=∃ δ',s call n0 m δ=some δ'∧Q δ'
theorem B70 {m:Nat} {s:DStp} {call:CallT} {es:ES} {Q:ES→Prop} : SW (regE m s) call es Q↔TW s call es.nx m ⟨⟨es.sl,es.hp,es.nx+m⟩,[],[],[]⟩ fun d=>Ag0 es.nx m d.ws d.ps=true∧Q d.es:=by
 have e:regE m s call es=Option.rec (motive:=fun _=>Option ES) none (fun d=>iteB (Ag0 es.nx m d.ws d.ps) (some d.es) none) (s call es.nx m ⟨⟨es.sl,es.hp,es.nx+m⟩,[],[],[]⟩):=by
  unfold regE; rw [cs_eq,Ab6]
 constructor
 ·rintro ⟨es',h1,h2⟩
  rw [e] at h1
  obtain ⟨d,h3,h4⟩:=optR h1
  obtain ⟨h5,h6⟩:=Ac0 h4
  cases h6
  exact ⟨d,h3,h5,h2⟩
 ·rintro ⟨d,h1,h2,h3⟩
  exact ⟨d.es,by rw [e,h1]; show iteB _ _ _=_; rw [h2]; rfl,h3⟩
theorem tw_q {s k:DStp} {call:CallT} {n0 m:Nat} {δ:DSt} {Q:DSt→Prop} : TW (dq s k) call n0 m δ Q↔TW s call n0 m δ fun δ'=>TW k call n0 m δ' Q:=by
 constructor
 ·rintro ⟨δ',h1,h2⟩
  obtain ⟨δ1,h3,h4⟩:=optR h1
  exact ⟨δ1,h3,δ',h4,h2⟩
 ·rintro ⟨δ1,h1,δ',h2,h3⟩
  exact ⟨δ',by unfold dq; rw [h1]; exact h2,h3⟩
theorem tw_z {call:CallT} {n0 m:Nat} {δ:DSt} {Q:DSt→Prop} : TW dEnd call n0 m δ Q↔Q δ:=by
 constructor
 ·rintro ⟨δ',h1,h2⟩
  have h3:some δ=some δ':=h1
  cases h3; exact h2
 ·exact fun h=>⟨δ,rfl,h⟩
theorem B71 {an:List Nat} {ps:List Pa} {s:DStp} {call:CallT} {n0 m:Nat} {δ:DSt} {Q:DSt→Prop} : TW (dChk an ps s) call n0 m δ Q↔allL (refsL δ.es ps) (fun id=>okRef n0 m an δ.es.hp id)=true∧TW s call n0 m δ Q:=by
 constructor
 ·rintro ⟨δ',h1,h2⟩
  obtain ⟨h3,h4⟩:=Ac0 (show iteB _ _ _=_ from h1)
  exact ⟨h3,δ',h4,h2⟩
 ·rintro ⟨h1,δ',h2,h3⟩
  exact ⟨δ',by unfold dChk; rw [h1]; exact h2,h3⟩
theorem tw_dx {an:List Nat} {ps:List Pa} {i:Nat} {dst:Option Pa} {x:XP} {call:CallT} {n0 m:Nat} {δ:DSt} {Q:DSt→Prop} : TW (dX an ps i dst x) call n0 m δ Q↔TW (dChk an ps (dRead i an false false dst (fun _=>x) ps)) call n0 m δ Q:=Iff.rfl
theorem tw_dy {an:List Nat} {ps:List Pa} {i:Nat} {dst:Option Pa} {x:XP} {call:CallT} {n0 m:Nat} {δ:DSt} {Q:DSt→Prop} : TW (dY an ps i dst x) call n0 m δ Q↔TW (dChk an ps (dRead i an false true dst (fun _=>x) ps)) call n0 m δ Q:=Iff.rfl
theorem tw_dp {an:List Nat} {i:Nat} {dst:Option Pa} {p:Pa} {call:CallT} {n0 m:Nat} {δ:DSt} {Q:DSt→Prop} : TW (dP an i dst p) call n0 m δ Q↔TW (dChk an [p] (dRead i an false false dst (fun _ es=>some (rawE es (.t p))) [p])) call n0 m δ Q:=Iff.rfl
theorem Bq8 {i:Nat} {an:List Nat} {wide c:Bool} {dst:Option Pa} {x:Nat→XP} {ps:List Pa} {call:CallT} {n0 m:Nat} {es:ES} {lo:List Nat} {ws:List Look} {pp:List Past} {Q:DSt→Prop} :
  TW (dRead i an wide c dst x ps) call n0 m ⟨es,lo,ws,pp⟩ Q↔XW (x (n0+i) es) fun v=>Q ⟨es.putE dst v,lo,lookE i an wide c (refsL es ps) n0 lo ws,pp⟩:=by
 constructor
 ·rintro ⟨δ',h1,h2⟩
  obtain ⟨v,h3,h4⟩:=optR h1
  have h5:some (⟨es.putE dst v,lo,lookE i an wide c (refsL es ps) n0 lo ws,pp⟩:DSt)=some δ':=h4
  cases h5
  exact ⟨v,h3,h2⟩
 ·rintro ⟨v,h1,h2⟩
  have e:dRead i an wide c dst x ps call n0 m ⟨es,lo,ws,pp⟩=Option.rec (motive:=fun _=>Option DSt) none (fun v=>some ⟨es.putE dst v,lo,lookE i an wide c (refsL es ps) n0 lo ws,pp⟩) (x (n0+i) es):=rfl
  exact ⟨_,by rw [e,h1],h2⟩
theorem B72 (i:Nat) (c:Bool) (an refs lo:List Nat) (n0:Nat) (ws:List Look):lookE i an false c refs n0 lo ws=ws:=rfl
theorem Aw4 (n0 m:Nat) (ps:List Past):Ag0 n0 m [] ps=true:=rfl
theorem Bg5 (es:ES):refsL es []=[]:=rfl
theorem Ac9 {hp:Tr DObj} {d:DV} (h:d.refs=[]):liveE hp d=d:=by
 unfold liveE; rw [Ak2,h]; rfl
theorem Ao3 (es:ES) (t:Nat):es.ds.ev (.tmp t)=liveE es.hp (rawE es (.t (pth t))):=(Al5 es (.tmp t)).symm
theorem B73 (cs:List DV) (n:Nat):(DV.sl cs n).refs=[]:=rfl
theorem B74 (v:Value):(DV.v v).refs=[]:=rfl
theorem B75 (cs:List DV):(DV.ia cs).refs=[]:=rfl
def eqsD (neg:Bool) (ks:List Nat):DV→DV→Option DV
 | .agg xs,.agg ys=>(eqL ks xs ys).map fun b=>.v (.bool (xor neg b))
 | _,_=>none
end Go.DD

/- Lists of records, as their cells lie. -/
namespace Go.DD
end Go.DD

/- The evaluator, read with symbols: guards, choices, parts of tuples; contracts without a heap. -/
namespace Go.DD
def GW (d:DV) (b:Bool) (A B:Prop):Prop:=(∃ c,d=.v (.bool c)∧(c=b→A)∧(c≠b→B))∨(∃ vs,d=.v (.tuple vs)∧B)
theorem sw_g {p:Pa} {b:Bool} {dst:Option Pa} {s:Stp} {call:CallT} {es:ES} {Q:ES→Prop} : GW (rawE es (.t p)) b (SW s call es Q) (Q (es.putE dst (.v undef)))→SW (sG p b dst s) call es Q:=by
 rintro (⟨c,h1,h2,h3⟩ | ⟨vs,h1,h2⟩)
 ·have hw:wantE es p b=some (c == b):=by unfold wantE; rw [h1]; rfl
  unfold SW sG
  rw [hw]
  by_cases hc:c=b
  ·obtain ⟨es',h4,h5⟩:=h2 hc
   refine ⟨es',?_,h5⟩
   subst hc
   simp only [beq_self_eq_true]
   exact h4
  ·refine ⟨_,?_,h3 hc⟩
   have:(c == b)=false:=by simpa using hc
   rw [this]
 ·have hw:wantE es p b=some false:=by unfold wantE; rw [h1]; rfl
  exact ⟨_,by unfold sG; rw [hw],h2⟩
theorem sw_g' {p:Pa} {b:Bool} {dst:Option Pa} {s:Stp} {call:CallT} {es:ES} {Q:ES→Prop} : SW (sG p b dst s) call es Q↔GW (rawE es (.t p)) b (SW s call es Q) (Q (es.putE dst (.v undef))):=by
 refine ⟨?_,sw_g⟩
 rintro ⟨es',h1,h2⟩
 unfold sG at h1
 obtain ⟨c,h3,h4⟩:=optR h1
 unfold wantE at h3
 obtain ⟨v,hv,h3⟩:=Ak3 h3
 cases v with
 | bool t=>
  refine .inl ⟨t,hv,fun e=>?_,fun e=>?_⟩
  ·have h5:some (t == b)=some c:=h3
   cases h5
   subst e
   simp only [beq_self_eq_true] at h4
   exact ⟨es',h4,h2⟩
  ·have h5:some (t == b)=some c:=h3
   cases h5
   have:(t == b)=false:=by simpa using e
   rw [this] at h4
   cases h4
   exact h2
 | tuple vs=>
  refine .inr ⟨vs,hv,?_⟩
  have h5:some false=some c:=h3
  cases h5
  cases h4
  exact h2
 | _=>cases h3
theorem gw_b {c b:Bool} {A B:Prop} : GW (.v (.bool c)) b A B↔(c=b→A)∧(c≠b→B):=by
 constructor
 ·rintro (⟨c',h1,h2⟩ | ⟨vs,h1,_⟩)
  ·cases h1; exact h2
  ·cases h1
 ·exact fun h=>.inl ⟨c,rfl,h⟩
theorem gw_u {b:Bool} {A B:Prop} : GW (.v undef) b A B↔B:=by
 constructor
 ·rintro (⟨c',h1,h2⟩ | ⟨vs,_,h⟩)
  ·cases h1
  ·exact h
 ·exact fun h=>.inr ⟨_,rfl,h⟩
def pickD (c x y:DV):Option DV:=match c with
 | .v (.bool t)=>some (if t then x else y)
 | _=>none
theorem B76 (c x y:EO) (es:ES):xPick c x y es=pickD (rawE es c) (rawE es x) (rawE es y):=by
 unfold xPick
 cases rawE es c with
 | v a=>cases a <;> first | rfl | (rename_i t; cases t <;> rfl)
 | _=>rfl
theorem B77 (t:Bool) (x y:DV):pickD (.v (.bool t)) x y=some (if t then x else y):=rfl
def unD (op:UnOp) (x:DV):Option DV:=match x with
 | .v v=>(unV op (.v v)).map .v
 | _=>none
theorem x_un (op:UnOp) (x:EO) (es:ES):xUn op x es=unD op (rawE es x):=by
 unfold xUn
 cases rawE es x with
 | v a=>
  show outV _=_
  rw [A17]; rfl
 | _=>rfl
noncomputable def callG (rel:Nat→List DV→Option DV):CallT:=fun tg ds hp nx=>match tg with
 | .fn f=>match rel f ds with
  | some d=>some (d,hp,nx)
  | none=>none
 | .yl _=>none
theorem Bg6 {P:Program} {rel:Nat→List DV→Option DV} (h:∀ f ds d,rel f ds=some d→Known P f ds d):Ad3 P (callG rel):=by
 intro tg ds hp nx d hp' nx' hc _
 cases tg with
 | yl id=>cases hc
 | fn f=>
  have hc':(match rel f ds with
   | some d=>some (d,hp,nx)
   | none=>none)=some (d,hp',nx'):=hc
  split at hc'
  ·rename_i d0 hd
   cases hc'
   obtain ⟨k1,k2,k3⟩:=h f ds d hd
   exact ⟨Nat.le_refl _,fun id h2 h3=>absurd h2 h3,k1,fun sv K hK=>.inr ⟨_,k2,k3,hK⟩⟩
  ·cases hc'
theorem Known.of {P:Program} (hm:P.follows .mixedOrders=true) {tb:Nat→Option FE} {n':Nat} (htb:TbOK P n' tb) {f:Nat} {fe:FE} {args:List DV} {r:DV} {call:CallT} (hc:Ad3 P call) (hf:tb f=some fe) (hn:args.length≤fe.nt) (hr:∀ x∈args,x.refs=[])
  (h:EW fe.run call ⟨argT args,.e,0⟩ fun e es=>(e=.normal∨e=.ret)∧∃ d,finE fe.res es=some (d,es.hp,es.nx)∧rz es.hp.get 6 d=some r):Known P f args r:=by
 obtain ⟨e,es,h1,h2,d,h3,h4⟩:=h
 have hs:stepC tb 0 call (.fn f) args .e 0=some (d,es.hp,es.nx):=by
  show (match tb f with
   | some fe=>if args.length≤fe.nt then match fe.run call ⟨argT args,.e,0⟩ with
     | some (.normal,es)=>finE fe.res es
     | some (.ret,es)=>finE fe.res es
     | _=>none
    else none
   | none=>none)=some (d,es.hp,es.nx)
  rw [hf]
  simp only
  rw [if_pos hn,h1]
  rcases h2 with rfl | rfl
  ·exact h3
  ·exact h3
 obtain ⟨_,_,hcb,hI⟩:=At5 hm htb hc _ _ _ _ _ _ _ hs (fun id _=>by cases id <;> rfl)
 refine ⟨hcb,hr,DCall.of_callC (sv:=fun _=>.any) ?_⟩
 have:=hI (fun _=>.any) (fun s d=>∃ r',rz s.ho 6 d=some r'∧r'=r) ⟨r,h4,rfl⟩
 have e:(Tr.e:Tr DObj).get=fun _=>none:=by funext id; cases id <;> rfl
 rw [e] at this
 exact this
theorem Ch1 {ho:Nat→Option DObj} {n:Nat} {d:DV} (h:d.flat=true):rz ho (n+1) d=some d:=by
 cases d <;> first | rfl | (simp [DV.flat] at h)
theorem Known.run1 {P:Program} (hm:P.follows .mixedOrders=true) {tb:Nat→Option FE} {n':Nat} (htb:TbOK P n' tb) {f t:Nat} {c:CE} {nt:Nat} {args:List DV} {r:DV} {call:CallT} (hc:Ad3 P call) (hf:tb f=some ⟨c,[(t,none)],nt⟩) (hn:args.length≤nt) (hr:∀ x∈args,x.refs=[]) (hrr:r.refs=[]) (hz:∀ ho,rz ho 6 r=some r)
  (h:∀ es,Ent es args→EW c call es fun e es'=>(e=.normal∨e=.ret)∧rawE es' (.t (pth t))=r):Known P f args r:=
 Known.of hm htb hc hf hn hr ((h _ (Bq7 args .e 0)).mono fun _ _ ⟨h1,h2⟩=>⟨h1,r,fin1 h2 hrr,hz _⟩)
end Go.DD

/- The evaluator, read with symbols: steps that lay or write; loops counted upwards; contracts by families. -/
namespace Go.DD
open Go
theorem EW.up {c:CE} {call:CallT} {Q:Exit→ES→Prop} (n:Nat) (St:Nat→ES→Prop) (step:∀ i es,i≤n→St i es→EW c call es (thenE (fun es1=>i < n∧St (i+1) es1) Q)) {k:Nat} {es:ES} (h0:St 0 es) (hk:n < k):EW (cL k c) call es Q:=
 EW.l (I:=fun m es=>∃ i,m=n - i∧i≤n∧St i es) (by
  rintro m es ⟨i,rfl,hi,hs⟩
  refine (step i es hi hs).mono fun e es1 h=>?_
  cases e with
  | normal=>obtain ⟨hlt,hs1⟩:=h; exact ⟨n - (i+1),by omega,i+1,rfl,by omega,hs1⟩
  | _=>exact h) n k es ⟨0,rfl,by omega,h0⟩ hk
def UW (x:Option (DV×Upd)) (K:DV→Upd→Prop):Prop:=∃ d u,x=some (d,u)∧K d u
theorem Ao4 {d:DV} {u:Upd} {K:DV→Upd→Prop} : UW (some (d,u)) K↔K d u:=⟨fun ⟨_,_,h1,h2⟩=>(by cases h1; exact h2),fun h=>⟨d,u,rfl,h⟩⟩
noncomputable def ES.up (es:ES) (u:Upd):ES:=⟨es.sl,updE es.hp es.nx u,if u.new then es.nx+1 else es.nx⟩
theorem Ai5 (es:ES) (o:DObj):es.up (.lay o)=⟨es.sl,setN es.hp es.nx (some o),es.nx+1⟩:=rfl
theorem up_wr (es:ES) (id:Nat) (o:DObj):es.up (.wr id o)=⟨es.sl,setN es.hp id (some o),es.nx⟩:=rfl
theorem B78 (es:ES) (o:DObj):es.up (.mv none o)=⟨es.sl,setN es.hp es.nx (some o),es.nx+1⟩:=rfl
theorem B79 (es:ES) (i:Nat) (o:DObj):es.up (.mv (some i) o)=⟨es.sl,setN (setN es.hp i none) es.nx (some o),es.nx+1⟩:=rfl
theorem sw_u {dst:Option Pa} {x:XU} {call:CallT} {es:ES} {Q:ES→Prop} : SW (sU dst x) call es Q↔UW (x es es.nx) fun d u=>Q ((es.up u).putE dst d):=by
 have key:∀ d u,x es es.nx=some (d,u)→sU dst x call es=some ((es.up u).putE dst d):=by
  intro d u h
  unfold sU
  rw [h]
  show es.cs (fun sl hp nx=>iteB u.new (Af2 (nx+1) fun n=>some ((ES.mk sl (updE hp nx u) n).putE dst d)) (some ((ES.mk sl (updE hp nx u) nx).putE dst d)))=_
  rw [cs_eq,Ab6,Ab2]
  unfold ES.up
  cases u.new <;> rfl
 constructor
 ·rintro ⟨es',h1,h2⟩
  cases hx:x es es.nx with
  | none=>
   have:sU dst x call es=none:=by unfold sU; rw [hx]
   rw [this] at h1; cases h1
  | some p=>
   obtain ⟨d,u⟩:=p
   rw [key d u hx] at h1
   cases h1
   exact ⟨d,u,rfl,h2⟩
 ·rintro ⟨d,u,h1,h2⟩
  exact ⟨_,key d u h1,h2⟩
theorem x_any (o:DOp) (es:ES) (nid:Nat):xAny o es nid=execU nid es.ds o:=rfl
theorem get_set (t:Tr DObj) (k j:Nat) (v:Option DObj):(setN t k v).get j=if j=k then v else t.get j:=by rw [As9]
theorem Ah7 (hp:Tr DObj) (v:Value):liveE hp (.v v)=.v v:=Ac9 rfl
theorem Bq9 (hp:Tr DObj) (cs:List DV) (n:Nat):liveE hp (.sl cs n)=.sl cs n:=Ac9 rfl
theorem Br0 (hp:Tr DObj) (cs:List DV):liveE hp (.ia cs)=.ia cs:=Ac9 rfl
theorem Ag1 {hp:Tr DObj} {d:DV} (h:∀ id∈d.refs,(hp.get id).isSome=true):liveE hp d=d:=by
 unfold liveE
 rw [Ak2,Av9,Ab2,if_pos]
 rw [List.all_eq_true]
 intro id hi
 rw [Af3,gN_eq]
 exact h id hi
theorem Am2 {hp:Tr DObj} {id off n es:Nat} {o:DObj} (h:hp.get id=some o):liveE hp (.ms id off n es)=.ms id off n es:=Ag1 fun i hi=>by
 have:i=id:=by simpa [DV.refs] using hi
 rw [this,h]; rfl
theorem Ar0 {hp:Tr DObj} {id off:Nat} {o:DObj} (h:hp.get id=some o):liveE hp (.pt id off)=.pt id off:=Ag1 fun i hi=>by
 have:i=id:=by simpa [DV.refs] using hi
 rw [this,h]; rfl
theorem Ch2 {hp:Tr DObj} {id:Nat} {o:DObj} (h:hp.get id=some o):liveE hp (.mp id)=.mp id:=Ag1 fun i hi=>by
 have:i=id:=by simpa [DV.refs] using hi
 rw [this,h]; rfl
def lnsD:DV→Option DV
 | .v (.string b)=>some (.v (.int .i64 b.size))
 | _=>none
def ixsD:DV→DV→Option DV
 | .v (.string b),.v (.int _ j)=>if 0≤j then (b[j.toNat]?).map fun c=>.v (.int .u8 (c.toNat:Int)) else none
 | _,_=>none
def keepU (x:Option DV):Option (DV×Upd):=x.map fun d=>(d,.keep)
theorem Br1 {d:DV} {K:DV→Upd→Prop} : UW (keepU (some d)) K↔K d .keep:=Ao4
theorem x_lns {t:Nat} {es:ES} {nid:Nat} : xAny (.lns (.tmp t)) es nid=keepU (lnsD (liveE es.hp (rawE es (.t (pth t))))):=by
 rw [x_any,← Ao3]
 simp only [execU]
 cases es.ds.ev (.tmp t) with
 | v x=>cases x <;> rfl
 | _=>rfl
theorem x_ixs {t u:Nat} {es:ES} {nid:Nat} : xAny (.ixs (.tmp t) (.tmp u)) es nid=keepU (ixsD (liveE es.hp (rawE es (.t (pth t)))) (liveE es.hp (rawE es (.t (pth u))))):=by
 rw [x_any,← Ao3,← Ao3]
 simp only [execU]
 cases es.ds.ev (.tmp t) with
 | v x=>cases x <;> cases es.ds.ev (.tmp u) with
  | v y=>cases y <;> first | rfl | (simp only [intD,ixsD,keepU]; split <;> first | rfl | (cases ByteArray.get? _ _ <;> rfl) | (simp only [Option.map_map]; rfl))
  | _=>rfl
 | _=>cases es.ds.ev (.tmp u) with
  | v y=>cases y <;> rfl
  | _=>rfl
def s2bD:DV→Option DV
 | .v (.string b)=>some (.sl (b.data.toList.map fun c=>.v (.int .u8 (c.toNat:Int))) b.size)
 | _=>none
theorem x_s2b {t:Nat} {es:ES} {nid:Nat} : xAny (.s2b (.tmp t)) es nid=keepU (s2bD (liveE es.hp (rawE es (.t (pth t))))):=by
 rw [x_any,← Ao3]
 simp only [execU]
 cases es.ds.ev (.tmp t) with
 | v x=>cases x <;> rfl
 | _=>rfl
end Go.DD
