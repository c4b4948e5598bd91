/- Regions that draw their order, second part: the theorem. -/
import Derived.Test.YtnphfnhhpcelbaaGreatUc
namespace Go.DD
open Go.RowKit (Below)
theorem HoldsB.congr {C:Ctx} {U:Nat→Prop} {s s':DS} {β:Nat→Option Nat} {a:Act} {w:World} (h:HoldsB C U s β a w) (h1:s'.sv=s.sv) (h2:s'.ho=s.ho):HoldsB C U s' β a w:=by
 have e:s'.vw C=s.vw C:=by unfold DS.vw; rw [h2]
 obtain ⟨g1,g2,g3,g4,g5,g6⟩:=h
 exact ⟨by rw [e]; exact g1,g2,g3,by rw [e,h1]; exact g4,by rw [e]; exact g5,by rw [h2]; exact g6⟩
section
variable {C:Ctx} {rs:List DR} {s0:DS} {D:RG} {L L':Nat→Bool} {i k:Nat} {r:DR}
theorem A58 (hOK:D.OKs rs s0) {i j:Nat} (hi:i < rs.length) (h:anB rs i j=true):j < i:=by
 have key:∀ (i:Nat),i < rs.length→∀ j∈anR rs i,j < i:=by
  intro i
  induction i using Nat.strongRecOn with
  | _ i ih=>
   intro hi j hj
   have hil:i < (ancs rs []).length:=by rw [Au1]; simpa using hi
   have hr:rs[i]?=some rs[i]:=List.getElem?_eq_getElem hi
   have hl:(ancs rs [])[i]?=some (anR rs i):=by simp [anR,List.getElem?_eq_getElem hil]
   rcases A22 rs [] i rs[i] _ hr (fun k r' hk j hj=>by have:=hOK.pre k r' hk j hj; simp; omega) (by simpa using hl) j hj with h | ⟨x,hx,l',hl',hjx⟩
   ·exact hOK.pre i _ hr j h
   ·have h1:=hOK.pre i _ hr x hx
    have:=ih x h1 (by omega) j (by simp only [anR,hl',Option.getD_some]; exact hjx)
    omega
 exact key i hi j (by simpa [anB] using h)
theorem Az4 {tgt:Nat→Option Nat} {L:Nat→Bool} {j:Nat} : ∀ {n w:Nat},lastW tgt L j n=some w→w < n∧tgt w=some j∧L w=true
 | 0,w,h=>by cases h
 | n+1,w,h=>by
  simp only [lastW] at h
  split at h
  ·rename_i hc; cases h; exact ⟨by omega,hc.1,hc.2⟩
  ·have:=Az4 h; exact ⟨by omega,this.2⟩
theorem Ai5 {tgt:Nat→Option Nat} {L L':Nat→Bool} {j:Nat} : ∀ {n:Nat},(∀ w,w < n→tgt w=some j→L' w=L w)→lastW tgt L' j n=lastW tgt L j n
 | 0,h=>rfl
 | n+1,h=>by
  simp only [lastW]
  rw [Ai5 (n:=n) fun w hw=>h w (by omega)]
  by_cases ht:tgt n=some j
  ·rw [h n (by omega) ht]
  ·simp [ht]
theorem A59 {tgt:Nat→Option Nat} {L:Nat→Bool} {j i:Nat} (ht:tgt i=some j) (hL:L i=true):∀ {n:Nat},i < n→(∀ w,w < n→i < w→tgt w=some j→L w=false)→lastW tgt L j n=some i
 | 0,h,_=>by omega
 | n+1,h,hl=>by
  simp only [lastW]
  by_cases hn:i=n
  ·subst hn; rw [if_pos ⟨ht,hL⟩]
  ·have hc:¬ (tgt n=some j∧L n=true):=fun ⟨h1,h2⟩=>by rw [hl n (by omega) (by omega) h1] at h2; cases h2
   rw [if_neg hc]
   exact A59 ht hL (by omega) fun w hw=>hl w (by omega)
theorem Bc9 {L:Nat→Bool} {j:Nat} (h:(D.lay j).isSome=true):(D.cur rs L j).isSome=true:=by
 unfold RG.cur
 split
 ·rfl
 ·exact h
structure Done (rs:List DR) (D:RG) (L:Nat→Bool) (k:Nat):Prop where
 cl:∀ i,i < rs.length→L i=true→∀ j,anB rs i j=true→L j=true
 le:k≤D.main.length
 mn:∀ (q j:Nat),D.main[q]?=some j→(L j=true↔q < k)
variable (hOK:D.OKs rs s0) (hD:Done rs D L k) (hr:rs[i]?=some r) (hi:L i=false) (han:∀ j,anB rs i j=true→L j=true)
include hOK hr
omit hOK in
theorem ri_lt:i < rs.length:=(List.getElem?_eq_some_iff.1 hr).1
include hD hi han
omit hr in
theorem A23:D.may rs i k:=by
 refine ⟨hD.le,fun q j hq hj=>?_,fun q j hq hj=>?_⟩
 ·cases h:anB rs j i with
  | false=>rfl
  | true=>have:=hD.cl j (hOK.mlt q j hj).1 ((hD.mn q j hj).2 hq) i h; rw [hi] at this; cases this
 ·cases h:anB rs i j with
  | false=>rfl
  | true=>have:=(hD.mn q j hj).1 (han j h); omega
omit hr in
theorem Au2 {k0:Nat} (h:D.main[k0]?=some i):k0=k:=by
 have h1:¬ k0 < k:=fun hlt=>by have:=(hD.mn k0 i h).2 hlt; rw [hi] at this; cases this
 rcases Nat.lt_or_ge k k0 with hlt | hge
 ·have hk:k < D.main.length:=by have:=(List.getElem?_eq_some_iff.1 h).1; omega
  have hm:D.main[k]?=some D.main[k]:=List.getElem?_eq_getElem hk
  have:=(hD.mn k _ hm).1 (han _ (hOK.chain k k0 _ _ hm h hlt))
  omega
 ·omega
theorem Bd0 (t:Nat) (ht:t∈r.tmps):D.sv rs s0 L t=D.sv rs s0 (anB rs i) t:=by
 unfold RG.sv
 cases hp:rs.findIdx? (fun r=>r.dst == some t) with
 | none=>rfl
 | some p=>
  simp only
  have hpl:p < rs.length:=(List.findIdx?_eq_some_iff_findIdx_eq.1 hp).1
  rcases hOK.rd i r t p hr ht hp with h | h | rfl
  ·rw [if_pos (han p h),if_pos h]
  ·have h1:anB rs i p=false:=by
    cases hx:anB rs i p with
    | false=>rfl
    | true=>
     have h2:=A58 hOK (ri_lt hr) hx
     have h3:=A58 hOK hpl h
     omega
   have h2:L p=false:=by
    cases hx:L p with
    | false=>rfl
    | true=>have:=hD.cl p hpl hx i h; rw [hi] at this; cases this
   rw [h1,h2]
  ·have h1:anB rs p p=false:=by
    cases hx:anB rs p p with
    | false=>rfl
    | true=>have:=A58 hOK (ri_lt hr) hx; omega
   rw [h1,hi]
theorem Bd1 {j:Nat} (ha:anB rs i j=true):D.cur rs (anB rs i) j=D.cur rs L j:=by
 unfold RG.cur
 rw [Ai5 (L:=L) (L':=anB rs i) fun w hw ht=>?_]
 rcases hOK.wr2 i j w (ri_lt hr) hw ha ht with h | h | rfl
 ·rw [h,han w h]
 ·have h1:L w=false:=by
   cases hx:L w with
   | false=>rfl
   | true=>have:=hD.cl w hw hx i h; rw [hi] at this; cases this
  have h2:anB rs i w=false:=by
   cases hx:anB rs i w with
   | false=>rfl
   | true=>have:=han w hx; rw [h1] at this; cases this
  rw [h1,h2]
 ·have h2:anB rs w w=false:=by
   cases hx:anB rs w w with
   | false=>rfl
   | true=>have:=A58 hOK hw hx; omega
  rw [h2,hi]
theorem Bd2 {id:Nat} {o:DObj} (h:D.full rs s0 (anB rs i) k id=some o):D.full rs s0 L k id=some o:=by
 unfold RG.full at h ⊢
 split at h
 ·rename_i j hj
  split at h
  ·rename_i ha; rw [if_pos (han j ha),← Bd1 hOK hD hr hi han ha]; exact h
  ·cases h
 ·exact h
theorem Bk3:(D.at_ rs s0 L k).wanted r.g=(D.st rs s0 i 0).wanted r.g:=by
 unfold DS.wanted
 cases hg:r.g with
 | none=>rfl
 | some p=>
  obtain ⟨t,b⟩:=p
  have:=Bd0 hOK hD hr hi han t (by simp [DR.tmps,hg])
  simp only [RG.st,RG.at_,this]
theorem Aq4 (hl:liveR (D.st rs s0 i k) r):Agree r.op (D.st rs s0 i k) (D.at_ rs s0 L k):=by
 have hev:∀ x∈r.op.opnds,(D.at_ rs s0 L k).ev x=(D.st rs s0 i k).ev x:=fun x hx=>by
  cases x with
  | tmp t=>
   have h1:D.sv rs s0 L t=D.sv rs s0 (anB rs i) t:=Bd0 hOK hD hr hi han t (by
    simp only [DR.tmps,List.mem_append,List.mem_filterMap]
    exact .inl ⟨_,hx,rfl⟩)
   have h2:=hl t hx
   have h3:(D.at_ rs s0 L k).live ((D.at_ rs s0 L k).sv t)=true:=by
    have e:(D.at_ rs s0 L k).sv t=(D.st rs s0 i k).sv t:=h1
    rw [e]
    refine List.all_eq_true.2 fun id hid=>?_
    have h4:=List.all_eq_true.1 h2 id hid
    obtain ⟨o,ho⟩:=Option.isSome_iff_exists.1 h4
    have:=Bd2 hOK hD hr hi han (id:=id) (o:=o) ho
    show (D.full rs s0 L k id).isSome=true
    rw [this]; rfl
   simp only [DS.ev]
   rw [if_pos h3,if_pos h2]
   exact h1
  | _=>rfl
 have hrv:∀ x∈r.op.opnds,(D.at_ rs s0 L k).rv x=(D.st rs s0 i k).rv x:=fun x hx=>by
  cases x with
  | tmp t=>exact Bd0 hOK hD hr hi han t (by
    simp only [DR.tmps,List.mem_append,List.mem_filterMap]
    exact .inl ⟨_,hx,rfl⟩)
  | _=>rfl
 refine ⟨hev,hrv,fun _ x hx id hid=>?_⟩
 have h4:=HoldsB.eva (s:=D.st rs s0 i k) x id hid
 obtain ⟨o,ho⟩:=Option.isSome_iff_exists.1 h4
 have:=Bd2 hOK hD hr hi han (id:=id) (o:=o) ho
 exact this.trans ho.symm
omit hD hi han in
theorem Bo0 (hL':∀ j,L' j=(j == i || L j)) (k':Nat) (s:DS) (hs:s.sv=D.sv rs s0 L) (hh:s.ho=D.full rs s0 L' k'):(D.at_ rs s0 L' k').sv=(s.put r.dst (D.d i)).sv∧(D.at_ rs s0 L' k').ho=(s.put r.dst (D.d i)).ho:=by
 refine ⟨?_,by rw [DS.ho_put,hh]; rfl⟩
 funext t
 show D.sv rs s0 L' t=_
 have hdst:∀ p,rs.findIdx? (fun r=>r.dst == some t)=some p→∃ r',rs[p]?=some r'∧r'.dst=some t:=fun p hp=>by
  obtain ⟨h1,h2⟩:=List.findIdx?_eq_some_iff_findIdx_eq.1 hp
  have h3:=List.findIdx_getElem (xs:=rs) (p:=fun r=>r.dst == some t) (w:=by omega)
  subst h2
  exact ⟨_,List.getElem?_eq_getElem h1,by simpa using h3⟩
 have hother:r.dst≠some t→D.sv rs s0 L' t=D.sv rs s0 L t:=fun hne=>by
  unfold RG.sv
  cases hp:rs.findIdx? (fun r=>r.dst == some t) with
  | none=>rfl
  | some p=>
   obtain ⟨r',h1,h2⟩:=hdst p hp
   have hpi:p≠i:=fun e=>by subst e; rw [hr] at h1; cases h1; exact hne h2
   simp [hL',hpi]
 cases hd:r.dst with
 | none=>
  rw [hother (by rw [hd]; simp)]
  show _=s.sv t
  rw [hs]
 | some u=>
  by_cases hu:u=t
  ·subst hu
   rw [DS.sv_put_same]
   unfold RG.sv
   cases hp:rs.findIdx? (fun r=>r.dst == some u) with
   | none=>
    have:=List.findIdx?_eq_none_iff.1 hp r (List.mem_of_getElem? hr)
    simp [hd] at this
   | some p=>
    obtain ⟨r',h1,h2⟩:=hdst p hp
    have:p=i:=hOK.dst p i r' r u h1 hr h2 hd
    subst this
    simp [hL']
  ·rw [DS.sv_put_other _ _ hu,hother (by rw [hd]; simpa using hu),hs]
omit hr hi han in
theorem Ba2 {j:Nat} (hj:D.lay j≠none) (hjl:j < rs.length) (hLj:L j=false):D.unp rs s0 k (s0.nx+j)=some j:=by
 unfold RG.unp
 have e:s0.nx+j - s0.nx=j:=by omega
 rw [e]
 rw [if_pos]
 refine ⟨by omega,by omega,Option.isSome_iff_ne_none.2 hj,?_⟩
 cases h:D.pr rs k j with
 | false=>rfl
 | true=>
  unfold RG.pr at h
  obtain ⟨q,hq,hqa⟩:=List.any_eq_true.1 h
  obtain ⟨p,hp,rfl⟩:=List.mem_iff_getElem.1 hq
  have hpk:p < k∧p < D.main.length:=by rw [List.length_take] at hp; omega
  have hm:D.main[p]?=some (D.main.take k)[p]:=by
   rw [List.getElem_take]; exact List.getElem?_eq_getElem hpk.2
  have:=hD.cl _ (hOK.mlt p _ hm).1 ((hD.mn p _ hm).2 hpk.1) j hqa
  rw [hLj] at this; cases this
omit hOK hD hr hi han in
theorem Ag7 {id j:Nat} (h:D.unp rs s0 k id=some j):id=s0.nx+j∧j < rs.length∧(D.lay j).isSome=true∧D.pr rs k j=false:=by
 unfold RG.unp at h
 split at h
 ·rename_i hc
  cases h
  exact ⟨by omega,by omega,hc.2.2.1,hc.2.2.2⟩
 ·cases h
omit hOK hD hr hi han in
theorem Au3 (hL':∀ j,L' j=(j == i || L j)) {j:Nat} (ht:D.tgt i≠some j):D.cur rs L' j=D.cur rs L j:=by
 unfold RG.cur
 rw [Ai5 (L:=L) (L':=L') fun w _ hw=>by
  have hwi:w≠i:=fun e=>ht (by rw [← e]; exact hw)
  rw [hL',beq_eq_false_iff_ne.2 hwi,Bool.false_or]]
omit han in
theorem Bd3 (hL':∀ j,L' j=(j == i || L j)) {o:DObj} (ho:D.lay i=some o) (ht:D.tgt i=none):D.full rs s0 L' k=setH (D.full rs s0 L k) (s0.nx+i) (some o):=by
 funext id
 by_cases hid:id=s0.nx+i
 ·subst hid
  rw [setH_same]
  unfold RG.full
  rw [Ba2 hOK hD (by rw [ho]; simp) (ri_lt hr) hi]
  have hc:D.cur rs L' i=some o:=by
   unfold RG.cur
   cases hl:lastW D.tgt L' i rs.length with
   | none=>exact ho
   | some w=>
    exfalso
    obtain ⟨h1,h2,h3⟩:=Az4 hl
    have hwi:w≠i:=fun e=>by rw [e,ht] at h2; cases h2
    rw [hL',beq_eq_false_iff_ne.2 hwi,Bool.false_or] at h3
    have:=hD.cl w h1 h3 i (hOK.wr1 w i h2)
    rw [hi] at this; cases this
  simp [hL',hc]
 ·rw [Ad8 _ _ hid]
  unfold RG.full
  cases hu:D.unp rs s0 k id with
  | none=>rfl
  | some j=>
   have hji:j≠i:=fun e=>hid (by rw [(Ag7 hu).1,e])
   simp only [Au3 hL' (j:=j) (by rw [ht]; simp)]
   simp [hL',hji]
theorem Bo1 (hL':∀ j,L' j=(j == i || L j)) {id0 j:Nat} (hu0:D.unp rs s0 k id0=some j) (ha:anB rs i j=true) (ht:D.tgt i=some j) (hlay:D.lay i=none):D.full rs s0 L' k=setH (D.full rs s0 L k) id0 (some (D.ob i)):=by
 funext id
 by_cases hid:id=id0
 ·subst hid
  rw [setH_same]
  unfold RG.full
  rw [hu0]
  have hLj:L' j=true:=by rw [hL',han j ha]; simp
  have hc:D.cur rs L' j=some (D.ob i):=by
   unfold RG.cur
   rw [A59 ht (by rw [hL']; simp) (ri_lt hr) fun w hw hiw hwt=>?_]
   rw [hL',beq_eq_false_iff_ne.2 (by omega),Bool.false_or]
   cases hx:L w with
   | false=>rfl
   | true=>
    rcases hOK.wr2 i j w (ri_lt hr) hw ha hwt with h | h | h
    ·have:=A58 hOK (ri_lt hr) h; omega
    ·have:=hD.cl w hw hx i h; rw [hi] at this; cases this
    ·omega
  simp [hLj,hc]
 ·rw [Ad8 _ _ hid]
  unfold RG.full
  cases hu:D.unp rs s0 k id with
  | none=>rfl
  | some j'=>
   have hjj:j'≠j:=fun e=>hid (by rw [(Ag7 hu).1,(Ag7 hu0).1,e])
   have hji:j'≠i:=fun e=>by have:=(Ag7 hu).2.2.1; rw [e,hlay] at this; cases this
   simp only [Au3 hL' (j:=j') (by rw [ht]; simpa using fun e=>hjj e.symm)]
   simp [hL',hji]
omit hOK hD hr hi han in
theorem Aq5 (hL':∀ j,L' j=(j == i || L j)) (ho:D.lay i=none) (ht:D.tgt i=none):D.full rs s0 L' k=D.full rs s0 L k:=by
 funext id
 unfold RG.full
 cases hu:D.unp rs s0 k id with
 | none=>rfl
 | some j=>
  have hji:j≠i:=fun e=>by have:=(Ag7 hu).2.2.1; rw [e,ho] at this; cases this
  simp only [Au3 hL' (j:=j) (by rw [ht]; simp)]
  simp [hL',hji]
omit hOK hD hr hi han in
theorem Ax5 (hm:D.main[k]?=some i) (j:Nat):D.pr rs (k+1) j=(D.pr rs k j || anB rs i j):=by
 unfold RG.pr
 rw [List.take_add_one,hm]
 simp
omit hOK hD hr hi han in
theorem Ax6 (hL':∀ j,L' j=(j == i || L j)) (hm:D.main[k]?=some i) (hlay:D.lay i=none) (ht:D.tgt i=none) (id:Nat):D.full rs s0 L' (k+1) id=match D.unp rs s0 k id with
  | some j=>if anB rs i j then D.H (k+1) id else if L j then D.cur rs L j else none
  | none=>D.H (k+1) id:=by
 cases hu:D.unp rs s0 k id with
 | none=>
  have:D.unp rs s0 (k+1) id=none:=by
   cases h:D.unp rs s0 (k+1) id with
   | none=>rfl
   | some j=>
    obtain ⟨e1,e2,e3,e4⟩:=Ag7 h
    rw [Ax5 hm,Bool.or_eq_false_iff] at e4
    have:D.unp rs s0 k id=some j:=by
     unfold RG.unp
     have e:id - s0.nx=j:=by omega
     rw [e,if_pos ⟨by omega,by omega,e3,e4.1⟩]
    rw [hu] at this; cases this
  unfold RG.full
  rw [this]
 | some j=>
  obtain ⟨e1,e2,e3,e4⟩:=Ag7 hu
  have e:id - s0.nx=j:=by omega
  simp only
  by_cases ha:anB rs i j=true
  ·rw [if_pos ha]
   have:D.unp rs s0 (k+1) id=none:=by
    unfold RG.unp
    rw [e,if_neg (fun hc=>by rw [Ax5 hm,ha] at hc; simp at hc)]
   unfold RG.full
   rw [this]
  ·rw [if_neg ha]
   have:D.unp rs s0 (k+1) id=some j:=by
    unfold RG.unp
    rw [e,if_pos ⟨by omega,by omega,e3,by rw [Ax5 hm,e4]; simpa using ha⟩]
   unfold RG.full
   rw [this]
   have hji:j≠i:=fun e=>by rw [e,hlay] at e3; cases e3
   simp only [Au3 hL' (j:=j) (by rw [ht]; simp)]
   simp [hL',hji]
theorem Ax7 (id:Nat):D.full rs s0 (anB rs i) k id=match D.unp rs s0 k id with
  | some j=>if anB rs i j then D.full rs s0 L k id else none
  | none=>D.full rs s0 L k id:=by
 unfold RG.full
 cases hu:D.unp rs s0 k id with
 | none=>rfl
 | some j=>
  simp only
  by_cases ha:anB rs i j=true
  ·rw [if_pos ha,if_pos ha,if_pos (han j ha),Bd1 hOK hD hr hi han ha]
  ·rw [if_neg ha,if_neg ha]
theorem Bd4 (hL':∀ j,L' j=(j == i || L j)) (hm:D.main[k]?=some i) (hlay:D.lay i=none) (ht:D.tgt i=none) {u:Upd} (hN:s0.nx+rs.length≤D.N k) (hU:(D.st rs s0 i k).hasU u=true)
  (hH:D.H (k+1)=u.app (D.N k) (D.st rs s0 i k).ho):D.full rs s0 L' (k+1)=u.app (D.N k) (D.full rs s0 L k):=by
 have hunpN:D.unp rs s0 k (D.N k)=none:=by
  unfold RG.unp
  rw [if_neg]
  intro hc; omega
 have hview:=Ax7 (D:=D) (rs:=rs) (s0:=s0) (L:=L) (k:=k) hOK hD hr hi han
 have hst:(D.st rs s0 i k).ho=D.full rs s0 (anB rs i) k:=rfl
 rw [hst] at hH
 funext id
 rw [Ax6 hL' hm hlay ht]
 have hbase:∀ id,(match D.unp rs s0 k id with
  | some j=>if anB rs i j then D.full rs s0 (anB rs i) k id else if L j then D.cur rs L j else none
  | none=>D.full rs s0 (anB rs i) k id)=D.full rs s0 L k id:=fun id=>by
  rw [hview id]
  cases hu:D.unp rs s0 k id with
  | none=>rfl
  | some j=>
   simp only
   by_cases ha:anB rs i j=true
   ·rw [if_pos ha,if_pos ha]
   ·rw [if_neg ha]; unfold RG.full; rw [hu]
 have hseen:∀ id0,(D.full rs s0 (anB rs i) k id0).isSome=true→∀ j,D.unp rs s0 k id0=some j→anB rs i j=true:=fun id0 h j hj=>by
  rw [hview,hj] at h
  simp only at h
  split at h
  ·assumption
  ·cases h
 -- a change at one number
 have hset:∀ (ho ho':Nat→Option DObj) (id0:Nat) (x:Option DObj),(∀ j,D.unp rs s0 k id0=some j→anB rs i j=true)→
   (∀ id,(match D.unp rs s0 k id with
    | some j=>if anB rs i j then ho id else if L j then D.cur rs L j else none
    | none=>ho id)=ho' id)→
   ∀ id,(match D.unp rs s0 k id with
    | some j=>if anB rs i j then setH ho id0 x id else if L j then D.cur rs L j else none
    | none=>setH ho id0 x id)=setH ho' id0 x id:=fun ho ho' id0 x h1 h2 id=>by
  by_cases he:id=id0
  ·subst he
   rw [setH_same,setH_same]
   cases hu:D.unp rs s0 k id with
   | none=>rfl
   | some j=>simp only; rw [if_pos (h1 j hu)]
  ·rw [Ad8 _ _ he,Ad8 _ _ he]; exact h2 id
 rw [hH]
 cases u with
 | keep=>exact hbase id
 | lay o=>exact hset _ _ _ _ (fun j hj=>by rw [hunpN] at hj; cases hj) hbase id
 | wr id0 o=>exact hset _ _ _ _ (hseen id0 hU) hbase id
 | mv old o=>
  cases old with
  | none=>exact hset _ _ _ _ (fun j hj=>by rw [hunpN] at hj; cases hj) hbase id
  | some id0=>exact hset _ _ _ _ (fun j hj=>by rw [hunpN] at hj; cases hj) (hset _ _ _ _ (hseen id0 hU) hbase) id
end
def Ur (C:Ctx) (rs:List DR) (s0:DS) (D:RG) (L:Nat→Bool) (k id:Nat):Prop:=id < D.N k∧¬ (C.R id∨(s0.nx≤id∧id < s0.nx+rs.length∧L (id - s0.nx)=false))
theorem N_ge {rs:List DR} {s0:DS} {D:RG} (hOK:D.OKs rs s0):∀ k,s0.nx+rs.length≤D.N k
 | 0=>by rw [hOK.n0]; omega
 | k+1=>Nat.le_trans (N_ge hOK k) (hOK.mono k)
theorem A60 {C:Ctx} {U:Nat→Prop} {a:Act} {w:World} {o:Oper} {d:DV} {s':DS} {next:Act→World→Prop} {Q:Exit→Act→World→Prop} (hnd:∀ c,o.op≠.defer c) (h:OpOk C U a w o d s')
  (hnext:∀ β' w' x,HoldsB C U s' β' a w'→WV C U (s'.vw C) β' w' x d→next (a.put o.dst x) w'):o.wpIn C.F 0 C.P a w next Q:=by
 obtain ⟨nx,w',β',x,h1,h2,h3,h4⟩:=h
 refine ⟨fun _ _=>trivial,?_⟩
 rw [Oper.semAt_plain _ _ _ hnd,h1]
 rcases h2 with rfl | ⟨rfl,rfl⟩
 ·exact hnext β' w' x h3 h4
 ·exact hnext β' w' undef h3 h4
theorem A61 {C:Ctx} {a:Act} {w:World} {o:Oper} {f:FuncId} {vs:Array Value} {R:Ending→World→Prop} {next:Act→World→Prop} {Q:Exit→Act→World→Prop} (hnd:∀ c,o.op≠.defer c)
  (hrun:(execOp a.eval o).run C.P w=.ok (.enter f vs) w) (hc:Calls C.P f vs w R) (hnext:∀ e w',R e w'→∃ v,e=.returned v∧next (a.put o.dst v) w'):o.wpIn C.F 0 C.P a w next Q:=by
 refine ⟨fun _ _=>trivial,?_⟩
 rw [Oper.semAt_plain _ _ _ hnd,hrun,Oper.uponIn_enter]
 refine ⟨fun h=>by simp [Ctx.F,Fence.wide] at h,A17 (hc.mono ?_)⟩
 intro e w' h
 obtain ⟨v,rfl,hn⟩:=hnext e w' h
 exact hn
theorem By6 {C:Ctx} {rs:List DR} {s0:DS} {D:RG} {L L':Nat→Bool} {i k:Nat} {r:DR} {ops:Array Oper} {o:Oper} {a:Act} {w:World} {β:Nat→Option Nat} {next:Act→World→Prop} {Q:Exit→Act→World→Prop}
  (hOK1:D.OK rs s0 C.P) (hD:Done rs D L k) (hr:rs[i]?=some r) (hi:L i=false) (han:∀ j,anB rs i j=true→L j=true) (hL':∀ j,L' j=(j == i || L j)) (hR:∀ id,C.R id→id < s0.nx)
  (hc:compR C.P C.nt true ops o=some r) (hs:HoldsB C (Ur C rs s0 D L k) (D.at_ rs s0 L k) β a w)
  (hnext:∀ k' β' a' w',Done rs D L' k'→HoldsB C (Ur C rs s0 D L' k') (D.at_ rs s0 L' k') β' a' w'→next a' w') :
  ∃ b,Region.wanted o (yielded ops a.tmps)=b∧(b=true→o.wpIn C.F 0 C.P a w next Q)∧(b=false→next (a.put o.dst undef) w):=by
 obtain ⟨hd,hdlt,hop⟩:=A20 hc
 have hOK:=hOK1.toOKs
 have hev:=hOK1.ev i r hr
 unfold RG.ev at hev
 rw [← Bk3 hOK hD hr hi han (k:=k)] at hev
 have hUgrow:∀ k',D.N k≤D.N k'→∀ id,Ur C rs s0 D L k id→Ur C rs s0 D L' k' id:=fun k' hk id ⟨h1,h2⟩=>by
  refine ⟨by omega,fun h=>h2 ?_⟩
  rcases h with h | ⟨g1,g2,g3⟩
  ·exact .inl h
  ·refine .inr ⟨g1,g2,?_⟩
   rw [hL'] at g3
   exact (Bool.or_eq_false_iff.1 g3).2
 have hDfree:i∉D.main→Done rs D L' k:=fun hn=>by
  refine ⟨fun j hj hLj x hx=>?_,hD.le,fun q j hq=>?_⟩
  ·rw [hL'] at hLj ⊢
   rcases Bool.or_eq_true_iff.1 hLj with h | h
   ·have:j=i:=by simpa using h
    subst this
    rw [han x hx]; simp
   ·rw [hD.cl j hj h x hx]; simp
  ·have hji:j≠i:=fun e=>hn (by rw [← e]; exact List.mem_of_getElem? hq)
   rw [hL']; simp only [beq_eq_false_iff_ne.2 hji,Bool.false_or]
   exact hD.mn q j hq
 have hDmain:D.main[k]?=some i→Done rs D L' (k+1):=fun hm=>by
  refine ⟨fun j hj hLj x hx=>?_,by have:=(List.getElem?_eq_some_iff.1 hm).1; omega,fun q j hq=>?_⟩
  ·rw [hL'] at hLj ⊢
   rcases Bool.or_eq_true_iff.1 hLj with h | h
   ·have:j=i:=by simpa using h
    subst this
    rw [han x hx]; simp
   ·rw [hD.cl j hj h x hx]; simp
  ·rw [hL']
   by_cases hji:j=i
   ·subst hji
    have:q=k:=Au2 hOK hD hi han hq
    simp; omega
   ·simp only [beq_eq_false_iff_ne.2 hji,Bool.false_or]
    rw [hD.mn q j hq]
    have:q≠k:=fun e=>hji (by rw [e,hm] at hq; exact (Option.some.inj hq).symm)
    omega
 -- what the next state is
 have hput:∀ (k':Nat) (s':DS) (β':Nat→Option Nat) (w':World) (x:Value),Done rs D L' k'→s'.sv=D.sv rs s0 L→s'.ho=D.full rs s0 L' k'→HoldsB C (Ur C rs s0 D L' k') s' β' a w'→WV C (Ur C rs s0 D L' k') (s'.vw C) β' w' x (D.d i)→next (a.put o.dst x) w':=
  fun k' s' β' w' x h1 h2 h3 h4 h5=>by
   rw [← hd]
   obtain ⟨e1,e2⟩:=Bo0 hOK hr hL' k' s' h2 h3
   exact hnext k' β' _ w' h1 ((h4.put r.dst hdlt h5).congr e1 e2)
 cases hw:(D.at_ rs s0 L k).wanted r.g with
 | none=>rw [hw] at hev; exact hev.elim
 | some b=>
  refine ⟨b,Ax2 hs hc hw,fun hb=>?_,fun hb=>?_⟩
  ·subst hb
   rw [hw] at hev
   simp only at hev
   have hnd:∀ c,o.op≠.defer c:=fun c hcd=>by
    rw [hcd,At2] at hop
    simp only [Option.getD_none] at hop
    rw [hop] at hev
    simp only [execU] at hev
    rcases hev with ⟨k,u,h⟩ | ⟨h1,h2⟩
    ·simp at h
    ·obtain ⟨_,u,h,_⟩:=h2 k (A23 hOK hD hi han)
     cases h
   -- calls
   have hcallM:∀ (f:FuncId) (vs:List Value) (ds:List DV),D.main[k]?=some i→vs.length=ds.length→(∀ (j:Nat) (v:Value) (d:DV),vs[j]?=some v→ds[j]?=some d→WV C (Ur C rs s0 D L k) ((D.at_ rs s0 L k).vw C) β w v d)→
     callM C.P f ds (D.st rs s0 i k) (D.d i) (D.H (k+1)) (D.N (k+1))→(Ac6 C.P f=true→(execOp a.eval o).run C.P w=.ok (.enter f vs.toArray) w)→o.wpIn C.F 0 C.P a w next Q:=by
    intro f vs ds hm hl hrel ⟨hcb,hcm⟩ hrun
    have hlay:=(hOK.mlt k i hm).2.1
    have hta:=(hOK.mlt k i hm).2.2
    rcases hcm with hcm | ⟨hH,hN,himm,hcall⟩
    ·
     let hid:Nat→Option DObj:=fun id=>match D.unp rs s0 k id with
      | some j=>if L j=true∧anB rs i j=false then D.cur rs L j else none
      | none=>none
     have hsplit:(D.at_ rs s0 L k).ho=vwF hid (D.full rs s0 (anB rs i) k):=by
      funext id
      show D.full rs s0 L k id=_
      unfold vwF
      rw [Ax7 (L:=L) hOK hD hr hi han]
      simp only [hid]
      cases hu:D.unp rs s0 k id with
      | none=>simp only; cases D.full rs s0 L k id <;> rfl
      | some j=>
       simp only
       by_cases ha:anB rs i j=true
       ·rw [if_pos ha]
        have:D.full rs s0 L k id=D.cur rs L j:=by unfold RG.full; rw [hu]; simp [han j ha]
        rw [this]
        obtain ⟨o',ho'⟩:=Option.isSome_iff_exists.1 (Bc9 (rs:=rs) (L:=L) (Ag7 hu).2.2.1)
        rw [ho']
       ·rw [if_neg ha]
        simp only
        unfold RG.full; rw [hu]
        have ha':anB rs i j=false:=by simpa using ha
        simp [ha']
     have hdis:∀ id o,hid id=some o→D.full rs s0 (anB rs i) k id=none:=fun id o' h=>by
      simp only [hid] at h
      split at h
      ·rename_i j hu
       split at h
       ·rename_i hc'
        unfold RG.full; rw [hu]; simp [hc'.2]
       ·cases h
      ·cases h
     have hcl:=Bc5 (vis:=D.full rs s0 (anB rs i) k) (hid:=hid) (R:=fun id=>C.R id∨(s0.nx≤id∧id < s0.nx+rs.length∧L (id - s0.nx)=false)) (K:=fun s' d'=>d'=D.d i∧s'.ho=D.H (k+1)∧s'.nx=D.N (k+1)) (f:=f) (ds:=ds) (vs:=vs)
      hs (fun _=>Iff.rfl) (fun id h=>by
       have:=N_ge hOK k
       show id < D.N k
       rcases h with h | h
       ·have:=hR id h; omega
       ·omega) hsplit hdis hl hrel hcm
     refine A61 hnd (hrun hcb) hcl ?_
     rintro e w' ⟨v,d,ho',nx',β',rfl,⟨rfl,hho,hnx⟩,hhid,_,hh,hv⟩
     simp only at hho hnx
     subst hho hnx
     refine ⟨v,rfl,?_⟩
     have hg:∀ id,(id < D.N (k+1)∧¬ (C.R id∨(s0.nx≤id∧id < s0.nx+rs.length∧L (id - s0.nx)=false)))→Ur C rs s0 D L' (k+1) id:=fun id ⟨h1,h2⟩=>
      ⟨h1,fun h=>h2 (h.imp_right fun ⟨g1,g2,g3⟩=>⟨g1,g2,by rw [hL'] at g3; exact (Bool.or_eq_false_iff.1 g3).2⟩)⟩
     refine hput (k+1) ⟨D.sv rs s0 L,vwF hid (D.H (k+1)),D.N (k+1)⟩ β' w' v (hDmain hm) rfl ?_ (hh.grow hg) (hv.grow hg)
     funext id
     rw [Ax6 hL' hm hlay hta]
     show vwF hid (D.H (k+1)) id=_
     unfold vwF
     cases hu:D.unp rs s0 k id with
     | none=>
      have:hid id=none:=by simp only [hid,hu]
      rw [this]; simp only; cases D.H (k+1) id <;> rfl
     | some j=>
      simp only
      by_cases ha:anB rs i j=true
      ·rw [if_pos ha]
       have:hid id=none:=by simp only [hid,hu,ha]; simp
       rw [this]; cases D.H (k+1) id <;> rfl
      ·have ha':anB rs i j=false:=by simpa using ha
       have hidv:hid id=if L j=true then D.cur rs L j else none:=by simp only [hid,hu,ha',and_true]
       rw [if_neg ha,hidv]
       by_cases hLj:L j=true
       ·obtain ⟨o',ho'⟩:=Option.isSome_iff_exists.1 (Bc9 (rs:=rs) (L:=L) (Ag7 hu).2.2.1)
        have:=hhid id o' (by rw [hidv,if_pos hLj,ho'])
        rw [this]
       ·have hnone:(⟨D.sv rs s0 L,vwF hid (D.H (k+1)),D.N (k+1)⟩:DS).vw C id=none:=hh.hh.fr id fun h=>h.2 (.inr ⟨by have:=(Ag7 hu).1; omega,by have:=Ag7 hu; omega,by
         have e:id - s0.nx=j:=by have:=(Ag7 hu).1; omega
         rw [e]; simpa using hLj⟩)
        have:D.H (k+1) id=none:=by
         simp only [DS.vw,vwF] at hnone
         cases hx:D.H (k+1) id with
         | none=>rfl
         | some y=>rw [hx] at hnone; cases hnone
        rw [this]
    ·
     refine A61 hnd (hrun hcb) (Ba0 (R:=fun d'=>d'=D.d i) hs hl (fun j v d hv hd=>?_) hcall) ?_
     ·have h0:=himm d (List.mem_of_getElem? hd)
      exact A19 ((hrel j v d hv hd).2.1 fun id hid=>by rw [h0] at hid; cases hid) h0
     ·rintro e w' ⟨v,d,rfl,rfl,hh,hv⟩
      refine ⟨v,rfl,?_⟩
      have hN':D.N k≤D.N (k+1):=hOK.mono k
      have hf:=Bd4 (L:=L) (L':=L') (u:=.keep) hOK hD hr hi han hL' hm hlay hta (N_ge hOK k) rfl hH
      exact hput (k+1) (D.at_ rs s0 L k) β w' v (hDmain hm) rfl hf.symm (hh.grow (hUgrow _ hN')) (hv.grow (hUgrow _ hN'))
   have hargs:∀ (args:List Operand),(∀ x∈args,x∈r.op.opnds)→liveR (D.st rs s0 i k) r→∀ (j:Nat) (v:Value) (d:DV),(args.map a.eval)[j]?=some v→(args.map (D.st rs s0 i k).rv)[j]?=some d→WV C (Ur C rs s0 D L k) ((D.at_ rs s0 L k).vw C) β w v d:=by
    intro args hsub hlv j v d hv hdd
    simp only [List.getElem?_map,Option.map_eq_some_iff] at hv hdd
    obtain ⟨x,hx,rfl⟩:=hv
    obtain ⟨y,hy,rfl⟩:=hdd
    rw [hx] at hy; cases hy
    rw [← (Aq4 hOK hD hr hi han hlv).rv x (hsub x (List.mem_of_getElem? hx))]
    exact hs.rvw x
   cases hcc:Aj4 C.P o.op with
   | none=>
    exfalso
    rw [hcc] at hop
    simp only [Option.getD_none] at hop
    rw [hop] at hev
    rcases hev with ⟨k,u,h⟩ | ⟨h1,h2⟩
    ·simp [execU] at h
    ·obtain ⟨_,u,h,_⟩:=h2 k (A23 hOK hD hi han)
     cases h
   | some op=>
    rw [hcc] at hop
    simp only [Option.getD_some] at hop
    -- operations that are no calls
    have hsimple:((∃ k u,D.main[k]?=some i∧liveR (D.st rs s0 i k) r∧(D.st rs s0 i k).hasU u=true∧execU (D.N k) (D.st rs s0 i k) op=some (D.d i,u)∧D.H (k+1)=u.app (D.N k) (D.st rs s0 i k).ho∧D.N (k+1)=if u.new then D.N k+1 else D.N k)∨
      (i∉D.main∧∀ k,D.may rs i k→liveR (D.st rs s0 i k) r∧∃ u,execU (s0.nx+i) (D.st rs s0 i k) op=some (D.d i,u)∧match u with
       | .keep=>D.lay i=none∧D.tgt i=none
       | .lay o=>D.lay i=some o∧D.tgt i=none
       | .wr id o=>∃ j,D.unp rs s0 k id=some j∧anB rs i j=true∧D.tgt i=some j∧D.ob i=o∧D.lay i=none
       | _=>False))→o.wpIn C.F 0 C.P a w next Q:=by
     rintro (⟨k0,u,hm,hlv,hU,hex,hH,hN⟩ | ⟨hnm,hall⟩)
     ·obtain rfl:=Au2 hOK hD hi han hm
      have hag:=Aq4 hOK hD hr hi han hlv
      rw [hop] at hag
      have hex':execU (D.N k0) (D.at_ rs s0 L k0) op=some (D.d i,u):=by rw [Al6 hag]; exact hex
      have hok:=A16 hs (nid:=D.N k0) (fun h=>by have:=h.1; omega) hcc hex'
      have hlay:=(hOK.mlt k0 i hm).2.1
      have hta:=(hOK.mlt k0 i hm).2.2
      refine A60 hnd hok fun β' w' x h1 h2=>?_
      have hg:∀ id,Ux (Ur C rs s0 D L k0) (D.N k0) u id→Ur C rs s0 D L' (k0+1) id:=fun id h=>by
       have hle:=hOK.mono k0
       have key:Un (Ur C rs s0 D L k0) (D.N k0) id→D.N (k0+1)=D.N k0+1→Ur C rs s0 D L' (k0+1) id:=fun h hN'=>by
        rcases h with h | rfl
        ·exact hUgrow (k0+1) hle id h
        ·have hge:=N_ge hOK k0
         refine ⟨by omega,fun h=>?_⟩
         rcases h with h | h
         ·have:=hR _ h; omega
         ·omega
       cases u with
       | keep=>exact hUgrow (k0+1) hle id h
       | wr _ _=>exact hUgrow (k0+1) hle id h
       | lay _=>exact key h (by rw [hN]; rfl)
       | mv _ _=>exact key h (by rw [hN]; rfl)
      exact hput (k0+1) _ β' w' x (hDmain hm) rfl (Bd4 (L:=L) (L':=L') hOK hD hr hi han hL' hm hlay hta (N_ge hOK k0) hU hH).symm (h1.grow hg) (h2.grow hg)
     ·obtain ⟨hlv,u,hex,hu⟩:=hall k (A23 hOK hD hi han)
      have hag:=Aq4 hOK hD hr hi han hlv
      rw [hop] at hag
      have hex':execU (s0.nx+i) (D.at_ rs s0 L k) op=some (D.d i,u):=by rw [Al6 hag]; exact hex
      have hfresh:¬ Ur C rs s0 D L k (s0.nx+i):=fun h=>h.2 (.inr ⟨by omega,by have:=ri_lt hr; omega,by
       have e:s0.nx+i - s0.nx=i:=by omega
       rw [e]; exact hi⟩)
      have hok:=A16 hs (nid:=s0.nx+i) hfresh hcc hex'
      refine A60 hnd hok fun β' w' x h1 h2=>?_
      cases u with
      | keep=>exact hput k _ β' w' x (hDfree hnm) rfl (Aq5 hL' hu.1 hu.2).symm (h1.grow (hUgrow k (Nat.le_refl _))) (h2.grow (hUgrow k (Nat.le_refl _)))
      | lay ob=>
       have hg:∀ id,Ux (Ur C rs s0 D L k) (s0.nx+i) (.lay ob) id→Ur C rs s0 D L' k id:=fun id h=>by
        rcases h with h | rfl
        ·exact hUgrow k (Nat.le_refl _) id h
        ·have hge:=N_ge hOK k
         have:=ri_lt hr
         refine ⟨by omega,fun h=>?_⟩
         rcases h with h | h
         ·have:=hR _ h; omega
         ·have e:s0.nx+i - s0.nx=i:=by omega
          have:=h.2.2
          rw [e,hL'] at this
          simp at this
       exact hput k _ β' w' x (hDfree hnm) rfl (Bd3 hOK hD hr hi hL' hu.1 hu.2).symm (h1.grow hg) (h2.grow hg)
      | wr id ob=>
       obtain ⟨j,g1,g2,g3,rfl,g5⟩:=hu
       exact hput k _ β' w' x (hDfree hnm) rfl (Bo1 hOK hD hr hi han hL' g1 g2 g3 g5).symm (h1.grow (hUgrow k (Nat.le_refl _))) (h2.grow (hUgrow k (Nat.le_refl _)))
      | mv _ _=>exact hu.elim
    rw [hop] at hev
    split at hev
    ·rename_i f args
     obtain ⟨k0,hm,hlv,hcm⟩:=hev
     obtain rfl:=Au2 hOK hD hi han hm
     obtain ⟨c,ho,hcal,rfl⟩:=Ax3 hcc
     refine hcallM f (c.args.toList.map a.eval) (c.args.toList.map (D.st rs s0 i k0).rv) hm (by simp) (hargs _ (fun x hx=>by rw [hop]; exact hx) hlv) hcm fun hcb=>?_
     simp [execOp,ho,resolve,hcal,Deferred.ofValue,Act.eval,invoke,Af8 hcb,A21]
    ·rename_i tb x args
     obtain ⟨k0,f,fr,cs,hm,hlv,hfn,hcm⟩:=hev
     obtain rfl:=Au2 hOK hD hi han hm
     obtain ⟨c,ho,rfl,hcal⟩:=A57 hcc
     have hag:=Aq4 hOK hD hr hi han hlv
     rw [← hag.ev x (by rw [hop]; simp [DOp.opnds])] at hfn
     rcases hcal with ⟨rfl,hcal⟩ | ⟨name,rfl,hcal⟩
     ·have hx:=Az1 hfn
      simp only at hx
      have h1:=hs.ev x
      rw [hx] at h1
      obtain ⟨us,vs,e1,hl1,hl2,hrel1,hrel2⟩:=A95 h1
      refine hcallM _ (us ++ c.args.toList.map a.eval ++ vs) (fr ++ c.args.toList.map (D.st rs s0 i k0).rv ++ cs) hm (by simp [hl1,hl2]) (Bb4 (by simp [hl1]) (Bb4 hl1 (fun j v d hv hdd=>?_) (hargs _ (fun y hy=>by rw [hop]; simp [DOp.opnds,hy]) hlv)) fun j v d hv hdd=>?_) hcm fun hcb=>?_
      ·exact hs.evp x (hrel1 _ v d hv hdd) fun id hid=>by rw [hx,DV.refs,DV.refsL,DV.refs]; exact List.mem_append_left _ (DV.refsL_mem (List.mem_of_getElem? hdd) hid)
      ·exact hs.evp x (hrel2 _ v d hv hdd) fun id hid=>by rw [hx,DV.refs,DV.refsL]; exact List.mem_append_right _ (DV.refsL_mem (List.mem_of_getElem? hdd) hid)
      ·have h3:(us.toArray ++ (c.args.map a.eval ++ vs.toArray):Array Value)=(us ++ (c.args.toList.map a.eval ++ vs)).toArray:=by apply Array.ext'; simp
       simp [execOp,ho,resolve,hcal,e1,Deferred.ofValue,invoke]
       rw [h3]
       exact Af8 hcb _ _
     ·simp only [DV.tgt] at hfn
      split at hfn
      ·rename_i T e hx
       obtain ⟨f',hlk,hx2⟩:=Option.map_eq_some_iff.1 hfn
       cases hx2
       have h1:=hs.ev x
       rw [hx] at h1
       obtain ⟨u,e1,hrel⟩:=Am6 h1
       refine hcallM _ ([u] ++ c.args.toList.map a.eval) ([e] ++ c.args.toList.map (D.st rs s0 i k0).rv ++ []) hm (by simp) (fun j v d hv hdd=>?_) hcm fun hcb=>?_
       ·rw [List.append_nil] at hdd
        cases j with
        | zero=>
         simp at hv hdd
         subst hv hdd
         exact hs.evp x hrel fun id hid=>by rw [hx,DV.refs]; exact hid
        | succ j=>exact hargs c.args.toList (fun y hy=>by rw [hop]; simp [DOp.opnds]; exact .inr (by simpa using hy)) hlv j v d hv hdd
       ·have h3:=Ap1 (w:=w) hlk hcb u (c.args.map a.eval)
        have h4:(#[u] ++ c.args.map a.eval:Array Value)=([u] ++ c.args.toList.map a.eval).toArray:=by apply Array.ext'; simp
        rw [h4] at h3
        have h5:Array.extract (#[a.eval x] ++ c.args.map a.eval) 1 (#[a.eval x] ++ c.args.map a.eval).size=c.args.map a.eval:=by
         apply Array.ext'
         simp [List.extract_eq_take_drop]
         exact List.take_of_length_le (by simp)
        have h6:(#[a.eval x] ++ c.args.map a.eval:Array Value)[0]?=some (.iface T u):=by rw [e1]; first | rfl | simp [Array.getElem?_append]
        simp only [execOp,ho,resolve,hcal,Sem.run_bind,Sem.run_pure,Result.andThen_ok,invoke,h6,h5,h3]
      ·cases hfn
    ·exact hsimple hev
  ·subst hb
   rw [hw] at hev
   simp only at hev
   obtain ⟨h1,h2,h2',h3⟩:=hev
   exact hput k (D.at_ rs s0 L k) β w undef (hDfree h3) rfl (Aq5 hL' h2 h2').symm (hs.grow (hUgrow k (Nat.le_refl _))) (by rw [h1]; exact WV.v undef)
end Go.DD

/- Regions that draw their order, third part: every order. -/
namespace Go.DD
open Go.RowKit (Below)
def Lf (L:Array Bool) (j:Nat):Bool:=(L.toList[j]?).getD false
theorem By7 {C:Ctx} {ops:Array Oper} {rs:List DR} {s0:DS} {D:RG} {Q:Exit→DS→Prop} (hrs:ops.toList.mapM (compR C.P C.nt true ops)=some rs) (hOK1:D.OK rs s0 C.P) (hR:∀ id,C.R id→id < s0.nx)
  (hQ:Q .normal (D.at_ rs s0 (fun _=>true) D.main.length)) :
  ∀ (fuel:Nat) (L:Array Bool) (k:Nat) (a:Act) (w:World) (β:Nat→Option Nat),L.size=ops.size→unl L.toList=fuel→
   (∀ (i:Nat) (r:DR),L.toList[i]?=some true→rs[i]?=some r→∀ j∈r.pre,L.toList[j]?=some true)→Done rs D (Lf L) k→HoldsB C (Ur C rs s0 D (Lf L) k) (D.at_ rs s0 (Lf L) k) β a w→wpAnyIn C.F 0 C.P .any ops (liftQ C Q) fuel L a w:=by
 have hOK:=hOK1.toOKs
 obtain ⟨hlen,hget⟩:=mapM_some hrs
 replace hlen:rs.length=ops.size:=by rw [hlen]; exact Array.length_toList
 have hpre:=hOK.pre
 have hdone:∀ (L:Array Bool) (k:Nat) (a:Act) (w:World) (β:Nat→Option Nat),L.size=ops.size→(∀ b∈L.toList,b=true)→Done rs D (Lf L) k→HoldsB C (Ur C rs s0 D (Lf L) k) (D.at_ rs s0 (Lf L) k) β a w→liftQ C Q .normal a w:=by
  intro L k a w β hL hall hD hs
  have hLt:∀ j,j < rs.length→Lf L j=true:=fun j hj=>by
   have hjl:j < L.toList.length:=by simp; omega
   simp only [Lf,List.getElem?_eq_getElem hjl,Option.getD_some]
   exact hall _ (List.getElem_mem _)
  have hk:k=D.main.length:=by
   rcases Nat.lt_or_ge k D.main.length with h | h
   ·have hm:D.main[k]?=some D.main[k]:=List.getElem?_eq_getElem h
    have:=(hD.mn k _ hm).1 (hLt _ (hOK.mlt k _ hm).1)
    omega
   ·have:=hD.le; omega
  subst hk
  have e1:(D.at_ rs s0 (fun _=>true) D.main.length).sv=(D.at_ rs s0 (Lf L) D.main.length).sv:=by
   funext t
   show D.sv rs s0 (fun _=>true) t=D.sv rs s0 (Lf L) t
   unfold RG.sv
   cases hp:rs.findIdx? (fun r=>r.dst == some t) with
   | none=>rfl
   | some p=>simp [hLt p (List.findIdx?_eq_some_iff_findIdx_eq.1 hp).1]
  have e2:(D.at_ rs s0 (fun _=>true) D.main.length).ho=(D.at_ rs s0 (Lf L) D.main.length).ho:=by
   funext id
   show D.full rs s0 (fun _=>true) D.main.length id=D.full rs s0 (Lf L) D.main.length id
   unfold RG.full
   cases hu:D.unp rs s0 D.main.length id with
   | none=>rfl
   | some j=>
    have hc:D.cur rs (fun _=>true) j=D.cur rs (Lf L) j:=by
     unfold RG.cur
     rw [Ai5 (L:=Lf L) (L':=fun _=>true) fun w hw _=>(hLt w hw).symm]
    simp [hLt j (Ag7 hu).2.1,hc]
  have hge:=N_ge hOK D.main.length
  refine ⟨_,hQ,fun id h=>by have:=hR id h; show id < D.N D.main.length; omega,β,(hs.congr e1 e2).grow fun id ⟨h1,h2⟩=>⟨h1,fun h=>h2 (.inl h)⟩⟩
 have hready:∀ (L:Array Bool),L.size=ops.size→Region.ready .any ops L=[]→∀ b∈L.toList,b=true:=by
  intro L hL hr
  have key:∀ i,i < L.size→L.toList[i]?=some true:=by
   intro i
   induction i using Nat.strongRecOn with
   | _ i ih=>
    intro hi
    rw [List.getElem?_eq_getElem (by simpa using hi)]
    cases hb:L.toList[i]'(by simpa using hi) with
    | true=>rfl
    | false=>
     exfalso
     have hmem:i∈Region.ready .any ops L:=by
      unfold Region.ready
      rw [List.mem_filter]
      refine ⟨by simp; omega,?_⟩
      have ho:ops[i]?=some ops[i]:=Array.getElem?_eq_getElem (by omega)
      simp only [ho,Option.map_some,Option.getD_some,Bool.and_eq_true]
      refine ⟨?_,?_⟩
      ·have:L[i]?=some false:=by rw [← Array.getElem?_toList,List.getElem?_eq_getElem (by simpa using hi),hb]
       simp [Array.getD_eq_getD_getElem?,this]
      ·rw [Array.all_eq_true']
       intro e he
       rw [Bool.or_eq_true]
       by_cases hbd:Region.binds .any e=true
       ·refine .inr ?_
        have hr':=hget i (ops[i]) (rs[i]'(by omega)) (by rw [Array.getElem?_toList]; exact ho) (List.getElem?_eq_getElem (by omega))
        have hpre':e.on∈(rs[i]'(by omega)).pre:=by
         unfold compR at hr'
         split at hr'
         ·split at hr'
          ·rw [← Option.some.inj hr']
           simp only [if_true]
           rw [List.mem_eraseDups,List.mem_filterMap]
           exact ⟨e,by simpa using he,by simp [hbd]⟩
          ·cases hr'
         ·cases hr'
        have hlt:=hpre i _ (List.getElem?_eq_getElem (by omega)) e.on hpre'
        have:=ih e.on hlt (by omega)
        rw [Array.getElem?_toList] at this
        simp [Array.getD_eq_getD_getElem?,this]
       ·simp [hbd]
     rw [hr] at hmem; cases hmem
  intro b hb
  obtain ⟨i,hi,rfl⟩:=List.mem_iff_getElem.1 hb
  have:=key i (by simpa using hi)
  rw [List.getElem?_eq_getElem hi] at this
  exact Option.some.inj this
 intro fuel
 induction fuel with
 | zero=>
  intro L k a w β hL hu hcl hD hs
  have hall:=Bc8 _ hu
  refine ⟨?_,hdone L k a w β hL hall hD hs⟩
  unfold Region.ready
  rw [List.filter_eq_nil_iff]
  intro i hi
  have hil:i < L.size:=by simp at hi; omega
  have:L[i]?=some true:=by rw [← Array.getElem?_toList,List.getElem?_eq_getElem (by simpa using hil),hall _ (List.getElem_mem _)]
  simp [Array.getD_eq_getD_getElem?,this]
 | succ fuel ih=>
  intro L k a w β hL hu hcl hD hs
  refine ⟨fun hr=>hdone L k a w β hL (hready L hL hr) hD hs,fun i hi=>?_⟩
  unfold Region.ready at hi
  rw [List.mem_filter] at hi
  obtain ⟨hi1,hi2⟩:=hi
  have hin:i < ops.size:=by simpa using hi1
  have ho:ops[i]?=some ops[i]:=Array.getElem?_eq_getElem hin
  simp only [ho,Option.map_some,Option.getD_some,Bool.and_eq_true] at hi2
  obtain ⟨hiL,hiE⟩:=hi2
  have hLi:L.toList[i]?=some false:=by
   have hlt:i < L.size:=by omega
   rw [Array.getElem?_toList,Array.getElem?_eq_getElem hlt]
   simp [Array.getD_eq_getD_getElem?,Array.getElem?_eq_getElem hlt] at hiL
   simp [hiL]
  have hri:rs[i]?=some (rs[i]'(by omega)):=List.getElem?_eq_getElem (by omega)
  generalize (rs[i]'(by omega))=r at hri
  have hcr:=hget i ops[i] r (by rw [Array.getElem?_toList]; exact ho) hri
  have hprei:∀ j∈r.pre,L.toList[j]?=some true:=by
   intro j hj
   have:∃ ed∈ops[i].after,Region.binds .any ed=true∧ed.on=j:=by
    unfold compR at hcr
    split at hcr
    ·split at hcr
     ·cases hcr
      simp only [if_true] at hj
      rw [List.mem_eraseDups,List.mem_filterMap] at hj
      obtain ⟨ed,h1,h2⟩:=hj
      split at h2
      ·rename_i hbd; cases h2; exact ⟨ed,by simpa using h1,hbd,rfl⟩
      ·cases h2
     ·cases hcr
    ·cases hcr
   obtain ⟨ed,h1,h2,rfl⟩:=this
   rw [Array.all_eq_true'] at hiE
   have:=hiE ed h1
   rw [h2] at this
   simp only [Bool.not_true,Bool.false_or] at this
   rw [Array.getElem?_toList]
   cases hq:L[ed.on]? with
   | none=>simp [Array.getD_eq_getD_getElem?,hq] at this
   | some b=>simp [Array.getD_eq_getD_getElem?,hq] at this; simp [this]
  have han:∀ j,anB rs i j=true→Lf L j=true:=by
   intro j hj
   have hil:i < (ancs rs []).length:=by rw [Au1]; simp; omega
   have hl:(ancs rs [])[i]?=some (anR rs i):=by simp [anR,List.getElem?_eq_getElem hil]
   have:=Ba1 hpre hcl i r _ hri hprei hl j (by simpa [anB] using hj)
   simp [Lf,this]
  have hLset:∀ j,Lf (L.setIfInBounds i true) j=(j == i || Lf L j):=fun j=>by
   simp only [Lf,Array.toList_setIfInBounds,List.getElem?_set]
   by_cases hij:i=j
   ·subst hij
    have:i < L.size:=by omega
    simp [this]
   ·simp [hij,Ne.symm hij]
  obtain ⟨b,hw,ht,hf⟩:=By6 (Q:=liftQ C Q) (next:=fun a' w'=>wpAnyIn C.F 0 C.P .any ops (liftQ C Q) fuel (L.setIfInBounds i true) a' w') hOK1 hD hri (by simp [Lf,hLi]) han hLset hR hcr hs (fun k' β' a' w' hD' hh=>by
   refine ih (L.setIfInBounds i true) k' a' w' β' (by simpa using hL) ?_ ?_ hD' hh
   ·rw [Array.toList_setIfInBounds]
    have:=Bn9 L.toList i hLi
    omega
   ·intro k rk hk hrk j hj
    rw [Array.toList_setIfInBounds] at hk ⊢
    rw [List.getElem?_set] at hk ⊢
    have hprek:L.toList[j]?=some true:=by
     by_cases hik:i=k
     ·subst hik; rw [hri] at hrk; cases hrk; exact hprei j hj
     ·rw [if_neg hik] at hk; exact hcl k rk hk hrk j hj
    by_cases hij:i=j
    ·subst hij; rw [hLi] at hprek; cases hprek
    ·rw [if_neg hij]; exact hprek)
  unfold wpOpIn
  rw [ho]
  simp only
  rw [hw]
  cases b with
  | true=>simp only [if_true]; exact ht rfl
  | false=>
   simp only [Bool.false_eq_true,if_false]
   exact ⟨fun _ _=>trivial,hf rfl⟩
theorem DW.regd {C:Ctx} {Q:Exit→DS→Prop} {s:DS} {rs:List DR} {info:RI} (D:RG) (hm:C.P.follows .mixedOrders=true) (hOK:D.OK rs s C.P) (h:Q .normal (D.at_ rs s (fun _=>true) D.main.length)):DW C (.reg true rs info) Q s:=by
 intro code hc a w ⟨hR,β,hs⟩
 obtain ⟨id,os,rfl,hl,_⟩:=Aw0 hc
 refine wpIn_region_any hm ?_
 have hs':HoldsB C (Us C s.nx) s β a { w with drawn:=w.drawn+1 }:=hs.keep ⟨rfl,rfl,rfl,Nat.le_refl _,fun _ _=>rfl⟩
 have hL0:∀ j,Lf (Array.replicate os.size false) j=false:=fun j=>by
  simp only [Lf,Array.toList_replicate,List.getElem?_replicate]
  split <;> rfl
 refine By7 hl hOK hR h os.size _ 0 a _ β (by simp) ?_ (fun i r hi=>?_) ⟨fun i _ hi=>(by rw [hL0] at hi; cases hi),Nat.zero_le _,fun q j _=>(by rw [hL0]; simp)⟩ ?_
 ·simp only [Array.toList_replicate]
  generalize os.size=n
  induction n with
  | zero=>rfl
  | succ n ih=>simp [List.replicate_succ,unl,ih]; omega
 ·rw [Array.toList_replicate,List.getElem?_replicate] at hi
  split at hi <;> simp at hi
 ·refine (hs'.grow fun id hi=>?_).congr ?_ ?_
  ·refine ⟨by have:=hi.1; rw [hOK.n0]; omega,fun h=>?_⟩
   rcases h with h | h
   ·exact hi.2 h
   ·have:=hi.1; omega
  ·funext t
   show D.sv rs s _ t=s.sv t
   unfold RG.sv
   split
   ·rw [hL0]; rfl
   ·rfl
  ·funext id
   show D.full rs s _ 0 id=s.ho id
   unfold RG.full
   cases hu:D.unp rs s 0 id with
   | none=>simp only; rw [hOK.h0]
   | some j=>
    simp only
    rw [hL0]
    have h1:s.vw C id=none:=hs.hh.fr id fun h=>by have:=(Ag7 hu).1; have:=h.1; omega
    have:s.ho id=none:=by
     cases hx:s.ho id with
     | none=>rfl
     | some o=>rw [Ae0 hx] at h1; cases h1
    rw [this]; rfl
end Go.DD

/- An evaluator of deep code on closed states, laid out so that the kernel runs it: slots by paths, operations as functions, integers forced. -/
namespace Go.DD
inductive Pa where
 | o
 | l (p:Pa)
 | r (p:Pa)
def pthF:Nat→Nat→Pa
 | 0,_=>.o
 | f+1,k=>match k with
  | 0=>.o
  | k+1=>if k % 2=0 then .l (pthF f (k / 2)) else .r (pthF f (k / 2))
def pth (k:Nat):Pa:=pthF k k
noncomputable def gP {α:Type} (p:Pa):Tr α→Option α:=
 Pa.rec (motive:=fun _=>Tr α→Option α) (fun t=>Tr.rec (motive:=fun _=>Option α) none (fun _ v _ _ _=>v) t)
  (fun _ ih t=>Tr.rec (motive:=fun _=>Option α) none (fun l _ _ _ _=>ih l) t) (fun _ ih t=>Tr.rec (motive:=fun _=>Option α) none (fun _ _ r _ _=>ih r) t) p
noncomputable def sP {α:Type} (p:Pa) (v:Option α):Tr α→Tr α:=
 Pa.rec (motive:=fun _=>Tr α→Tr α) (fun t=>Tr.rec (motive:=fun _=>Tr α) (.n .e v .e) (fun l _ r _ _=>.n l v r) t)
  (fun _ ih t=>Tr.rec (motive:=fun _=>Tr α) (.n (ih .e) none .e) (fun l x r _ _=>.n (ih l) x r) t) (fun _ ih t=>Tr.rec (motive:=fun _=>Tr α) (.n .e none (ih .e)) (fun l x r _ _=>.n l x (ih r)) t) p
noncomputable def gN {α:Type} (t:Tr α):Nat→Option α:=
 Tr.rec (motive:=fun _=>Nat→Option α) (fun _=>none) (fun _ v _ il ir k=>Nat.rec (motive:=fun _=>Option α) v (fun j _=>Bool.rec (motive:=fun _=>Option α) (ir (Nat.div j 2)) (il (Nat.div j 2)) (Nat.beq (Nat.mod j 2) 0)) k) t
noncomputable def sN {α:Type} (f:Nat) (v:Option α):Tr α→Nat→Tr α:=
 Nat.rec (motive:=fun _=>Tr α→Nat→Tr α) (fun t _=>Tr.rec (motive:=fun _=>Tr α) (.n .e v .e) (fun l _ r _ _=>.n l v r) t)
  (fun _ ih t k=>Nat.rec (motive:=fun _=>Tr α) (Tr.rec (motive:=fun _=>Tr α) (.n .e v .e) (fun l _ r _ _=>.n l v r) t)
   (fun j _=>Bool.rec (motive:=fun _=>Tr α) (Tr.rec (motive:=fun _=>Tr α) (.n .e none (ih .e (Nat.div j 2))) (fun l x r _ _=>.n l x (ih r (Nat.div j 2))) t)
    (Tr.rec (motive:=fun _=>Tr α) (.n (ih .e (Nat.div j 2)) none .e) (fun l x r _ _=>.n (ih l (Nat.div j 2)) x r) t) (Nat.beq (Nat.mod j 2) 0)) k) f
noncomputable def setN {α:Type} (t:Tr α) (k:Nat) (v:Option α):Tr α:=sN k v t k
structure ES where
 sl:Tr DV
 hp:Tr DObj
 nx:Nat
 deriving Inhabited
def ES.ds (es:ES):DS:=⟨fun t=>(es.sl.get t).getD .any,es.hp.get,es.nx⟩
inductive EO where
 | t (p:Pa)
 | c (d:DV)
def EO.of:Operand→EO
 | .tmp u=>.t (pth u)
 | .const x=>.c (ofV x)
 | .func f=>.c (.fn (.func f) [.tup []])
 | .global g=>.c (gvD g)
noncomputable def rawE (es:ES) (x:EO):DV:=EO.rec (motive:=fun _=>DV) (fun p=>Option.rec (motive:=fun _=>DV) .any (fun d=>d) (gP p es.sl)) (fun d=>d) x
noncomputable def someB {α:Type} (x:Option α):Bool:=Option.rec (motive:=fun _=>Bool) false (fun _=>true) x
noncomputable def refsE (d:DV):List Nat:=DV.casesOn (motive_1:=fun _=>List Nat) d [] (fun _=>[]) (fun cs=>DV.refsL cs) (fun cs=>DV.refsL cs) (fun _ _=>[]) (fun _=>[]) (fun _ cs=>DV.refsL cs) (fun _ d=>DV.refs d)
 (fun id _ _ _=>[id]) (fun id _=>[id]) (fun id=>[id]) (fun id=>[id])
noncomputable def allL {α:Type} (l:List α) (f:α→Bool):Bool:=List.rec (motive:=fun _=>Bool) true (fun a _ ih=>Bool.rec (motive:=fun _=>Bool) false ih (f a)) l
noncomputable def iteB {α:Type} (b:Bool) (x y:α):α:=Bool.rec (motive:=fun _=>α) y x b
noncomputable def liveE (hp:Tr DObj) (d:DV):DV:=iteB (allL (refsE d) fun id=>someB (gN hp id)) d .any
noncomputable def evE (es:ES) (x:EO):DV:=EO.rec (motive:=fun _=>DV) (fun p=>liveE es.hp (Option.rec (motive:=fun _=>DV) .any (fun d=>d) (gP p es.sl))) (fun d=>d) x
noncomputable def Ag3 {α:Type} (n:Nat) (k:Nat→α):α:=Nat.rec (motive:=fun _=>α) (k 0) (fun m _=>k (m+1)) n
noncomputable def Bo2 {α:Type} (n:Int) (k:Int→α):α:=Int.rec (motive:=fun _=>α) (fun m=>Ag3 m fun m=>k (.ofNat m)) (fun m=>Ag3 m fun m=>k (.negSucc m)) n
noncomputable def cV {α:Type} (d:DV) (f:Value→α) (e:α):α:=DV.casesOn (motive_1:=fun _=>α) d e f (fun _=>e) (fun _=>e) (fun _ _=>e) (fun _=>e) (fun _ _=>e) (fun _ _=>e) (fun _ _ _ _=>e) (fun _ _=>e) (fun _=>e) (fun _=>e)
noncomputable def cVal {α:Type} (x:Value) (fb:Bool→α) (fi:IntKind→Int→α) (fs:ByteArray→α) (e:α):α:=
 Value.casesOn (motive_1:=fun _=>α) x fb fi (fun _ _=>e) (fun _ _ _=>e) fs (fun _=>e) (fun _ _ _=>e) (fun _=>e) (fun _=>e) (fun _ _ _=>e) e (fun _ _=>e) e (fun _=>e) (fun _=>e)
noncomputable def outV (x:Option Value):Option DV:=Option.rec (motive:=fun _=>Option DV) none (fun v=>cVal v (fun b=>Bool.rec (motive:=fun _=>Option DV) (some (.v (.bool false))) (some (.v (.bool true))) b) (fun k n=>Bo2 n fun n=>some (.v (.int k n))) (fun s=>some (.v (.string s))) (some (.v v))) x
abbrev XP:Type:=ES→Option DV
abbrev XU:Type:=ES→Nat→Option (DV×Upd)
noncomputable def xBin (op:BinOp) (x y:EO):XP:=fun es=>cV (rawE es x) (fun v=>cV (rawE es y) (fun w=>
 cVal v (fun _=>none) (fun k a=>cVal w (fun _=>none) (fun k' b=>outV (iteB (isSh op) (shI op k a b) (iteB (Nat.beq k.ctorIdx k'.ctorIdx) (binI op k a b) none))) (fun _=>none) none) (fun s=>cVal w (fun _=>none) (fun _ _=>none) (fun s'=>outV (binS op s s')) none) none) none) none
noncomputable def xPick (c x y:EO):XP:=fun es=>cV (rawE es c) (fun v=>cVal v (fun b=>some (iteB b (rawE es x) (rawE es y))) (fun _ _=>none) (fun _=>none) none) none
noncomputable def xUn (op:UnOp) (x:EO):XP:=fun es=>cV (rawE es x) (fun v=>outV (unV op (.v v))) none
noncomputable def cRow {α:Type} (hp:Tr DObj) (id:Nat) (f:TypeId→List DV→α) (e:α):α:=
 Option.rec (motive:=fun _=>α) e (fun o=>DObj.casesOn (motive:=fun _=>α) o f (fun _ _=>e) (fun _=>e) (fun _ _=>e) (fun _ _ _ _=>e)) (gN hp id)
noncomputable def dropL {α:Type} (n:Nat) (l:List α):List α:=Nat.rec (motive:=fun _=>List α→List α) (fun l=>l) (fun _ ih l=>List.rec (motive:=fun _=>List α) [] (fun _ t _=>ih t) l) n l
noncomputable def takeL {α:Type} (n:Nat) (l:List α):List α:=Nat.rec (motive:=fun _=>List α→List α) (fun _=>[]) (fun _ ih l=>List.rec (motive:=fun _=>List α) [] (fun a t _=>a :: ih t) l) n l
noncomputable def partE (k:Option Nat) (cs:List DV):Option DV:=Option.rec (motive:=fun _=>Option DV) (List.rec (motive:=fun _=>Option DV) none (fun c _ _=>some c) cs) (fun n=>iteB (Nat.ble n cs.length) (some (.agg (takeL n cs))) none) k
noncomputable def cAdr {α:Type} (d:DV) (fi:List DV→α) (fp:Nat→Nat→α) (e:α):α:=DV.casesOn (motive_1:=fun _=>α) d e (fun _=>e) (fun _=>e) (fun _=>e) (fun _ _=>e) fi (fun _ _=>e) (fun _ _=>e) (fun _ _ _ _=>e) fp (fun _=>e) (fun _=>e)
noncomputable def xLd (k:Option Nat) (x:EO):XP:=fun es=>cAdr (rawE es x) (fun cs=>partE k cs) (fun id off=>cRow es.hp id (fun _ cs=>partE k (dropL off cs)) none) none
noncomputable def xFa (off:Nat) (x:EO):XP:=fun es=>cAdr (rawE es x) (fun cs=>some (.ia (dropL off cs))) (fun id o=>iteB (someB (gN es.hp id)) (Ag3 (o+off) fun n=>some (.pt id n)) none) none
noncomputable def cSl {α:Type} (d:DV) (fv:Value→α) (fs:List DV→Nat→α) (fm:Nat→Nat→Nat→Nat→α) (e:α):α:=DV.casesOn (motive_1:=fun _=>α) d e fv (fun _=>e) (fun _=>e) fs (fun _=>e) (fun _ _=>e) (fun _ _=>e) fm (fun _ _=>e) (fun _=>e) (fun _=>e)
noncomputable def cI {α:Type} (d:DV) (f:Int→α) (e:α):α:=cV d (fun v=>cVal v (fun _=>e) (fun _ n=>f n) (fun _=>e) e) e
noncomputable def cIx {α:Type} (j:Int) (n:Nat) (f:Nat→α) (e:α):α:=Int.rec (motive:=fun _=>α) (fun m=>iteB (Nat.blt m n) (f m) e) (fun _=>e) j
noncomputable def xIa (es':Nat) (x i:EO):XP:=fun es=>cI (rawE es i) (fun j=>cSl (rawE es x) (fun _=>none) (fun cs n=>cIx j n (fun m=>some (.ia (dropL (m*es') cs))) none)
 (fun id off n _=>iteB (someB (gN es.hp id)) (cIx j n (fun m=>Ag3 (off+m*es') fun o=>some (.pt id o)) none) none) none) none
noncomputable def xFx (n es':Nat) (x i:EO):XP:=fun es=>cI (rawE es i) (fun j=>cAdr (rawE es x) (fun cs=>cIx j n (fun m=>some (.ia (dropL (m*es') cs))) none)
 (fun id off=>iteB (someB (gN es.hp id)) (cIx j n (fun m=>Ag3 (off+m*es') fun o=>some (.pt id o)) none) none) none) none
noncomputable def lenV (v:Value):Option DV:=Value.casesOn (motive_1:=fun _=>Option DV) v (fun _=>none) (fun _ _=>none) (fun _ _=>none) (fun _ _ _=>none) (fun _=>none) (fun _=>none)
 (fun a n _=>Option.rec (motive:=fun _=>Option DV) (some (.v (.int .i64 n))) (fun _=>none) a) (fun _=>none) (fun _=>none) (fun _ _ _=>none) none (fun _ _=>none) none (fun _=>none) (fun _=>none)
noncomputable def xLen (x:EO):XP:=fun es=>cSl (rawE es x) lenV (fun _ n=>Ag3 n fun n=>some (.v (.int .i64 (.ofNat n)))) (fun id _ n _=>iteB (someB (gN es.hp id)) (Ag3 n fun n=>some (.v (.int .i64 (.ofNat n)))) none) none
noncomputable def cTup {α:Type} (d:DV) (f:List DV→α) (e:α):α:=DV.casesOn (motive_1:=fun _=>α) d e (fun _=>e) (fun _=>e) f (fun _ _=>e) (fun _=>e) (fun _ _=>e) (fun _ _=>e) (fun _ _ _ _=>e) (fun _ _=>e) (fun _=>e) (fun _=>e)
noncomputable def nthL {α:Type} (n:Nat) (l:List α):Option α:=List.rec (motive:=fun _=>Option α) none (fun a _ _=>some a) (dropL n l)
noncomputable def vD {α:Type} (d:DV) (f:Value→α) (e:α):α:=DV.casesOn (motive_1:=fun _=>α) d e f (fun _=>e) (fun _=>e) (fun _ _=>e) (fun _=>e) (fun _ _=>e) (fun _ _=>e) (fun _ _ _ _=>e) (fun _ _=>e) (fun _=>e) (fun _=>e)
noncomputable def xExt (x:EO) (i:Nat):XP:=fun es=>cTup (rawE es x) (fun ds=>Option.rec (motive:=fun _=>Option DV) none (fun d=>vD d (fun v=>some (.v v)) (cTup (evE es x) (fun ds=>nthL i ds) none)) (nthL i ds)) none
noncomputable def xAny (o:DOp):XU:=fun es nid=>execU nid es.ds o
noncomputable def At3 {β α:Type} (l:List β) (k:List β→α):α:=List.rec (motive:=fun _=>(List β→α)→α) (fun k=>k []) (fun a _ ih k=>ih fun t=>k (a :: t)) l k
noncomputable def appL {α:Type} (a b:List α):List α:=List.rec (motive:=fun _=>List α) b (fun x _ ih=>x :: ih) a
noncomputable def Az5 (d:DV):List DV:=DV.casesOn (motive_1:=fun _=>List DV) d [d] (fun _=>[d]) (fun cs=>cs) (fun _=>[d]) (fun _ _=>[d]) (fun _=>[d]) (fun _ _=>[d]) (fun _ _=>[d]) (fun _ _ _ _=>[d]) (fun _ _=>[d]) (fun _=>[d]) (fun _=>[d])
noncomputable def okE (d:DV):Bool:=DV.casesOn (motive_1:=fun _=>Bool) d false (fun x=>x.oneCell') (fun _=>true) (fun _=>false) (fun _ _=>true) (fun _=>true) (fun _ _=>true) (fun _ _=>true) (fun _ _ _ _=>true) (fun _ _=>true) (fun _=>true) (fun _=>true)
noncomputable def xSt (n:Nat) (a x:EO):XU:=fun es _=>cAdr (rawE es a) (fun _=>none) (fun id off=>cRow es.hp id (fun T cs=>
 iteB (okE (evE es x)) (iteB (Nat.beq (Az5 (evE es x)).length n) (iteB (Nat.ble (off+n) cs.length) (At3 (appL (takeL off cs) (appL (Az5 (evE es x)) (dropL (off+n) cs))) fun l=>some (.any,.wr id (.row T l))) none) none) none) none) none
noncomputable def xBx (T:TypeId) (x:EO):XU:=fun es nid=>iteB (okE (evE es x)) (some (.pt nid 0,.lay (.row T (Az5 (evE es x))))) none
noncomputable def mapL {α β:Type} (f:α→β) (l:List α):List β:=List.rec (motive:=fun _=>List β) [] (fun a _ ih=>f a :: ih) l
noncomputable def xAl (T:TypeId) (z:List DV):XU:=fun _ nid=>some (.pt nid 0,.lay (.row T z))
inductive Tg where
 | fn (f:Nat)
 | yl (id:Nat)
def CallT:Type:=Tg→List DV→Tr DObj→Nat→Option (DV×Tr DObj×Nat)
noncomputable def ES.cs {α:Type} (es:ES) (f:Tr DV→Tr DObj→Nat→α):α:=ES.rec (motive:=fun _=>α) f es
noncomputable def ES.putE (es:ES) (dst:Option Pa) (d:DV):ES:=ES.rec (motive:=fun _=>ES) (fun sl hp nx=>Option.rec (motive:=fun _=>ES) ⟨sl,hp,nx⟩ (fun p=>⟨sP p (some d) sl,hp,nx⟩) dst) es
noncomputable def updE (hp:Tr DObj) (nid:Nat) (u:Upd):Tr DObj:=Upd.casesOn (motive:=fun _=>Tr DObj) u hp (fun o=>setN hp nid (some o)) (fun id o=>setN hp id (some o))
 (fun old o=>Option.rec (motive:=fun _=>Tr DObj) (setN hp nid (some o)) (fun i=>setN (setN hp i none) nid (some o)) old)
abbrev Stp:Type:=CallT→ES→Option ES
noncomputable def sM (dst:Option Pa) (x:EO):Stp:=fun _ es=>some (es.putE dst (rawE es x))
noncomputable def sX (dst:Option Pa) (x:XP):Stp:=fun _ es=>Option.rec (motive:=fun _=>Option ES) none (fun d=>some (es.putE dst d)) (x es)
noncomputable def sU (dst:Option Pa) (x:XU):Stp:=fun _ es=>Option.rec (motive:=fun _=>Option ES) none (fun p=>Prod.rec (motive:=fun _=>Option ES) (fun d u=>
 es.cs fun sl hp nx=>iteB u.new (Ag3 (nx+1) fun n=>some ((ES.mk sl (updE hp nx u) n).putE dst d)) (some ((ES.mk sl (updE hp nx u) nx).putE dst d))) p) (x es es.nx)
noncomputable def Ai6 (tg:Tg) (ds:List DV) (dst:Option Pa):Stp:=fun call es=>Option.rec (motive:=fun _=>Option ES) none (fun p=>Prod.rec (motive:=fun _=>Option ES) (fun d q=>Prod.rec (motive:=fun _=>Option ES) (fun hp nx=>es.cs fun sl _ _=>some ((ES.mk sl hp nx).putE dst d)) q) p) (call tg ds es.hp es.nx)
noncomputable def evL (es:ES) (args:List EO):List DV:=mapL (rawE es) args
noncomputable def sCall (f:Nat) (args:List EO) (dst:Option Pa):Stp:=fun call es=>Ai6 (.fn f) (evL es args) dst call es
noncomputable def sCv (tb:Option (List (TypeId×FuncId))) (x:EO) (args:List EO) (dst:Option Pa):Stp:=fun call es=>
 Option.rec (motive:=fun _=>Option ES) (Option.rec (motive:=fun _=>Option ES) none (fun i=>Ai6 (.yl i) (evL es args) dst call es) ((evE es x).tgY tb)) (fun p=>Ai6 (.fn p.1) (appL p.2.1 (appL (evL es args) p.2.2)) dst call es) ((evE es x).tgt tb)
noncomputable def sNx (k:Bool) (x:Operand) (dst:Option Pa):Stp:=fun _ es=>match nxmL es.ds k x with
 | some [p]=>if p.2.new then none else some ((ES.mk es.sl (updE es.hp es.nx p.2) es.nx).putE dst p.1)
 | _=>none
noncomputable def xopP:DOp→Option XP
 | .bin op x y=>some (xBin op (.of x) (.of y))
 | .pick c x y=>some (xPick (.of c) (.of x) (.of y))
 | .un op x=>some (xUn op (.of x))
 | .ld k x=>some (xLd k (.of x))
 | .fa off x=>some (xFa off (.of x))
 | .ia es x i=>some (xIa es (.of x) (.of i))
 | .fx n es x i=>some (xFx n es (.of x) (.of i))
 | .len x=>some (xLen (.of x))
 | .ext x i=>some (xExt (.of x) i)
 | _=>none
noncomputable def xopU:DOp→XU
 | .st n a x=>xSt n (.of a) (.of x)
 | .bx T x=>xBx T (.of x)
 | .al T z=>xAl T (z.map .v)
 | o=>xAny o
noncomputable def stepE (dst:Option Pa) (o:DOp):Stp:=match o with
 | .mv x=>sM dst (.of x)
 | .call f args=>sCall f (args.map EO.of) dst
 | .cv tb x args=>sCv tb (.of x) (args.map EO.of) dst
 | .nxm k x=>sNx k x dst
 | o=>match xopP o with
  | some x=>sX dst x
  | none=>sU dst (xopU o)
noncomputable def sCf (tb:Option (List (TypeId×FuncId))) (x:EO) (args:List EO) (dst:Option Pa):Stp:=fun call es=>
 Option.rec (motive:=fun _=>Option ES) none (fun p=>Ai6 (.fn p.1) (appL p.2.1 (appL (evL es args) p.2.2)) dst call es) ((evE es x).tgt tb)
noncomputable def stepF (dst:Option Pa) (o:DOp):Stp:=match o with
 | .cv tb x args=>sCf tb (.of x) (args.map EO.of) dst
 | .nxm _ _=>fun _ _=>none
 | o=>stepE dst o
noncomputable def wantE (es:ES) (p:Pa) (b:Bool):Option Bool:=cV (rawE es (.t p)) (fun v=>Value.casesOn (motive_1:=fun _=>Option Bool) v (fun c=>some (c == b)) (fun _ _=>none) (fun _ _=>none) (fun _ _ _=>none) (fun _=>none) (fun _=>none) (fun _ _ _=>none) (fun _=>none) (fun _=>none) (fun _ _ _=>none) none (fun _ _=>none) none (fun _=>none) (fun _=>some false)) none
noncomputable def sG (p:Pa) (b:Bool) (dst:Option Pa) (s:Stp):Stp:=fun call es=>Option.rec (motive:=fun _=>Option ES) none (fun c=>Bool.rec (motive:=fun _=>Option ES) (some (es.putE dst (.v undef))) (s call es) c) (wantE es p b)
noncomputable def sq (s k:Stp):Stp:=fun call es=>Option.rec (motive:=fun _=>Option ES) none (fun es'=>es'.cs fun sl hp nx=>k call ⟨sl,hp,nx⟩) (s call es)
noncomputable def sEnd:Stp:=fun _ es=>some es
def pthO:Option Nat→Option Pa
 | some t=>some (pth t)
 | none=>none
noncomputable def stpR (r:DR):Stp:=match r.g with
 | none=>stepE (pthO r.dst) r.op
 | some (t,b)=>sG (pth t) b (pthO r.dst) (stepE (pthO r.dst) r.op)
noncomputable def runE:List DR→Stp
 | []=>sEnd
 | r :: rest=>sq (stpR r) (runE rest)
def sameV:Value→Value→Bool
 | .bool a,.bool b=>a == b
 | .int k a,.int k' b=>k == k' && a == b
 | .string a,.string b=>a.data.toList == b.data.toList
 | .pointer none,.pointer none=>true
 | .slice none a b,.slice none c d=>a == c && b == d
 | .map none,.map none=>true
 | .nilFunc,.nilFunc=>true
 | .nilIface,.nilIface=>true
 | _,_=>false
def sameL (f:DV→DV→Bool):List DV→List DV→Bool
 | [],[]=>true
 | a :: as,b :: bs=>f a b && sameL f as bs
 | _,_=>false
def Bo3:Fn→Fn→Bool
 | .func f,.func g=>f == g
 | _,_=>false
def Ab2:Nat→DV→DV→Bool
 | 0,_,_=>false
 | n+1,a,b=>match a,b with
  | .any,.any=>true
  | .v x,.v y=>sameV x y
  | .agg a,.agg b=>sameL (Ab2 n) a b
  | .tup a,.tup b=>sameL (Ab2 n) a b
  | .sl a m,.sl b m'=>m == m' && sameL (Ab2 n) a b
  | .ia a,.ia b=>sameL (Ab2 n) a b
  | .fn f a,.fn g b=>Bo3 f g && sameL (Ab2 n) a b
  | .ifc T a,.ifc T' b=>T == T' && Ab2 n a b
  | .ms i o k e,.ms i' o' k' e'=>i == i' && o == o' && k == k' && e == e'
  | .pt i o,.pt i' o'=>i == i' && o == o'
  | .mp i,.mp j=>i == j
  | .yl i,.yl j=>i == j
  | _,_=>false
def Bo4:Value→Value→Bool
 | .agg a,.agg b=>sameL (fun x y=>match x,y with | .v x,.v y=>sameV x y | _,_=>false) (a.toList.map .v) (b.toList.map .v)
 | a,b=>sameV a b
def sameM (n:Nat):List ME→List ME→Bool
 | [],[]=>true
 | a :: as,b :: bs=>Bo4 a.k b.k && Ab2 n a.v b.v && a.b == b.b && sameM n as bs
 | _,_=>false
def Az6:List Nat→List Nat→Bool
 | [],[]=>true
 | a :: as,b :: bs=>a == b && Az6 as bs
 | _,_=>false
def sameO:DObj→DObj→Bool
 | .row T a,.row T' b=>T == T' && sameL (Ab2 6) a b
 | .mapo c a,.mapo d b=>c == d && sameM 6 a b
 | .miter m c s l,.miter m' c' s' l'=>Ab2 2 m m' && c == c' && Az6 s s' && l == l'
 | _,_=>false
structure Look where
 i:Nat
 an:List Nat
 id:Nat
 own:Bool
 c:Bool
structure Past where
 q:Nat
 an:List Nat
 a:Tr DObj
 b:Tr DObj
def sameAt (a b:Tr DObj) (id:Nat):Bool:=match a.get id,b.get id with
 | some x,some y=>sameO x y
 | _,_=>false
def Ax8 (a b:Tr DObj) (id:Nat):Bool:=(a.get id).isSome == (b.get id).isSome
def Af9 (n0 m:Nat) (ws:List Look) (ps:List Past):Bool:=ws.all fun w=>ps.all fun p=>w.an.contains p.q || p.an.contains w.i ||
 (if Nat.blt w.id n0 || Nat.ble (n0+m) w.id then (if w.c then sameAt p.a p.b w.id else Ax8 p.a p.b w.id) else w.own && !p.an.contains (w.id - n0))
noncomputable def okRef (n0 m:Nat) (an:List Nat) (hp:Tr DObj) (id:Nat):Bool:=iteB (someB (gN hp id)) (iteB (Nat.blt id n0) true (iteB (Nat.ble (n0+m) id) true (an.contains (id - n0)))) false
noncomputable def refsL (es:ES) (ps:List Pa):List Nat:=List.rec (motive:=fun _=>List Nat) [] (fun p _ ih=>appL (refsE (rawE es (.t p))) ih) ps
structure DSt where
 es:ES
 lo:List Nat
 ws:List Look
 ps:List Past
def Ap4 (n0:Nat) (hp:Tr DObj):List Nat→Tr DObj
 | []=>hp
 | j :: js=>Ap4 n0 (hp.set (n0+j) none) js
def backL (n0:Nat) (old hp:Tr DObj):List Nat→Tr DObj
 | []=>hp
 | j :: js=>backL n0 old (hp.set (n0+j) (old.get (n0+j))) js
abbrev DStp:Type:=CallT→Nat→Nat→DSt→Option DSt
noncomputable def DSt.cs {α:Type} (d:DSt) (f:ES→List Nat→List Look→List Past→α):α:=DSt.rec (motive:=fun _=>α) f d
noncomputable def dMain (i:Nat) (an:List Nat) (s:Stp):DStp:=fun call n0 _ d=>
 d.cs fun es lo ws ps=>es.cs fun sl hp nx=>At3 (lo.filter fun j=>!an.contains j) fun hid=>
 Option.rec (motive:=fun _=>Option DSt) none (fun es'=>es'.cs fun sl' hp' nx'=>iteB (Nat.ble nx nx') (some ⟨⟨sl',backL n0 hp hp' hid,nx'⟩,hid,ws,⟨i,an,hp,backL n0 hp hp' hid⟩ :: ps⟩) none) (s call ⟨sl,Ap4 n0 hp hid,nx⟩)
noncomputable def lookE (i:Nat) (an:List Nat) (wide c:Bool) (refs:List Nat) (n0:Nat) (lo:List Nat) (ws:List Look):List Look:=iteB wide (appL (mapL (fun id=>⟨i,an,id,lo.contains (id - n0),c⟩) refs) ws) ws
noncomputable def dRead (i:Nat) (an:List Nat) (wide c:Bool) (dst:Option Pa) (x:Nat→XP) (ps:List Pa):DStp:=fun _ n0 _ d=>
 d.cs fun es lo ws pp=>Option.rec (motive:=fun _=>Option DSt) none (fun v=>some ⟨es.putE dst v,lo,lookE i an wide c (refsL es ps) n0 lo ws,pp⟩) (x (n0+i) es)
noncomputable def xKeep (x:XU):Nat→XP:=fun nid es=>Option.rec (motive:=fun _=>Option DV) none (fun p=>Upd.casesOn (motive:=fun _=>Option DV) p.2 (some p.1) (fun _=>none) (fun _ _=>none) (fun _ _=>none)) (x es nid)
noncomputable def dLay (i:Nat) (an:List Nat) (wide c:Bool) (dst:Option Pa) (x:XU) (ps:List Pa):DStp:=fun _ n0 _ d=>
 d.cs fun es lo ws pp=>es.cs fun sl hp nx=>Ag3 (n0+i) fun nid=>Option.rec (motive:=fun _=>Option DSt) none (fun p=>Upd.casesOn (motive:=fun _=>Option DSt) p.2 none
  (fun o=>some ⟨(ES.mk sl (setN hp nid (some o)) nx).putE dst p.1,i :: lo,lookE i an wide c (refsL es ps) n0 lo ws,pp⟩) (fun _ _=>none) (fun _ _=>none)) (x es nid)
noncomputable def dWr (i:Nat) (an:List Nat) (tgt:Nat) (dst:Option Pa) (x:XU) (ps:List Pa):DStp:=fun _ n0 _ d=>
 d.cs fun es lo ws pp=>es.cs fun sl hp nx=>Option.rec (motive:=fun _=>Option DSt) none (fun p=>Upd.casesOn (motive:=fun _=>Option DSt) p.2 none (fun _=>none)
  (fun id o=>iteB (Nat.beq id (n0+tgt) && lo.contains tgt && an.contains tgt && allL (refsL es ps) (fun r=>Nat.beq r (n0+tgt))) (some ⟨(ES.mk sl (setN hp id (some o)) nx).putE dst p.1,lo,ws,pp⟩) none) (fun _ _=>none)) (x es (n0+i))
noncomputable def dChk (an:List Nat) (ps:List Pa) (s:DStp):DStp:=fun call n0 m d=>iteB (allL (refsL d.es ps) fun id=>okRef n0 m an d.es.hp id) (s call n0 m d) none
noncomputable def dG (p:Pa) (b:Bool) (dst:Option Pa) (s:DStp):DStp:=fun call n0 m d=>Option.rec (motive:=fun _=>Option DSt) none (fun c=>Bool.rec (motive:=fun _=>Option DSt) (d.cs fun es lo ws pp=>some ⟨es.putE dst (.v undef),lo,ws,pp⟩) (s call n0 m d) c) (wantE d.es p b)
noncomputable def dq (s k:DStp):DStp:=fun call n0 m d=>Option.rec (motive:=fun _=>Option DSt) none (fun d'=>d'.cs fun es lo ws pp=>es.cs fun sl hp nx=>k call n0 m ⟨⟨sl,hp,nx⟩,lo,ws,pp⟩) (s call n0 m d)
noncomputable def dEnd:DStp:=fun _ _ _ d=>some d
def Ai7 (o:DOp):List Nat:=o.opnds.filterMap fun | .tmp t=>some t | _=>none
noncomputable def dstp (i:Nat) (r:DR) (o:OI):DStp:=
 dChk o.an ((Ai7 r.op).map pth) (match o.cls with
  | 2=>dMain i o.an (stepF (pthO r.dst) r.op)
  | 0=>dRead i o.an o.wide r.op.rdC (pthO r.dst) (match r.op with
   | .mv x=>fun _ es=>some (rawE es (.of x))
   | op=>match xopP op with
    | some x=>fun _=>x
    | none=>xKeep (xopU op)) ((Ai7 r.op).map pth)
  | 1=>dLay i o.an o.wide r.op.rdC (pthO r.dst) (xopU r.op) ((Ai7 r.op).map pth)
  | _=>dWr i o.an o.tgt (pthO r.dst) (xopU r.op) ((Ai7 r.op).map pth))
noncomputable def dstpG (i:Nat) (r:DR) (o:OI):DStp:=match r.g with
 | none=>dstp i r o
 | some (t,b)=>dG (pth t) b (pthO r.dst) (dstp i r o)
noncomputable def rundE:List DR→List OI→Nat→DStp
 | r :: rs,o :: os,i=>dq (dstpG i r o) (rundE rs os (i+1))
 | _,_,_=>dEnd
noncomputable def regE (m:Nat) (s:DStp):Stp:=fun call es=>Option.rec (motive:=fun _=>Option ES) none (fun d=>iteB (Af9 es.nx m d.ws d.ps) (some d.es) none) (es.cs fun sl hp nx=>Ag3 (nx+m) fun n=>s call nx m ⟨⟨sl,hp,n⟩,[],[],[]⟩)
abbrev CE:Type:=CallT→ES→Option (Exit×ES)
noncomputable def cN (s:Stp):CE:=fun call es=>Option.rec (motive:=fun _=>Option (Exit×ES)) none (fun es'=>some (.normal,es')) (s call es)
noncomputable def cE (e:Exit):CE:=fun _ es=>
 some (e,es)
noncomputable def cS (a b:CE):CE:=fun call es=>Option.rec (motive:=fun _=>Option (Exit×ES)) none (fun p=>Prod.rec (motive:=fun _=>Option (Exit×ES)) (fun e es'=>Exit.casesOn (motive:=fun _=>Option (Exit×ES)) e (b call es') (fun _=>some (e,es')) (fun _=>some (e,es')) (some (e,es')) (fun _=>some (e,es')) (some (e,es'))) p) (a call es)
noncomputable def cC (x:EO) (a b:CE):CE:=fun call es=>cV (rawE es x) (fun v=>cVal v (fun t=>Bool.rec (motive:=fun _=>Option (Exit×ES)) (b call es) (a call es) t) (fun _ _=>none) (fun _=>none) none) none
noncomputable def cB (id:Nat) (c:CE):CE:=fun call es=>Option.rec (motive:=fun _=>Option (Exit×ES)) none (fun p=>Prod.rec (motive:=fun _=>Option (Exit×ES)) (fun e es'=>Exit.casesOn (motive:=fun _=>Option (Exit×ES)) e (some (e,es')) (fun i=>iteB (Nat.beq i id) (some (.normal,es')) (some (e,es'))) (fun _=>some (e,es')) (some (e,es')) (fun _=>some (e,es')) (some (e,es'))) p) (c call es)
noncomputable def cL (n:Nat) (c:CE):CE:=Nat.rec (motive:=fun _=>CE) (fun _ _=>none) (fun _ ih=>cS c ih) n
noncomputable def cR (nt:Nat) (rd:Bool) (g:EO) (ps:List Nat) (a b:DC):CE:=fun call es=>if rd then none else match (evE es g).asFn with
 | some (f,cs)=>match call (.fn f) (.yl es.nx :: cs) (es.hp.set es.nx (some (.loop ⟨nt,.t es.sl,ps,a,b,.ready,none⟩))) (es.nx+1) with
  | some (_,hp,nx)=>match hp.get es.nx with
   | some (.loop lp)=>match lp.st with
    | .busy=>none
    | _=>match lp.pend with
     | none=>some (.normal,⟨es.sl,hp.set es.nx none,nx⟩)
     | some .ret=>some (.ret,⟨es.sl,hp.set es.nx none,nx⟩)
     | some (.exit i)=>some (.exit i,⟨es.sl,hp.set es.nx none,nx⟩)
     | _=>none
   | _=>none
  | none=>none
 | none=>none
noncomputable def evalE (n nt:Nat) (rd:Bool):DC→CE
 | .skip=>cE .normal
 | .ret=>cE .ret
 | .exit id=>cE (.exit id)
 | .seq a b=>cS (evalE n nt rd a) (evalE n nt rd b)
 | .cond x a b=>cC (.of x) (evalE n nt rd a) (evalE n nt rd b)
 | .blk id c=>cB id (evalE n nt rd c)
 | .loop c=>cL n (evalE n nt rd c)
 | .reg draw ops info=>match draw with
  | false=>cN (runE ops)
  | true=>match info.ok with
   | true=>cN (regE ops.length (rundE ops info.l 0))
   | false=>fun _ _=>none
 | .rng g ps a b=>cR nt rd (.of g) ps a b
 | .dfq t g cap=>match rd with
  | true=>fun _ _=>none
  | false=>cN (stepE (some (pth t)) (.mkf (.func g) [] cap))
 | .bad=>fun _ _=>none
noncomputable def argT (ds:List DV):Tr DV:=List.rec (motive:=fun _=>Nat→Tr DV→Tr DV) (fun _ t=>t) (fun d _ ih i t=>ih (i+1) (sP (pth i) (some d) t)) ds 0 .e
noncomputable def zipT (ps:List Nat) (ds:List DV):Tr DV→Tr DV:=List.rec (motive:=fun _=>List DV→Tr DV→Tr DV) (fun _ t=>t) (fun p _ ih ds t=>List.rec (motive:=fun _=>Tr DV) t (fun d ds' _=>ih ds' (sP (pth p) (some d) t)) ds) ps ds
structure FE where
 run:CE
 res:List (Nat×Option (Option Nat))
 nt:Nat
noncomputable def xLp (k:Option Nat) (x:EO):XP:=fun es=>cAdr (rawE es x) (fun _=>none) (fun id off=>cRow es.hp id (fun _ cs=>partE k (dropL off cs)) none) none
noncomputable def resE (es:ES) (q:Nat×Option (Option Nat)):Option DV:=Prod.rec (motive:=fun _=>Option DV) (fun t k=>Option.rec (motive:=fun _=>Option DV) (some (evE es (.t (pth t)))) (fun k=>xLp k (.t (pth t)) es) k) q
def resVE (ds:Option (List DV)):Option DV:=match ds with
 | some [d]=>some d
 | some ds=>some (.tup ds)
 | none=>none
noncomputable def finE (res:List (Nat×Option (Option Nat))) (es:ES):Option (DV×Tr DObj×Nat):=match resVE (res.mapM (resE es)) with
 | some d=>some (d,es.hp,es.nx)
 | none=>none
noncomputable def stepC (tb:Nat→Option FE) (n:Nat) (call:CallT):CallT:=fun tg ds hp nx=>match tg with
  | .fn f=>match tb f with
   | some fe=>if ds.length≤fe.nt then match fe.run (call) ⟨argT ds,hp,nx⟩ with
     | some (.normal,es)=>finE fe.res es
     | some (.ret,es)=>finE fe.res es
     | _=>none
    else none
   | none=>none
  | .yl id=>match hp.get id with
   | some (.loop lp)=>match lp.st,lp.sl with
    | .ready,.t sl=>if ds.length=lp.ps.length∧lp.ps.all (fun t=>Nat.blt t lp.nt)=true then
      match evalE n lp.nt true lp.asg (call) ⟨zipT lp.ps ds sl,hp,nx⟩ with
      | some (.normal,es1)=>match es1.hp.get id with
       | some (.loop lp1)=>match lp1.st with
        | .ready=>match evalE n lp.nt true lp.body (call) { es1 with hp:=es1.hp.set id (some (.loop { lp1 with st:=.busy })) } with
         | some (e,es2)=>match es2.hp.get id with
          | some (.loop lp2)=>match e with
           | .normal=>some (.v (.bool true),es2.hp.set id (some (.loop { lp2 with st:=.ready,pend:=none })),es2.nx)
           | .ret=>some (.v (.bool false),es2.hp.set id (some (.loop { lp2 with st:=.done,pend:=some .ret })),es2.nx)
           | .exit i=>some (.v (.bool false),es2.hp.set id (some (.loop { lp2 with st:=.done,pend:=some (.exit i) })),es2.nx)
           | _=>none
          | _=>none
         | none=>none
        | _=>none
       | _=>none
      | _=>none
     else none
    | _,_=>none
   | _=>none
noncomputable def callE (tb:Nat→Option FE) (n:Nat):Nat→CallT
 | 0=>fun _ _ _ _=>none
 | k+1=>stepC tb n (callE tb n k)
def okBE:Option (DV×Tr DObj×Nat)→Bool
 | some (.v (.bool b),_,_)=>b
 | _=>false
def bs (l:List UInt8):ByteArray:=⟨l.toArray⟩
end Go.DD

/- The evaluator's parts are the deep layer's. -/
namespace Go.DD
theorem Bo5 {α:Type} : ∀ (f k:Nat) (t:Tr α),k≤f→gP (pthF f k) t=t.get k
 | 0,k,t,h=>by
  obtain rfl:k=0:=by omega
  cases t <;> rfl
 | f+1,0,t,_=>by cases t <;> rfl
 | f+1,k+1,t,h=>by
  have ih:=fun (t:Tr α)=>Bo5 f (k / 2) t (by omega)
  simp only [pthF]
  by_cases hk:k % 2=0
  ·rw [if_pos hk]
   cases t with
   | e=>rfl
   | n l v r=>simp only [Tr.get,if_pos hk,← ih]; rfl
  ·rw [if_neg hk]
   cases t with
   | e=>rfl
   | n l v r=>simp only [Tr.get,if_neg hk,← ih]; rfl
theorem Cl9 {α:Type} (k:Nat) (t:Tr α):gP (pth k) t=t.get k:=Bo5 k k t (Nat.le_refl _)
theorem Bo6 {α:Type} : ∀ (f k j:Nat) (v:Option α) (t:Tr α),k≤f→(sP (pthF f k) v t).get j=if k=j then v else t.get j
 | 0,k,j,v,t,h=>by
  obtain rfl:k=0:=by omega
  cases t <;> cases j <;> simp [sP,pthF,Tr.get]
 | f+1,0,j,v,t,_=>by cases t <;> cases j <;> simp [sP,pthF,Tr.get]
 | f+1,k+1,j,v,t,h=>by
  have ih:=fun (t:Tr α) j=>Bo6 f (k / 2) j v t (by omega)
  simp only [pthF]
  by_cases hk:k % 2=0
  ·rw [if_pos hk]
   cases t with
   | e=>
    show (Tr.n (sP (pthF f (k / 2)) v .e) none .e).get j=_
    cases j with
    | zero=>simp [Tr.get]
    | succ j=>
     simp only [Tr.get]
     by_cases hj:j % 2=0
     ·rw [if_pos hj,ih]
      by_cases he:k=j
      ·subst he; simp
      ·rw [if_neg (by omega),if_neg (by omega)]; rfl
     ·rw [if_neg hj,if_neg (by omega)]
   | n l x r=>
    show (Tr.n (sP (pthF f (k / 2)) v l) x r).get j=_
    cases j with
    | zero=>simp [Tr.get]
    | succ j=>
     simp only [Tr.get]
     by_cases hj:j % 2=0
     ·rw [if_pos hj,if_pos hj,ih]
      by_cases he:k=j
      ·subst he; simp
      ·rw [if_neg (by omega),if_neg (by omega)]
     ·rw [if_neg hj,if_neg hj,if_neg (by omega)]
  ·rw [if_neg hk]
   cases t with
   | e=>
    show (Tr.n .e none (sP (pthF f (k / 2)) v .e)).get j=_
    cases j with
    | zero=>simp [Tr.get]
    | succ j=>
     simp only [Tr.get]
     by_cases hj:j % 2=0
     ·rw [if_pos hj,if_neg (by omega)]
     ·rw [if_neg hj,ih]
      by_cases he:k=j
      ·subst he; simp
      ·rw [if_neg (by omega),if_neg (by omega)]; rfl
   | n l x r=>
    show (Tr.n l x (sP (pthF f (k / 2)) v r)).get j=_
    cases j with
    | zero=>simp [Tr.get]
    | succ j=>
     simp only [Tr.get]
     by_cases hj:j % 2=0
     ·rw [if_pos hj,if_pos hj,if_neg (by omega)]
     ·rw [if_neg hj,if_neg hj,ih]
      by_cases he:k=j
      ·subst he; simp
      ·rw [if_neg (by omega),if_neg (by omega)]
theorem Bo7 {α:Type} (k j:Nat) (v:Option α) (t:Tr α):(sP (pth k) v t).get j=if k=j then v else t.get j:=Bo6 k k j v t (Nat.le_refl _)
theorem Ba3 (j:Nat):Nat.beq (Nat.mod j 2) 0=decide (j % 2=0):=by
 show Nat.beq (j % 2) 0=_
 cases h:Nat.beq (j % 2) 0 with
 | true=>have:=Nat.eq_of_beq_eq_true h; simp [this]
 | false=>have:=Nat.ne_of_beq_eq_false h; simp [this]
theorem gN_eq {α:Type} : ∀ (t:Tr α) (k:Nat),gN t k=t.get k
 | .e,k=>rfl
 | .n l v r,0=>rfl
 | .n l v r,k+1=>by
  have e:gN (.n l v r) (k+1)=Bool.rec (gN r (Nat.div k 2)) (gN l (Nat.div k 2)) (Nat.beq (Nat.mod k 2) 0):=rfl
  rw [e,Ba3]
  simp only [Tr.get]
  have h1:gN r (Nat.div k 2)=r.get (k / 2):=gN_eq r _
  have h2:gN l (Nat.div k 2)=l.get (k / 2):=gN_eq l _
  by_cases hk:k % 2=0
  ·simp only [hk,decide_true,if_true]; exact h2
  ·simp only [hk,decide_false,if_false]; exact h1
theorem B49 {α:Type} : ∀ (f k j:Nat) (v:Option α) (t:Tr α),k≤f→(sN f v t k).get j=if k=j then v else t.get j
 | 0,k,j,v,t,h=>by
  obtain rfl:k=0:=by omega
  cases t <;> cases j <;> simp [sN,Tr.get]
 | f+1,0,j,v,t,_=>by cases t <;> cases j <;> simp [sN,Tr.get]
 | f+1,k+1,j,v,t,h=>by
  have ih:=fun (t:Tr α) j=>B49 f (k / 2) j v t (by omega)
  have ih':∀ t j,(sN f v t (Nat.div k 2)).get j=if k / 2=j then v else t.get j:=ih
  by_cases hk:k % 2=0
  ·have hb:Nat.beq (Nat.mod k 2) 0=true:=by rw [Ba3]; simp [hk]
   cases t with
   | e=>
    have e:sN (f+1) v .e (k+1)=.n (sN f v .e (Nat.div k 2)) none .e:=by
     have e0:sN (f+1) v .e (k+1)=Bool.rec (motive:=fun _=>Tr α) (.n .e none (sN f v .e (Nat.div k 2))) (.n (sN f v .e (Nat.div k 2)) none .e) (Nat.beq (Nat.mod k 2) 0):=rfl
     rw [e0,hb]
    rw [e]
    cases j with
    | zero=>simp [Tr.get]
    | succ j=>
     simp only [Tr.get]
     by_cases hj:j % 2=0
     ·rw [if_pos hj,ih']
      by_cases he:k=j
      ·subst he; simp
      ·rw [if_neg (by omega),if_neg (by omega)]; rfl
     ·rw [if_neg hj,if_neg (by omega)]
   | n l x r=>
    have e:sN (f+1) v (.n l x r) (k+1)=.n (sN f v l (Nat.div k 2)) x r:=by
     have e0:sN (f+1) v (.n l x r) (k+1)=Bool.rec (motive:=fun _=>Tr α) (.n l x (sN f v r (Nat.div k 2))) (.n (sN f v l (Nat.div k 2)) x r) (Nat.beq (Nat.mod k 2) 0):=rfl
     rw [e0,hb]
    rw [e]
    cases j with
    | zero=>simp [Tr.get]
    | succ j=>
     simp only [Tr.get]
     by_cases hj:j % 2=0
     ·rw [if_pos hj,if_pos hj,ih']
      by_cases he:k=j
      ·subst he; simp
      ·rw [if_neg (by omega),if_neg (by omega)]
     ·rw [if_neg hj,if_neg hj,if_neg (by omega)]
  ·have hb:Nat.beq (Nat.mod k 2) 0=false:=by rw [Ba3]; simp [hk]
   cases t with
   | e=>
    have e:sN (f+1) v .e (k+1)=.n .e none (sN f v .e (Nat.div k 2)):=by
     have e0:sN (f+1) v .e (k+1)=Bool.rec (motive:=fun _=>Tr α) (.n .e none (sN f v .e (Nat.div k 2))) (.n (sN f v .e (Nat.div k 2)) none .e) (Nat.beq (Nat.mod k 2) 0):=rfl
     rw [e0,hb]
    rw [e]
    cases j with
    | zero=>simp [Tr.get]
    | succ j=>
     simp only [Tr.get]
     by_cases hj:j % 2=0
     ·rw [if_pos hj,if_neg (by omega)]
     ·rw [if_neg hj,ih']
      by_cases he:k=j
      ·subst he; simp
      ·rw [if_neg (by omega),if_neg (by omega)]; rfl
   | n l x r=>
    have e:sN (f+1) v (.n l x r) (k+1)=.n l x (sN f v r (Nat.div k 2)):=by
     have e0:sN (f+1) v (.n l x r) (k+1)=Bool.rec (motive:=fun _=>Tr α) (.n l x (sN f v r (Nat.div k 2))) (.n (sN f v l (Nat.div k 2)) x r) (Nat.beq (Nat.mod k 2) 0):=rfl
     rw [e0,hb]
    rw [e]
    cases j with
    | zero=>simp [Tr.get]
    | succ j=>
     simp only [Tr.get]
     by_cases hj:j % 2=0
     ·rw [if_pos hj,if_pos hj,if_neg (by omega)]
     ·rw [if_neg hj,if_neg hj,ih']
      by_cases he:k=j
      ·subst he; simp
      ·rw [if_neg (by omega),if_neg (by omega)]
theorem Au4 {α:Type} (t:Tr α) (k:Nat) (v:Option α):(setN t k v).get=fun j=>if j=k then v else t.get j:=by
 funext j
 unfold setN
 rw [B49 k k j v t (Nat.le_refl _)]
 by_cases h:k=j
 ·rw [if_pos h,if_pos h.symm]
 ·rw [if_neg h,if_neg (Ne.symm h)]
theorem Ap5 {t:Tr DObj} {k:Nat} {v:Option DObj} : (setN t k v).get=setH t.get k v:=Au4 t k v
theorem Tr.set_ho {t:Tr DObj} {k:Nat} {v:Option DObj} : (t.set k v).get=setH t.get k v:=by
 funext j
 rw [Tr.get_set]
 unfold setH
 by_cases h:k=j
 ·rw [if_pos h,if_pos h.symm]
 ·rw [if_neg h,if_neg (Ne.symm h)]
theorem Al7 (d:DV):refsE d=d.refs:=by cases d <;> simp [refsE,DV.refs]
theorem Ax9 {α:Type} (l:List α) (f:α→Bool):allL l f=l.all f:=by
 induction l with
 | nil=>rfl
 | cons a l ih=>
  have e:allL (a :: l) f=Bool.rec false (allL l f) (f a):=rfl
  rw [e,ih,List.all_cons]
  cases f a <;> rfl
theorem Ag4 {α:Type} (x:Option α):someB x=x.isSome:=by cases x <;> rfl
theorem Ab4 {α:Type} (b:Bool) (x y:α):iteB b x y=if b=true then x else y:=by cases b <;> rfl
theorem By8 (es:ES) (d:DV):liveE es.hp d=if es.ds.live d=true then d else .any:=by
 unfold liveE
 rw [Ab4,Ax9,Al7]
 simp only [Ag4,gN_eq]
 rfl
theorem Ab5 (es:ES) (x:Operand):rawE es (.of x)=es.ds.rv x:=by
 cases x with
 | tmp t=>
  show (Option.rec .any (fun d=>d) (gP (pth t) es.sl):DV)=(es.sl.get t).getD .any
  rw [Cl9]
  cases es.sl.get t <;> rfl
 | _=>rfl
theorem An0 (es:ES) (x:Operand):evE es (.of x)=es.ds.ev x:=by
 cases x with
 | tmp t=>
  have h:=Ab5 es (.tmp t)
  show liveE es.hp (rawE es (.of (.tmp t)))=_
  rw [h,By8]
  rfl
 | _=>rfl
theorem Bo8 (es:ES) (t:Nat):rawE es (.t (pth t))=es.ds.sv t:=Ab5 es (.tmp t)
theorem Ab7 {α:Type} (n:Nat) (k:Nat→α):Ag3 n k=k n:=by cases n <;> rfl
theorem A62 {α:Type} (n:Int) (k:Int→α):Bo2 n k=k n:=by
 cases n with
 | ofNat m=>exact Ab7 m fun m=>k (.ofNat m)
 | negSucc m=>exact Ab7 m fun m=>k (.negSucc m)
theorem Aq6 {β α:Type} (l:List β) (k:List β→α):At3 l k=k l:=by
 induction l generalizing k with
 | nil=>rfl
 | cons a l ih=>
  have e:At3 (a :: l) k=At3 l (fun t=>k (a :: t)):=rfl
  rw [e,ih]
theorem Ad7 {α:Type} : ∀ (n:Nat) (l:List α),dropL n l=l.drop n
 | 0,l=>rfl
 | n+1,[]=>rfl
 | n+1,a :: l=>by
  have e:dropL (n+1) (a :: l)=dropL n l:=rfl
  rw [e,Ad7 n l]; rfl
theorem Au5 {α:Type} : ∀ (n:Nat) (l:List α),takeL n l=l.take n
 | 0,l=>rfl
 | n+1,[]=>rfl
 | n+1,a :: l=>by
  have e:takeL (n+1) (a :: l)=a :: takeL n l:=rfl
  rw [e,Au5 n l]; rfl
theorem Af6 {α:Type} (a b:List α):appL a b=a ++ b:=by
 induction a with
 | nil=>rfl
 | cons x a ih=>
  have e:appL (x :: a) b=x :: appL a b:=rfl
  rw [e,ih]; rfl
theorem An1 {α β:Type} (f:α→β) (l:List α):mapL f l=l.map f:=by
 induction l with
 | nil=>rfl
 | cons x a ih=>
  have e:mapL f (x :: a)=f x :: mapL f a:=rfl
  rw [e,ih]; rfl
theorem An2 (d:DV):Az5 d=d.cells:=by cases d <;> rfl
theorem Bd5 (d:DV):okE d=d.okC:=by cases d <;> rfl
theorem Al8 (k:Option Nat) (cs:List DV):partE k cs=partD k cs:=by
 cases k with
 | none=>cases cs <;> rfl
 | some n=>
  have e:partE (some n) cs=iteB (Nat.ble n cs.length) (some (.agg (takeL n cs))) none:=rfl
  rw [e,Ab4,Au5]
  simp [partD,Nat.ble_eq]
theorem Al9 {α:Type} {d:DV} {f:Value→Option α} {x:α} (h:cV d f none=some x):∃ v,d=.v v∧f v=some x:=by
 cases d with
 | v y=>exact ⟨y,rfl,h⟩
 | _=>cases h
theorem An3 {α:Type} {v:Value} {fb:Bool→Option α} {fi:IntKind→Int→Option α} {fs:ByteArray→Option α} {x:α} (h:cVal v fb fi fs none=some x) :
  (∃ b,v=.bool b∧fb b=some x)∨(∃ k n,v=.int k n∧fi k n=some x)∨∃ s,v=.string s∧fs s=some x:=by
 cases v with
 | bool b=>exact .inl ⟨b,rfl,h⟩
 | int k n=>exact .inr (.inl ⟨k,n,rfl,h⟩)
 | string s=>exact .inr (.inr ⟨s,rfl,h⟩)
 | _=>cases h
theorem A24 (x:Option Value):outV x=x.map .v:=by
 cases x with
 | none=>rfl
 | some v=>
  cases v with
  | bool b=>cases b <;> rfl
  | int k n=>exact A62 n fun n=>some (DV.v (.int k n))
  | _=>rfl
theorem Cd7 (k k':IntKind):Nat.beq k.ctorIdx k'.ctorIdx=true↔k=k':=by cases k <;> cases k' <;> decide
theorem ev_v {s:DS} {x:Operand} {v:Value} (h:s.rv x=.v v):s.ev x=.v v:=by
 cases x with
 | tmp t=>
  have h':s.sv t=.v v:=h
  simp [DS.ev,h',DS.live,DV.refs]
 | _=>exact h
theorem ev_ia {s:DS} {x:Operand} {cs:List DV} (h:s.rv x=.ia cs):s.ev x=.ia cs:=by
 cases x with
 | tmp t=>
  have h':s.sv t=.ia cs:=h
  simp [DS.ev,h',DS.live,DV.refs]
 | _=>exact h
theorem ev_sl {s:DS} {x:Operand} {cs:List DV} {n:Nat} (h:s.rv x=.sl cs n):s.ev x=.sl cs n:=by
 cases x with
 | tmp t=>
  have h':s.sv t=.sl cs n:=h
  simp [DS.ev,h',DS.live,DV.refs]
 | _=>exact h
theorem ev_pt {s:DS} {x:Operand} {id off:Nat} (h:s.rv x=.pt id off) (ha:(s.ho id).isSome=true):s.ev x=.pt id off:=by
 cases x with
 | tmp t=>
  have h':s.sv t=.pt id off:=h
  simp [DS.ev,h',DS.live,DV.refs,ha]
 | _=>exact h
theorem ev_ms {s:DS} {x:Operand} {id off n es:Nat} (h:s.rv x=.ms id off n es) (ha:(s.ho id).isSome=true):s.ev x=.ms id off n es:=by
 cases x with
 | tmp t=>
  have h':s.sv t=.ms id off n es:=h
  simp [DS.ev,h',DS.live,DV.refs,ha]
 | _=>exact h
theorem An4 {α:Type} {d:DV} {fi:List DV→Option α} {fp:Nat→Nat→Option α} {x:α} (h:cAdr d fi fp none=some x):(∃ cs,d=.ia cs∧fi cs=some x)∨∃ id off,d=.pt id off∧fp id off=some x:=by
 cases d with
 | ia cs=>exact .inl ⟨cs,rfl,h⟩
 | pt id off=>exact .inr ⟨id,off,rfl,h⟩
 | _=>cases h
theorem Ay0 {α:Type} {hp:Tr DObj} {id:Nat} {f:TypeId→List DV→Option α} {x:α} (h:cRow hp id f none=some x):∃ T cs,hp.get id=some (.row T cs)∧f T cs=some x:=by
 unfold cRow at h
 rw [gN_eq] at h
 cases ho:hp.get id with
 | none=>rw [ho] at h; cases h
 | some o=>
  rw [ho] at h
  cases o with
  | row T cs=>exact ⟨T,cs,rfl,h⟩
  | _=>cases h
theorem Bd6 {α:Type} {d:DV} {fv:Value→Option α} {fs:List DV→Nat→Option α} {fm:Nat→Nat→Nat→Nat→Option α} {x:α} (h:cSl d fv fs fm none=some x) :
  (∃ v,d=.v v∧fv v=some x)∨(∃ cs n,d=.sl cs n∧fs cs n=some x)∨∃ id off n es,d=.ms id off n es∧fm id off n es=some x:=by
 cases d with
 | v v=>exact .inl ⟨v,rfl,h⟩
 | sl cs n=>exact .inr (.inl ⟨cs,n,rfl,h⟩)
 | ms id off n es=>exact .inr (.inr ⟨id,off,n,es,rfl,h⟩)
 | _=>cases h
theorem Bo9 {α:Type} {d:DV} {f:Int→Option α} {x:α} (h:cI d f none=some x):∃ k n,d=.v (.int k n)∧f n=some x:=by
 obtain ⟨v,rfl,h⟩:=Al9 h
 rcases An3 h with ⟨_,_,h⟩ | ⟨k,n,rfl,h⟩ | ⟨_,_,h⟩
 ·cases h
 ·exact ⟨k,n,rfl,h⟩
 ·cases h
theorem Au6 {α:Type} {j:Int} {n:Nat} {f:Nat→Option α} {x:α} (h:cIx j n f none=some x):0≤j∧j < n∧f j.toNat=some x:=by
 cases j with
 | ofNat m=>
  have e:cIx (.ofNat m) n f none=iteB (Nat.blt m n) (f m) none:=rfl
  rw [e,Ab4] at h
  split at h
  ·rename_i hb
   have:m < n:=by simpa [Nat.blt_eq] using hb
   refine ⟨Int.natCast_nonneg m,?_,h⟩
   show (m:Int) < n
   omega
  ·cases h
 | negSucc m=>cases h
theorem Ac0 {α:Type} {b:Bool} {y:Option α} {x:α} (h:iteB b y none=some x):b=true∧y=some x:=by
 cases b
 ·cases h
 ·exact ⟨rfl,h⟩
theorem A63 {α:Type} {d:DV} {f:List DV→Option α} {x:α} (h:cTup d f none=some x):∃ ds,d=.tup ds∧f ds=some x:=by
 cases d with
 | tup ds=>exact ⟨ds,rfl,h⟩
 | _=>cases h
theorem Bp0 {o:DOp} {x:XP} (hx:xopP o=some x) {es:ES} {d:DV} (h:x es=some d) (nid:Nat):execU nid es.ds o=some (d,.keep):=by
 cases o <;> simp only [xopP,Option.some.injEq] at hx <;> first | (cases hx; done) | skip
 case pick c a b=>
  subst hx
  obtain ⟨v,hv,h⟩:=Al9 h
  rw [Ab5] at hv
  rcases An3 h with ⟨t,rfl,h2⟩ | ⟨_,_,_,h2⟩ | ⟨_,_,h2⟩
  ·rw [Ab5,Ab5,Ab4] at h2
   cases h2
   simp [execU,ev_v hv]
  ·cases h2
  ·cases h2
 case ld k a=>
  subst hx
  rcases An4 h with ⟨cs,ha,h⟩ | ⟨id,off,ha,h⟩
  ·rw [Ab5] at ha
   rw [Al8] at h
   simp [execU,ev_ia ha,h]
  ·rw [Ab5] at ha
   obtain ⟨T,cs,hr,h⟩:=Ay0 h
   rw [Al8,Ad7] at h
   have ho:es.ds.ho id=some (.row T cs):=hr
   simp [execU,ev_pt ha (by rw [ho]; rfl),ho,h]
 case bin op a b=>
  subst hx
  obtain ⟨v,hv,h⟩:=Al9 h
  obtain ⟨w,hw,h⟩:=Al9 h
  rw [Ab5] at hv hw
  rcases An3 h with ⟨_,_,h2⟩ | ⟨k,p,rfl,h2⟩ | ⟨s,rfl,h2⟩
  ·cases h2
  ·rcases An3 h2 with ⟨_,_,h3⟩ | ⟨k',q,rfl,h3⟩ | ⟨_,_,h3⟩
   ·cases h3
   ·rw [A24] at h3
    obtain ⟨u,hu,rfl⟩:=Option.map_eq_some_iff.1 h3
    rw [Ab4,Ab4] at hu
    simp only [Cd7] at hu
    simp [execU,ev_v hv,ev_v hw,binV,hu]
   ·cases h3
  ·rcases An3 h2 with ⟨_,_,h3⟩ | ⟨_,_,_,h3⟩ | ⟨s',rfl,h3⟩
   ·cases h3
   ·cases h3
   ·rw [A24] at h3
    obtain ⟨u,hu,rfl⟩:=Option.map_eq_some_iff.1 h3
    simp [execU,ev_v hv,ev_v hw,binV,hu]
 case un op a=>
  subst hx
  obtain ⟨v,hv,h2⟩:=Al9 h
  rw [Ab5] at hv
  rw [A24] at h2
  obtain ⟨u,hu,rfl⟩:=Option.map_eq_some_iff.1 h2
  simp [execU,ev_v hv,hu]
 case fa off a=>
  subst hx
  rcases An4 h with ⟨cs,ha,h⟩ | ⟨id,o,ha,h⟩
  ·rw [Ab5] at ha
   rw [Ad7] at h
   cases h
   simp [execU,ev_ia ha]
  ·rw [Ab5] at ha
   obtain ⟨hl,h⟩:=Ac0 h
   rw [Ag4,gN_eq] at hl
   rw [Ab7] at h
   cases h
   simp [execU,ev_pt ha hl]
 case ia es' a i=>
  subst hx
  obtain ⟨k,j,hj,h⟩:=Bo9 h
  rw [Ab5] at hj
  rcases Bd6 h with ⟨_,_,h⟩ | ⟨cs,n,ha,h⟩ | ⟨id,off,n,es2,ha,h⟩
  ·cases h
  ·rw [Ab5] at ha
   obtain ⟨h0,h1,h⟩:=Au6 h
   rw [Ad7] at h
   cases h
   simp [execU,ev_v hj,ev_sl ha,intD,h0,h1]
  ·rw [Ab5] at ha
   obtain ⟨hl,h⟩:=Ac0 h
   rw [Ag4,gN_eq] at hl
   obtain ⟨h0,h1,h⟩:=Au6 h
   rw [Ab7] at h
   cases h
   simp [execU,ev_v hj,ev_ms ha hl,intD,h0,h1]
 case fx n es' a i=>
  subst hx
  obtain ⟨k,j,hj,h⟩:=Bo9 h
  rw [Ab5] at hj
  rcases An4 h with ⟨cs,ha,h⟩ | ⟨id,off,ha,h⟩
  ·rw [Ab5] at ha
   obtain ⟨h0,h1,h⟩:=Au6 h
   rw [Ad7] at h
   cases h
   simp [execU,ev_v hj,ev_ia ha,intD,h0,h1]
  ·rw [Ab5] at ha
   obtain ⟨hl,h⟩:=Ac0 h
   rw [Ag4,gN_eq] at hl
   obtain ⟨h0,h1,h⟩:=Au6 h
   rw [Ab7] at h
   cases h
   simp [execU,ev_v hj,ev_pt ha hl,intD,h0,h1]
 case len a=>
  subst hx
  rcases Bd6 h with ⟨v,ha,h⟩ | ⟨cs,n,ha,h⟩ | ⟨id,off,n,es2,ha,h⟩
  ·rw [Ab5] at ha
   cases v <;> first | (cases h; done) | skip
   rename_i ad n c
   cases ad with
   | none=>
    cases h
    simp [execU,ev_v ha]
   | some ad=>cases h
  ·rw [Ab5] at ha
   rw [Ab7] at h
   cases h
   simp [execU,ev_sl ha]
  ·rw [Ab5] at ha
   obtain ⟨hl,h⟩:=Ac0 h
   rw [Ag4,gN_eq] at hl
   rw [Ab7] at h
   cases h
   simp [execU,ev_ms ha hl]
 case ext a i=>
  subst hx
  obtain ⟨ds,ha,h⟩:=A63 h
  rw [Ab5] at ha
  have hn:∀ ds:List DV,nthL i ds=ds[i]?:=fun ds=>by
   unfold nthL
   rw [Ad7,← List.head?_drop]
   cases ds.drop i <;> rfl
  rw [hn] at h
  cases hd:ds[i]? with
  | none=>rw [hd] at h; cases h
  | some d0=>
   rw [hd] at h
   cases d0 with
   | v v=>
    have h':some (DV.v v)=some d:=h
    cases h'
    simp [execU,ha,extV,hd]
   | _=>
    obtain ⟨ds',ha',h⟩:=A63 h
    rw [An0] at ha'
    rw [hn] at h
    simp [execU,ha,extV,hd,ha',h]
theorem A25 {o:DOp} {es:ES} {nid:Nat} {d:DV} {u:Upd} (h:xopU o es nid=some (d,u)):execU nid es.ds o=some (d,u):=by
 unfold xopU at h
 split at h
 ·rename_i n a x
  unfold xSt at h
  rcases An4 h with ⟨_,_,h⟩ | ⟨id,off,ha,h⟩
  ·cases h
  ·rw [Ab5] at ha
   obtain ⟨T,cs,hr,h⟩:=Ay0 h
   obtain ⟨h1,h⟩:=Ac0 h
   obtain ⟨h2,h⟩:=Ac0 h
   obtain ⟨h3,h⟩:=Ac0 h
   rw [Aq6] at h
   rw [Bd5,An0] at h1
   rw [An2,An0] at h2
   have h2':=Nat.eq_of_beq_eq_true h2
   have h3':off+n≤cs.length:=by simpa [Nat.ble_eq] using h3
   simp only [An2,An0,Af6,Au5,Ad7] at h
   have ho:es.ds.ho id=some (.row T cs):=hr
   simp only [execU,ev_pt ha (by rw [ho]; rfl),ho,h1,h2',h3',and_self,if_true]
   rw [← h,List.append_assoc]
 ·rename_i T x
  unfold xBx at h
  obtain ⟨h1,h⟩:=Ac0 h
  rw [Bd5,An0] at h1
  rw [An2,An0] at h
  simp only [execU,h1,if_true]
  exact h
 ·exact h
 ·exact h
theorem Bd7 (es:ES) (t:Nat) (b:Bool):wantE es (pth t) b=es.ds.wanted (some (t,b)):=by
 unfold wantE
 rw [Bo8]
 simp only [DS.wanted]
 cases hd:es.ds.sv t with
 | v x=>cases x <;> rfl
 | _=>rfl
theorem Ah0 (es:ES) (dst:Option Nat) (d:DV):(es.putE (pthO dst) d).ds=es.ds.put dst d:=by
 obtain ⟨sl,hp,nx⟩:=es
 cases dst with
 | none=>rfl
 | some t=>
  show ES.ds ⟨sP (pth t) (some d) sl,hp,nx⟩=_
  simp only [ES.ds,DS.put]
  congr 1
  funext u
  rw [Bo7]
  split <;> simp
theorem A26 (hp:Tr DObj) (nid:Nat) (u:Upd):(updE hp nid u).get=u.app nid hp.get:=by
 cases u with
 | keep=>rfl
 | lay o=>exact Ap5
 | wr id o=>exact Ap5
 | mv old o=>
  cases old with
  | none=>exact Ap5
  | some i=>
   show (setN (setN hp i none) nid (some o)).get=_
   rw [Ap5,Ap5]; rfl
end Go.DD

/- The evaluator's steps, in the text's order. -/
namespace Go.DD
def DS.Fr (s:DS):Prop:=∀ id,s.nx≤id→s.ho id=none
structure Gw (s s':DS):Prop where
 le:s.nx≤s'.nx
 new:∀ id,s.ho id=none→s'.ho id≠none→s.nx≤id∧id < s'.nx
theorem Gw.refl (s:DS):Gw s s:=⟨Nat.le_refl _,fun _ h1 h2=>absurd h1 h2⟩
theorem Gw.of {s s':DS} (h1:s'.ho=s.ho) (h2:s'.nx=s.nx):Gw s s':=⟨by omega,fun id h3 h4=>by rw [h1] at h4; exact absurd h3 h4⟩
theorem Gw.trans {s s' s'':DS} (h1:Gw s s') (h2:Gw s' s''):Gw s s'':=by
 refine ⟨Nat.le_trans h1.le h2.le,fun id h3 h4=>?_⟩
 have:=h1.le
 have:=h2.le
 by_cases h5:s'.ho id=none
 ·have:=h2.new id h5 h4; omega
 ·have:=h1.new id h3 h5; omega
theorem Gw.fr {s s':DS} (h1:s.Fr) (h2:Gw s s'):s'.Fr:=fun id h=>by
 have h3:=h2.le
 cases h4:s'.ho id with
 | none=>rfl
 | some o=>
  have:=h2.new id (h1 id (by omega)) (by rw [h4]; simp)
  omega
theorem Gw.put (s:DS) (dst:Option Nat) (d:DV):Gw s (s.put dst d):=Gw.of (DS.ho_put s dst d) (DS.nx_put s dst d)
theorem Gw.congr {s s' t t':DS} (h:Gw s s') (h1:t.ho=s.ho) (h2:t.nx=s.nx) (h3:t'.ho=s'.ho) (h4:t'.nx=s'.nx):Gw t t':=⟨by rw [h2,h4]; exact h.le,fun id=>by rw [h1,h2,h3,h4]; exact h.new id⟩
theorem As2 {nid:Nat} {s:DS} {op:DOp} {d:DV} {u:Upd} (h:execU nid s op=some (d,u)):s.hasU u=true:=by
 cases u with
 | keep=>rfl
 | lay o=>rfl
 | wr id o=>
  cases op <;> simp only [execU] at h
  case st n a x=>
   split at h
   ·split at h
    ·rename_i id' off e T cs ho
     split at h
     ·cases h; simp [DS.hasU,ho]
     ·cases h
    ·cases h
   ·cases h
  case mup kd x k y=>
   split at h
   ·split at h
    ·split at h
     ·split at h
      ·rename_i ho
       split at h
       ·cases h; simp [DS.hasU,ho]
       ·cases h
      ·cases h
     ·cases h
    ·cases h
   ·cases h
  case men kd z x k=>
   split at h
   ·split at h
    ·split at h
     ·split at h
      ·rename_i ho
       split at h
       ·cases h; simp [DS.hasU,ho]
       ·cases h; simp [DS.hasU,ho]
       ·cases h
      ·cases h
     ·cases h
    ·cases h
   ·cases h
  case mes x q y=>
   split at h
   ·split at h
    ·rename_i ho
     split at h
     ·cases h; simp [DS.hasU,ho]
     ·cases h
    ·cases h
   ·cases h
  case nxs x=>
   split at h
   ·split at h
    ·rename_i ho
     split at h
     ·cases h; simp [DS.hasU,ho]
     ·cases h
    ·cases h
   ·cases h
  case cpy es x y=>
   split at h
   ·split at h
    ·rename_i ho
     split at h
     ·cases h; simp [DS.hasU,ho]
     ·cases h
    ·cases h
   ·cases h
  all_goals (repeat' (first | (cases h; done) | split at h | (obtain ⟨_,_,h'⟩:=Option.map_eq_some_iff.1 h; cases h'; done)))
 | mv old o=>
  cases old with
  | none=>rfl
  | some id=>
   cases op <;> simp only [execU] at h
   case app T es bytes d x=>
    split at h
    ·rename_i old cs n news m e1 e2
     split at h
     ·cases h
      unfold dstD at e1
      split at e1
      ·cases e1
      ·split at e1
       ·rename_i ho
        simp only [DS.hasU]
        split at e1
        ·cases e1; simp [ho]
        ·cases e1
       ·cases e1
      ·cases e1
     ·cases h
    ·cases h
   case frz x=>
    split at h
    ·split at h
     ·rename_i ho
      split at h
      ·cases h; simp [DS.hasU,ho]
      ·cases h
     ·cases h
    ·cases h
   all_goals (repeat' (first | (cases h; done) | split at h | (obtain ⟨_,_,h'⟩:=Option.map_eq_some_iff.1 h; cases h'; done)))
theorem Cm0 {s:DS} (hf:s.Fr) {u:Upd} (h:s.hasU u=true):Gw s { s.upd s.nx u with nx:=if u.new then s.nx+1 else s.nx }:=by
 have hn:s.ho s.nx=none:=hf _ (Nat.le_refl _)
 cases u with
 | keep=>exact Gw.of rfl rfl
 | lay o=>
  refine ⟨by simp [Upd.new],fun id h1 h2=>?_⟩
  simp only [DS.upd,Upd.app,setH,Upd.new,if_true] at h2 ⊢
  split at h2
  ·omega
  ·exact absurd h1 h2
 | wr id0 o=>
  refine ⟨by simp [Upd.new],fun id h1 h2=>?_⟩
  simp only [DS.upd,Upd.app,setH] at h2
  split at h2
  ·rename_i e; subst e; simp [DS.hasU,h1] at h
  ·exact absurd h1 h2
 | mv old o=>
  refine ⟨by simp [Upd.new],fun id h1 h2=>?_⟩
  simp only [DS.upd,Upd.app,setH,Upd.new,if_true] at h2 ⊢
  split at h2
  ·omega
  ·cases old with
   | none=>exact absurd h1 h2
   | some i=>
    simp only [Aw2,setH] at h2
    split at h2
    ·exact absurd rfl h2
    ·exact absurd h1 h2
def callC (P:Program) (f:FuncId) (ds:List DV) (s:DS) (K:DS→DV→Prop):Prop:=callI P f ds s K∨∃ d,(∀ x∈ds,x.refs=[])∧DCall P f ds (fun d'=>d'=d)∧K s d
theorem callC.k {P:Program} {f:FuncId} {ds:List DV} {s:DS} {K:DS→DV→Prop} (h:callC P f ds s K):callK P f ds s K:=by
 rcases h with h | ⟨d,h1,h2,h3⟩
 ·exact .inr (.inr (.inr h))
 ·exact .inl ⟨_,h1,h2,fun d' hd=>by rw [hd]; exact h3⟩
theorem callC.i {P:Program} {f:FuncId} {ds:List DV} {s:DS} {K:DS→DV→Prop} (hne:∃ x∈ds,x.refs≠[]) (h:callC P f ds s K):callI P f ds s K:=by
 rcases h with h | ⟨d,h1,_⟩
 ·exact h
 ·obtain ⟨x,hx,hr⟩:=hne
  exact absurd (h1 x hx) hr
def Ad2 (P:Program) (call:CallT):Prop:=∀ (tg:Tg) (ds:List DV) (hp:Tr DObj) (nx:Nat) (d:DV) (hp':Tr DObj) (nx':Nat),call tg ds hp nx=some (d,hp',nx')→(∀ id,nx≤id→hp.get id=none)→
 nx≤nx'∧(∀ id,hp.get id=none→hp'.get id≠none→nx≤id∧id < nx')∧match tg with
 | .fn f=>Ac6 P f=true∧∀ (sv:Nat→DV) (K:DS→DV→Prop),K ⟨sv,hp'.get,nx'⟩ d→callC P f ds ⟨sv,hp.get,nx⟩ K
 | .yl id=>∀ (sv:Nat→DV) (K:DS→DV→Prop),K ⟨sv,hp'.get,nx'⟩ d→A56 P id ds ⟨sv,hp.get,nx⟩ K
theorem optR {α β:Type} {x:Option α} {f:α→Option β} {y:β} (h:(Option.rec (motive:=fun _=>Option β) none f x)=some y):∃ a,x=some a∧f a=some y:=by
 cases x with
 | none=>cases h
 | some a=>exact ⟨a,rfl,h⟩
theorem cs_eq {α:Type} (es:ES) (f:Tr DV→Tr DObj→Nat→α):es.cs f=f es.sl es.hp es.nx:=rfl
theorem An5 {call:CallT} {tg:Tg} {ds:List DV} {dst:Option Nat} {es es':ES} (h:Ai6 tg ds (pthO dst) call es=some es'):∃ d hp nx,call tg ds es.hp es.nx=some (d,hp,nx)∧es'.ds=(⟨es.ds.sv,hp.get,nx⟩:DS).put dst d:=by
 obtain ⟨⟨d,hp,nx⟩,h1,h2⟩:=optR h
 have h3:some ((ES.mk es.sl hp nx).putE (pthO dst) d)=some es':=h2
 cases h3
 exact ⟨d,hp,nx,h1,Ah0 _ _ _⟩
theorem Bd8 (es:ES) (args:List Operand):evL es (args.map EO.of)=args.map es.ds.rv:=by
 unfold evL
 rw [An1,List.map_map]
 exact List.map_congr_left fun x _=>Ab5 es x
theorem By9 {P:Program} {call:CallT} (hc:Ad2 P call) {f:Nat} {args:List Operand} {dst:Option Nat} {es es':ES} (h:sCall f (args.map EO.of) (pthO dst) call es=some es') (hfr:es.ds.Fr) {K:DS→Prop} (hK:K es'.ds) :
  Gw es.ds es'.ds∧Ac6 P f=true∧callC P f (args.map es.ds.rv) es.ds fun s' d=>K (s'.put dst d):=by
 unfold sCall at h
 rw [Bd8] at h
 obtain ⟨d,hp,nx,h1,h2⟩:=An5 h
 obtain ⟨n1,n2,g1,g2⟩:=hc _ _ _ _ _ _ _ h1 hfr
 refine ⟨(⟨n1,n2⟩:Gw es.ds ⟨es.ds.sv,hp.get,nx⟩).trans (by rw [h2]; exact Gw.put _ _ _),g1,g2 es.ds.sv _ ?_⟩
 rw [← h2]; exact hK
theorem Cm1 {P:Program} {call:CallT} (hc:Ad2 P call) {tb:Option (List (TypeId×FuncId))} {x:Operand} {args:List Operand} {dst:Option Nat} {es es':ES} (h:sCv tb (.of x) (args.map EO.of) (pthO dst) call es=some es') (hfr:es.ds.Fr) {K:DS→Prop} (hK:K es'.ds) :
  Gw es.ds es'.ds∧match (es.ds.ev x).tgt tb with
  | some (f,fr,cs)=>Ac6 P f=true∧callC P f (fr ++ args.map es.ds.rv ++ cs) es.ds fun s' d=>K (s'.put dst d)
  | none=>match (es.ds.ev x).tgY tb with
   | some i=>A56 P i (args.map es.ds.rv) es.ds fun s' d=>K (s'.put dst d)
   | none=>False:=by
 unfold sCv at h
 rw [An0,Bd8] at h
 cases hf:(es.ds.ev x).tgt tb with
 | some p=>
  obtain ⟨f,fr,cs⟩:=p
  rw [hf] at h
  have h':Ai6 (.fn f) (appL fr (appL (args.map es.ds.rv) cs)) (pthO dst) call es=some es':=h
  rw [Af6,Af6,← List.append_assoc] at h'
  obtain ⟨d,hp,nx,h1,h2⟩:=An5 h'
  obtain ⟨n1,n2,g1,g2⟩:=hc _ _ _ _ _ _ _ h1 hfr
  refine ⟨(⟨n1,n2⟩:Gw es.ds ⟨es.ds.sv,hp.get,nx⟩).trans (by rw [h2]; exact Gw.put _ _ _),g1,g2 es.ds.sv _ ?_⟩
  rw [← h2]; exact hK
 | none=>
  rw [hf] at h
  cases hy:(es.ds.ev x).tgY tb with
  | none=>rw [hy] at h; cases h
  | some i=>
   rw [hy] at h
   have h':Ai6 (.yl i) (args.map es.ds.rv) (pthO dst) call es=some es':=h
   obtain ⟨d,hp,nx,h1,h2⟩:=An5 h'
   obtain ⟨n1,n2,g2⟩:=hc _ _ _ _ _ _ _ h1 hfr
   refine ⟨(⟨n1,n2⟩:Gw es.ds ⟨es.ds.sv,hp.get,nx⟩).trans (by rw [h2]; exact Gw.put _ _ _),g2 es.ds.sv _ ?_⟩
   show K _
   rw [← h2]; exact hK
theorem A27 {s:DS} {k:Bool} {x:Operand} {l:List (DV×Upd)} (h:nxmL s k x=some l):∀ p∈l,s.hasU p.2=true∧p.2.new=false:=by
 unfold nxmL at h
 split at h
 ·unfold entL at h
  repeat' (first | (cases h; done) | split at h)
  all_goals (cases h; intro p hp; rw [List.mem_singleton] at hp; subst hp; exact ⟨rfl,rfl⟩)
 split at h
 ·rename_i id hx
  split at h
  ·cases h; intro p hp; rw [List.mem_singleton] at hp; subst hp; exact ⟨rfl,rfl⟩
  ·rename_i im since seen last hid
   split at h
   ·split at h
    ·cases h
    ·cases h
     intro p hp
     obtain ⟨c,_,rfl⟩:=List.mem_map.1 hp
     cases c with
     | none=>exact ⟨rfl,rfl⟩
     | some e=>exact ⟨by simp [nxtU,nxtD,DS.hasU,hid],rfl⟩
   ·cases h
  ·cases h
 ·cases h
theorem Bp1 {s:DS} {u:Upd} (h:s.hasU u=true) (hn:u.new=false) (n:Nat):Gw s (s.upd n u):=by
 cases u with
 | keep=>exact Gw.of rfl rfl
 | lay o=>cases hn
 | mv old o=>cases hn
 | wr id0 o=>
  refine ⟨Nat.le_refl _,fun id h1 h2=>?_⟩
  simp only [DS.upd,Upd.app,setH] at h2
  split at h2
  ·rename_i e; subst e; simp [DS.hasU,h1] at h
  ·exact absurd h1 h2
theorem Cm2 {k:Bool} {x:Operand} {dst:Option Nat} {call:CallT} {es es':ES} (h:sNx k x (pthO dst) call es=some es'):∃ p,nxmL es.ds k x=some [p]∧es'.ds=(es.ds.upd es.ds.nx p.2).put dst p.1∧Gw es.ds es'.ds:=by
 unfold sNx at h
 split at h
 ·rename_i p hp
  have h1:=A27 hp p (by simp)
  split at h
  ·cases h
  ·cases h
   have e:(ES.mk es.sl (updE es.hp es.nx p.2) es.nx).ds=es.ds.upd es.ds.nx p.2:=by
    simp only [ES.ds,A26]; rfl
   refine ⟨p,hp,by rw [Ah0,e],?_⟩
   rw [Ah0,e]
   exact (Bp1 h1.1 h1.2 _).trans (Gw.put _ _ _)
 ·cases h
def Exd (s:DS) (o:DOp) (dst:Option Nat) (s':DS):Prop:=∃ d u,execU s.nx s o=some (d,u)∧s'=({ s.upd s.nx u with nx:=if u.new then s.nx+1 else s.nx } : DS).put dst d
theorem sU_ok {x:XU} {o:DOp} (hx:∀ es nid d u,x es nid=some (d,u)→execU nid es.ds o=some (d,u)) {dst:Option Nat} {call:CallT} {es es':ES} (h:sU (pthO dst) x call es=some es'):Exd es.ds o dst es'.ds:=by
 obtain ⟨⟨d,u⟩,h1,h2⟩:=optR h
 have h3:iteB u.new (Ag3 (es.nx+1) fun n=>some ((ES.mk es.sl (updE es.hp es.nx u) n).putE (pthO dst) d)) (some ((ES.mk es.sl (updE es.hp es.nx u) es.nx).putE (pthO dst) d))=some es':=h2
 have hex:=hx _ _ _ _ h1
 rw [Ab4,Ab7] at h3
 refine ⟨d,u,hex,?_⟩
 split at h3
 ·rename_i hu
  cases h3
  rw [Ah0]
  simp only [ES.ds,A26,hu]
  rfl
 ·rename_i hu
  cases h3
  rw [Ah0]
  simp only [ES.ds,A26,hu]
  rfl
theorem sX_ok {x:XP} {o:DOp} (hx:∀ es d,x es=some d→∀ nid,execU nid es.ds o=some (d,.keep)) {dst:Option Nat} {call:CallT} {es es':ES} (h:sX (pthO dst) x call es=some es'):Exd es.ds o dst es'.ds:=by
 obtain ⟨d,h1,h2⟩:=optR h
 have h3:some (es.putE (pthO dst) d)=some es':=h2
 cases h3
 exact ⟨d,.keep,hx _ _ h1 _,Ah0 _ _ _⟩
theorem Exd.gw {s s':DS} {o:DOp} {dst:Option Nat} (hf:s.Fr) (h:Exd s o dst s'):Gw s s':=by
 obtain ⟨d,u,h1,rfl⟩:=h
 exact (Cm0 hf (As2 h1)).trans (Gw.put _ _ _)
theorem A28 {dst:Option Nat} {op:DOp} {call:CallT} {es es':ES} (hn2:∀ f args,op≠.call f args) (hn3:∀ tb x args,op≠.cv tb x args) (hn4:∀ k x,op≠.nxm k x) (h:stepE (pthO dst) op call es=some es'):Exd es.ds op dst es'.ds:=by
 by_cases hmv:∃ x,op=.mv x
 ·obtain ⟨x,rfl⟩:=hmv
  have h3:some (es.putE (pthO dst) (rawE es (.of x)))=some es':=h
  cases h3
  exact ⟨es.ds.rv x,.keep,rfl,by rw [Ah0,Ab5]; rfl⟩
 ·have hother:stepE (pthO dst) op=match xopP op with
   | some x=>sX (pthO dst) x
   | none=>sU (pthO dst) (xopU op):=by
   cases op <;> first | rfl | (exact absurd ⟨_,rfl⟩ hmv) | (exact absurd rfl (hn2 _ _)) | (exact absurd rfl (hn3 _ _ _)) | (exact absurd rfl (hn4 _ _))
  rw [hother] at h
  cases hx:xopP op with
  | some x=>
   rw [hx] at h
   exact sX_ok (fun es d hd nid=>Bp0 hx hd nid) h
  | none=>
   rw [hx] at h
   exact sU_ok (fun es nid d u hd=>A25 hd) h
theorem Au7 {P:Program} {call:CallT} (hc:Ad2 P call) {r:DR} {es es':ES} (h:stepE (pthO r.dst) r.op call es=some es') (hfr:es.ds.Fr) {K:DS→Prop} (hK:K es'.ds):Gw es.ds es'.ds∧stepR P r es.ds K:=by
 by_cases hcl:∃ f args,r.op=.call f args
 ·obtain ⟨f,args,ho⟩:=hcl
  rw [ho] at h
  obtain ⟨g0,g1,g2⟩:=By9 hc h hfr hK
  refine ⟨g0,?_⟩
  unfold stepR
  rw [ho]
  exact ⟨g1,g2.k⟩
 ·by_cases hcv:∃ tb x args,r.op=.cv tb x args
  ·obtain ⟨tb,x,args,ho⟩:=hcv
   rw [ho] at h
   obtain ⟨g0,h1⟩:=Cm1 hc h hfr hK
   refine ⟨g0,?_⟩
   unfold stepR
   rw [ho]
   simp only
   cases hf:(es.ds.ev x).tgt tb with
   | some p=>
    rw [hf] at h1
    exact ⟨h1.1,h1.2.k⟩
   | none=>
    rw [hf] at h1
    simp only at h1 ⊢
    cases hy:(es.ds.ev x).tgY tb with
    | none=>rw [hy] at h1; exact h1
    | some i=>rw [hy] at h1; exact h1
  ·by_cases hnx:∃ k x,r.op=.nxm k x
   ·obtain ⟨k,x,ho⟩:=hnx
    rw [ho] at h
    obtain ⟨p,h1,h2,h3⟩:=Cm2 (call:=call) h
    refine ⟨h3,?_⟩
    unfold stepR
    rw [ho]
    simp only [h1]
    intro q hq
    rw [List.mem_singleton] at hq
    subst hq
    rw [← h2]; exact hK
   ·have hex:=A28 (fun f args e=>hcl ⟨f,args,e⟩) (fun tb x args e=>hcv ⟨tb,x,args,e⟩) (fun k x e=>hnx ⟨k,x,e⟩) h
    refine ⟨hex.gw hfr,?_⟩
    obtain ⟨d,u,h1,h2⟩:=hex
    unfold stepR
    split
    ·rename_i f args ho; exact absurd ⟨f,args,ho⟩ hcl
    ·rename_i tb x args ho; exact absurd ⟨tb,x,args,ho⟩ hcv
    ·rename_i k x ho; exact absurd ⟨k,x,ho⟩ hnx
    ·unfold exec
     rw [h1]
     simp only
     rw [← h2]; exact hK
theorem Bp2 {P:Program} {call:CallT} (hc:Ad2 P call) {r:DR} {es es':ES} (h:stpR r call es=some es') (hfr:es.ds.Fr):Gw es.ds es'.ds∧∀ {rest:List DR} {K:DS→Prop},Ak6 P rest es'.ds K→Ak6 P (r :: rest) es.ds K:=by
 unfold stpR at h
 simp only [Ak6]
 cases hg:r.g with
 | none=>
  rw [hg] at h
  simp only [DS.wanted]
  exact ⟨(Au7 hc h hfr (K:=fun _=>True) trivial).1,fun {rest K} hK=>(Au7 hc h hfr (K:=fun s'=>Ak6 P rest s' K) hK).2⟩
 | some p=>
  obtain ⟨t,b⟩:=p
  rw [hg] at h
  simp only at h
  obtain ⟨c,h1,h2⟩:=optR h
  rw [Bd7] at h1
  rw [h1]
  cases c with
  | true=>exact ⟨(Au7 hc h2 hfr (K:=fun _=>True) trivial).1,fun {rest K} hK=>(Au7 hc h2 hfr (K:=fun s'=>Ak6 P rest s' K) hK).2⟩
  | false=>
   have h3:some (es.putE (pthO r.dst) (.v undef))=some es':=h2
   cases h3
   rw [Ah0]
   exact ⟨Gw.put _ _ _,fun {rest K} hK=>hK⟩
theorem Bp3 {P:Program} {call:CallT} (hc:Ad2 P call):∀ (ops:List DR) (es es':ES),runE ops call es=some es'→es.ds.Fr→Gw es.ds es'.ds∧∀ K:DS→Prop,K es'.ds→Ak6 P ops es.ds K
 | [],es,es',h,_=>by
  have h3:some es=some es':=h
  cases h3
  exact ⟨Gw.refl _,fun K hK=>hK⟩
 | r :: rest,es,es',h,hfr=>by
  have h':sq (stpR r) (runE rest) call es=some es':=h
  obtain ⟨e1,h1,h2⟩:=optR h'
  obtain ⟨g1,k1⟩:=Bp2 hc h1 hfr
  obtain ⟨g2,k2⟩:=Bp3 hc rest e1 es' h2 (Gw.fr hfr g1)
  exact ⟨g1.trans g2,fun K hK=>k1 (k2 K hK)⟩
end Go.DD

/- The evaluator's regions that draw their order: what each step has done. -/
namespace Go.DD
structure Rec where
 d:DV
 lay:Option DObj
 tgt:Option Nat
 ob:DObj
 mn:Bool
 H:Nat→Option DObj
 N:Nat
def Rec.nil:Rec:=⟨.any,none,none,.row 0 [],false,fun _=>none,0⟩
def A64 (P:Program) (op:DOp) (s:DS) (d:DV) (H:Nat→Option DObj) (N:Nat):Prop:=match op with
 | .call f args=>∀ sv,callM P f (args.map s.rv) ⟨sv,s.ho,s.nx⟩ d H N
 | .cv tb x args=>∃ f fr cs,(s.ev x).tgt tb=some (f,fr,cs)∧∀ sv,callM P f (fr ++ args.map s.rv ++ cs) ⟨sv,s.ho,s.nx⟩ d H N
 | op=>∃ u,s.hasU u=true∧execU s.nx s op=some (d,u)∧H=u.app s.nx s.ho∧N=if u.new then s.nx+1 else s.nx
theorem Exd.main {P:Program} {s s':DS} {o:DOp} {dst:Option Nat} (h:Exd s o dst s') (hn2:∀ f args,o≠.call f args) (hn3:∀ tb x args,o≠.cv tb x args):∃ d,s'.sv=(s.put dst d).sv∧A64 P o s d s'.ho s'.nx:=by
 obtain ⟨d,u,h1,rfl⟩:=h
 refine ⟨d,by cases dst <;> rfl,?_⟩
 have key:∃ u',s.hasU u'=true∧execU s.nx s o=some (d,u')∧(({ s.upd s.nx u with nx:=if u.new then s.nx+1 else s.nx } : DS).put dst d).ho=u'.app s.nx s.ho∧(({ s.upd s.nx u with nx:=if u.new then s.nx+1 else s.nx } : DS).put dst d).nx=if u'.new then s.nx+1 else s.nx:=
  ⟨u,As2 h1,h1,by rw [DS.ho_put]; rfl,by rw [DS.nx_put]⟩
 unfold A64
 split
 ·rename_i f args; exact absurd rfl (hn2 f args)
 ·rename_i tb x args; exact absurd rfl (hn3 tb x args)
 ·exact key
theorem Bz0 {P:Program} {call:CallT} (hc:Ad2 P call) {dst:Option Nat} {op:DOp} {es es':ES} (h:stepF (pthO dst) op call es=some es') (hfr:es.ds.Fr) :
  ∃ d,Gw es.ds es'.ds∧es'.ds.sv=(es.ds.put dst d).sv∧A64 P op es.ds d es'.ds.ho es'.ds.nx:=by
 have hcallM:∀ {f:Nat} {ds:List DV} {d:DV} {hp:Tr DObj} {nx:Nat},call (.fn f) ds es.hp es.nx=some (d,hp,nx)→es'.ds=(⟨es.ds.sv,hp.get,nx⟩:DS).put dst d→
   Gw es.ds es'.ds∧es'.ds.sv=(es.ds.put dst d).sv∧∀ sv,callM P f ds ⟨sv,es.ds.ho,es.ds.nx⟩ d es'.ds.ho es'.ds.nx:=fun {f ds d hp nx} h1 h2=>by
  obtain ⟨n1,n2,g1,g2⟩:=hc _ _ _ _ _ _ _ h1 hfr
  refine ⟨(⟨n1,n2⟩:Gw es.ds ⟨es.ds.sv,hp.get,nx⟩).trans (by rw [h2]; exact Gw.put _ _ _),by rw [h2]; cases dst <;> rfl,fun sv=>⟨g1,?_⟩⟩
  rcases g2 sv (fun s' d'=>d'=d∧s'.ho=es'.ds.ho∧s'.nx=es'.ds.nx) ⟨rfl,by rw [h2,DS.ho_put],by rw [h2,DS.nx_put]⟩ with h | ⟨d0,k1,k2,k3⟩
  ·exact .inl h
  ·obtain ⟨rfl,k4,k5⟩:=k3
   exact .inr ⟨k4.symm,k5.symm,k1,k2⟩
 by_cases hcl:∃ f args,op=.call f args
 ·obtain ⟨f,args,rfl⟩:=hcl
  have h':sCall f (args.map EO.of) (pthO dst) call es=some es':=h
  unfold sCall at h'
  rw [Bd8] at h'
  obtain ⟨d,hp,nx,h1,h2⟩:=An5 h'
  obtain ⟨g1,g2,g3⟩:=hcallM h1 h2
  exact ⟨d,g1,g2,g3⟩
 ·by_cases hcv:∃ tb x args,op=.cv tb x args
  ·obtain ⟨tb,x,args,rfl⟩:=hcv
   have h':sCf tb (.of x) (args.map EO.of) (pthO dst) call es=some es':=h
   unfold sCf at h'
   rw [An0,Bd8] at h'
   obtain ⟨⟨f,fr,cs⟩,hf,h'⟩:=optR h'
   have h'':Ai6 (.fn f) (appL fr (appL (args.map es.ds.rv) cs)) (pthO dst) call es=some es':=h'
   rw [Af6,Af6,← List.append_assoc] at h''
   obtain ⟨d,hp,nx,h1,h2⟩:=An5 h''
   obtain ⟨g1,g2,g3⟩:=hcallM h1 h2
   exact ⟨d,g1,g2,f,fr,cs,hf,g3⟩
  ·by_cases hnx:∃ k x,op=.nxm k x
   ·obtain ⟨k,x,rfl⟩:=hnx
    cases h
   ·have hn2:∀ f args,op≠.call f args:=fun f args e=>hcl ⟨f,args,e⟩
    have hn3:∀ tb x args,op≠.cv tb x args:=fun tb x args e=>hcv ⟨tb,x,args,e⟩
    have hn4:∀ k x,op≠.nxm k x:=fun k x e=>hnx ⟨k,x,e⟩
    have he:stepF (pthO dst) op=stepE (pthO dst) op:=by
     unfold stepF
     split
     ·exact absurd rfl (hn3 _ _ _)
     ·exact absurd rfl (hn4 _ _)
     ·rfl
    rw [he] at h
    have hex:=A28 hn2 hn3 hn4 h
    obtain ⟨d,g1,g2⟩:=hex.main (P:=P) hn2 hn3
    exact ⟨d,hex.gw hfr,g1,g2⟩
def Ah3 (s:DS) (o:DOp) (id:Nat):Prop:=∃ t,.tmp t∈o.opnds∧id∈(s.sv t).refs
theorem refsL_mem (es:ES) (o:DOp) (id:Nat):id∈refsL es ((Ai7 o).map pth)↔Ah3 es.ds o id:=by
 have key:∀ l:List Nat,id∈refsL es (l.map pth)↔∃ t∈l,id∈(es.ds.sv t).refs:=by
  intro l
  induction l with
  | nil=>exact ⟨fun h=>(by cases h),fun ⟨t,h,_⟩=>(by cases h)⟩
  | cons t l ih=>
   have e:refsL es ((t :: l).map pth)=appL (refsE (rawE es (.t (pth t)))) (refsL es (l.map pth)):=rfl
   rw [e,Af6,Al7,Bo8,List.mem_append,ih]
   constructor
   ·rintro (h | ⟨u,hu,h⟩)
    ·exact ⟨t,by simp,h⟩
    ·exact ⟨u,by simp [hu],h⟩
   ·rintro ⟨u,hu,h⟩
    rcases List.mem_cons.1 hu with rfl | hu
    ·exact .inl h
    ·exact .inr ⟨u,hu,h⟩
 rw [key]
 unfold Ah3 Ai7
 constructor
 ·rintro ⟨t,ht,h⟩
  obtain ⟨x,hx,hxt⟩:=List.mem_filterMap.1 ht
  cases x <;> simp at hxt
  subst hxt
  exact ⟨_,hx,h⟩
 ·rintro ⟨t,ht,h⟩
  exact ⟨t,List.mem_filterMap.2 ⟨_,ht,rfl⟩,h⟩
def Aq7 (n0 m:Nat) (an:List Nat) (s:DS) (id:Nat):Prop:=(s.ho id).isSome=true∧(id < n0∨n0+m≤id∨an.contains (id - n0)=true)
theorem Bz1 {n0 m:Nat} {an:List Nat} {es:ES} {id:Nat} (h:okRef n0 m an es.hp id=true):Aq7 n0 m an es.ds id:=by
 unfold okRef at h
 simp only [Ab4,Ag4,gN_eq] at h
 split at h
 ·rename_i h1
  refine ⟨h1,?_⟩
  split at h
  ·rename_i h2; exact .inl (by simpa [Nat.blt_eq] using h2)
  ·split at h
   ·rename_i h3; exact .inr (.inl (by simpa [Nat.ble_eq] using h3))
   ·exact .inr (.inr h)
 ·cases h
theorem Az7 (n0:Nat):∀ (js:List Nat) (hp:Tr DObj),(Ap4 n0 hp js).get=fun id=>if ∃ j∈js,id=n0+j then none else hp.get id
 | [],hp=>by funext id; simp [Ap4]
 | j :: js,hp=>by
  funext id
  simp only [Ap4]
  rw [Az7 n0 js,Tr.set_ho]
  by_cases h1:∃ j∈js,id=n0+j
  ·simp only [h1,if_true]
   rw [if_pos]
   obtain ⟨x,hx,e⟩:=h1
   exact ⟨x,by simp [hx],e⟩
  ·simp only [h1,if_false,setH]
   by_cases h2:id=n0+j
   ·rw [if_pos h2,if_pos ⟨j,by simp,h2⟩]
   ·rw [if_neg h2,if_neg]
    rintro ⟨x,hx,e⟩
    rcases List.mem_cons.1 hx with rfl | hx
    ·exact h2 e
    ·exact h1 ⟨x,hx,e⟩
theorem Bd9 (n0:Nat) (old:Tr DObj):∀ (js:List Nat) (hp:Tr DObj),(backL n0 old hp js).get=fun id=>if ∃ j∈js,id=n0+j then old.get id else hp.get id
 | [],hp=>by funext id; simp [backL]
 | j :: js,hp=>by
  funext id
  simp only [backL]
  rw [Bd9 n0 old js,Tr.set_ho]
  by_cases h1:∃ j∈js,id=n0+j
  ·simp only [h1,if_true]
   rw [if_pos]
   obtain ⟨x,hx,e⟩:=h1
   exact ⟨x,by simp [hx],e⟩
  ·simp only [h1,if_false,setH]
   by_cases h2:id=n0+j
   ·rw [if_pos h2,if_pos ⟨j,by simp,h2⟩,h2]
   ·rw [if_neg h2,if_neg]
    rintro ⟨x,hx,e⟩
    rcases List.mem_cons.1 hx with rfl | hx
    ·exact h2 e
    ·exact h1 ⟨x,hx,e⟩
inductive Sem (P:Program) (n0 m i:Nat) (r:DR) (o:OI) (δ δ':DSt) (ρ:Rec):Prop
 | off (hw:δ.es.ds.wanted r.g=some false) (hd:ρ.d=.v undef) (hl:ρ.lay=none) (ht:ρ.tgt=none) (hm:ρ.mn=false) (he:δ'.es.ds=δ.es.ds.put r.dst (.v undef)) (hlo:δ'.lo=δ.lo) (hws:δ'.ws=δ.ws) (hps:δ'.ps=δ.ps)
 | read (hw:δ.es.ds.wanted r.g=some true) (hrf:∀ id,Ah3 δ.es.ds r.op id→Aq7 n0 m o.an δ.es.ds id) (hx:execU (n0+i) δ.es.ds r.op=some (ρ.d,.keep))
   (hl:ρ.lay=none) (ht:ρ.tgt=none) (hm:ρ.mn=false) (he:δ'.es.ds=δ.es.ds.put r.dst ρ.d) (hlo:δ'.lo=δ.lo) (hws:∀ w∈δ.ws,w∈δ'.ws) (hlk:o.wide=true→∀ id,Ah3 δ.es.ds r.op id→⟨i,o.an,id,δ.lo.contains (id - n0),r.op.rdC⟩∈δ'.ws) (hps:δ'.ps=δ.ps)
 | lay (ob:DObj) (hw:δ.es.ds.wanted r.g=some true) (hrf:∀ id,Ah3 δ.es.ds r.op id→Aq7 n0 m o.an δ.es.ds id) (hx:execU (n0+i) δ.es.ds r.op=some (ρ.d,.lay ob))
   (hl:ρ.lay=some ob) (ht:ρ.tgt=none) (hm:ρ.mn=false) (he:δ'.es.ds=(⟨δ.es.ds.sv,setH δ.es.ds.ho (n0+i) (some ob),δ.es.ds.nx⟩:DS).put r.dst ρ.d) (hlo:δ'.lo=i :: δ.lo) (hws:∀ w∈δ.ws,w∈δ'.ws) (hlk:o.wide=true→∀ id,Ah3 δ.es.ds r.op id→⟨i,o.an,id,δ.lo.contains (id - n0),r.op.rdC⟩∈δ'.ws) (hps:δ'.ps=δ.ps)
 | wr (ob:DObj) (hw:δ.es.ds.wanted r.g=some true) (hc:o.cls≠0∧o.cls≠1∧o.cls≠2) (hrf:∀ id,Ah3 δ.es.ds r.op id→Aq7 n0 m o.an δ.es.ds id) (hx:execU (n0+i) δ.es.ds r.op=some (ρ.d,.wr (n0+o.tgt) ob))
   (hal:∀ id,Ah3 δ.es.ds r.op id→id=n0+o.tgt) (hlt:o.tgt∈δ.lo) (han:o.an.contains o.tgt=true)
   (hl:ρ.lay=none) (ht:ρ.tgt=some o.tgt) (hob:ρ.ob=ob) (hm:ρ.mn=false) (he:δ'.es.ds=(⟨δ.es.ds.sv,setH δ.es.ds.ho (n0+o.tgt) (some ob),δ.es.ds.nx⟩:DS).put r.dst ρ.d) (hlo:δ'.lo=δ.lo) (hws:δ'.ws=δ.ws) (hps:δ'.ps=δ.ps)
 | main (hid:List Nat) (hs:DS) (hhid:hid=δ.lo.filter fun j=>!o.an.contains j) (hhs:hs=⟨δ.es.ds.sv,(fun id=>if ∃ j∈hid,id=n0+j then none else δ.es.ds.ho id),δ.es.ds.nx⟩) (hw:δ.es.ds.wanted r.g=some true) (hc:o.cls=2) (hrf:∀ id,Ah3 δ.es.ds r.op id→Aq7 n0 m o.an δ.es.ds id)
   (hx:A64 P r.op hs ρ.d ρ.H ρ.N) (hg:Gw hs ⟨δ.es.ds.sv,ρ.H,ρ.N⟩)
   (hl:ρ.lay=none) (ht:ρ.tgt=none) (hm:ρ.mn=true) (he:δ'.es.ds=(⟨δ.es.ds.sv,(fun id=>if ∃ j∈hid,id=n0+j then δ.es.ds.ho id else ρ.H id),ρ.N⟩:DS).put r.dst ρ.d) (hlo:δ'.lo=hid) (hws:δ'.ws=δ.ws) (hps:δ'.ps=⟨i,o.an,δ.es.hp,δ'.es.hp⟩ :: δ.ps)
theorem Bp4 {s:DS} (h:s.Fr) (f:Nat→Prop) [DecidablePred f]:(⟨s.sv,(fun id=>if f id then none else s.ho id),s.nx⟩:DS).Fr:=fun id hi=>by
 show (if f id then none else s.ho id)=none
 split
 ·rfl
 ·exact h id hi
theorem put_eq (s:DS) (dst:Option Nat) (d:DV):s.put dst d=⟨(s.put dst d).sv,s.ho,s.nx⟩:=by cases dst <;> rfl
theorem Cm3 {s t:DS} (h:s.sv=t.sv) (dst:Option Nat) (d:DV):(s.put dst d).sv=(t.put dst d).sv:=by cases dst <;> simp [DS.put,h]
theorem ds_eq (es:ES):es.ds=⟨es.ds.sv,es.hp.get,es.nx⟩:=rfl
theorem Bz2 {x:XU} {nid:Nat} {es:ES} {d:DV} (h:xKeep x nid es=some d):x es nid=some (d,.keep):=by
 obtain ⟨⟨d',u⟩,h1,h2⟩:=optR h
 cases u with
 | keep=>have h3:some d'=some d:=h2; cases h3; exact h1
 | _=>cases h2
theorem A65 {i n0:Nat} {an:List Nat} {wide c:Bool} {refs lo:List Nat} {ws:List Look} : (∀ w∈ws,w∈lookE i an wide c refs n0 lo ws)∧(wide=true→∀ id∈refs,(⟨i,an,id,lo.contains (id - n0),c⟩:Look)∈lookE i an wide c refs n0 lo ws):=by
 unfold lookE
 rw [Ab4,Af6,An1]
 constructor
 ·intro w hw
  split
  ·simp [hw]
  ·exact hw
 ·intro h id hid
  rw [if_pos h]
  exact List.mem_append_left _ (List.mem_map.2 ⟨id,hid,rfl⟩)
theorem Be0 {P:Program} {call:CallT} (hc:Ad2 P call) {n0 m i:Nat} {r:DR} {o:OI} {δ δ':DSt} (hfr:δ.es.ds.Fr) (hw:δ.es.ds.wanted r.g=some true) (h:dstp i r o call n0 m δ=some δ'):∃ ρ,Sem P n0 m i r o δ δ' ρ:=by
 unfold dstp dChk at h
 obtain ⟨h1,h⟩:=Ac0 h
 rw [Ax9] at h1
 have hrf:∀ id,Ah3 δ.es.ds r.op id→Aq7 n0 m o.an δ.es.ds id:=fun id hid=>Bz1 (List.all_eq_true.1 h1 id ((refsL_mem _ _ _).2 hid))
 obtain ⟨es,lo,ws,ps⟩:=δ
 obtain ⟨sl,hp,nx⟩:=es
 have h4c:o.cls=2∨o.cls=0∨o.cls=1∨∃ n,o.cls=n+3:=by
  rcases Nat.lt_or_ge o.cls 3 with h | h
  ·omega
  ·exact .inr (.inr (.inr ⟨o.cls - 3,by omega⟩))
 rcases h4c with hcls | hcls | hcls | ⟨n,hcls⟩
 ·rw [hcls] at h
  replace h:dMain i o.an (stepF (pthO r.dst) r.op) call n0 m ⟨⟨sl,hp,nx⟩,lo,ws,ps⟩=some δ':=h
  unfold dMain at h
  have h':At3 (lo.filter fun j=>!o.an.contains j) (fun hid=>Option.rec (motive:=fun _=>Option DSt) none (fun es'=>es'.cs fun sl' hp' nx'=>iteB (Nat.ble nx nx') (some ⟨⟨sl',backL n0 hp hp' hid,nx'⟩,hid,ws,⟨i,o.an,hp,backL n0 hp hp' hid⟩ :: ps⟩) none) (stepF (pthO r.dst) r.op call ⟨sl,Ap4 n0 hp hid,nx⟩))=some δ':=h
  rw [Aq6] at h'
  obtain ⟨es',h2,h3⟩:=optR h'
  rw [cs_eq] at h3
  obtain ⟨_,h4⟩:=Ac0 h3
  cases h4
  have hds:(⟨sl,Ap4 n0 hp (lo.filter fun j=>!o.an.contains j),nx⟩:ES).ds=⟨(ES.mk sl hp nx).ds.sv,(fun id=>if ∃ j∈(lo.filter fun j=>!o.an.contains j),id=n0+j then none else (ES.mk sl hp nx).ds.ho id),(ES.mk sl hp nx).ds.nx⟩:=by
   rw [ds_eq,Az7]; rfl
  obtain ⟨d,g1,g2,g3⟩:=Bz0 hc h2 (by rw [hds]; exact Bp4 hfr _)
  rw [hds] at g1 g2 g3
  refine ⟨⟨d,none,none,.row 0 [],true,es'.ds.ho,es'.ds.nx⟩,.main _ _ rfl rfl hw hcls hrf g3 (g1.congr rfl rfl rfl rfl) rfl rfl rfl ?_ rfl rfl rfl⟩
  rw [ds_eq,Bd9]
  rw [put_eq]
  have e:(ES.mk es'.sl (backL n0 hp es'.hp (lo.filter fun j=>!o.an.contains j)) es'.nx).ds.sv=es'.ds.sv:=rfl
  rw [e,g2]
  congr 1
  exact Cm3 (by rfl) _ _
 ·rw [hcls] at h
  replace h:dRead i o.an o.wide r.op.rdC (pthO r.dst) (match r.op with
   | .mv x=>fun _ es=>some (rawE es (.of x))
   | op=>match xopP op with
    | some x=>fun _=>x
    | none=>xKeep (xopU op)) ((Ai7 r.op).map pth) call n0 m ⟨⟨sl,hp,nx⟩,lo,ws,ps⟩=some δ':=h
  unfold dRead at h
  obtain ⟨v,h2,h3⟩:=optR h
  have h4:some (⟨(ES.mk sl hp nx).putE (pthO r.dst) v,lo,lookE i o.an o.wide r.op.rdC (refsL ⟨sl,hp,nx⟩ ((Ai7 r.op).map pth)) n0 lo ws,ps⟩:DSt)=some δ':=h3
  cases h4
  have hx:execU (n0+i) (ES.mk sl hp nx).ds r.op=some (v,.keep):=by
   by_cases hmv:∃ x,r.op=.mv x
   ·obtain ⟨x,ho⟩:=hmv
    rw [ho] at h2
    have h5:some (rawE ⟨sl,hp,nx⟩ (.of x))=some v:=h2
    cases h5
    rw [Ab5,ho]; rfl
   ·have hother:(match r.op with
     | .mv x=>fun _ es=>some (rawE es (.of x))
     | op=>match xopP op with
      | some x=>fun _=>x
      | none=>xKeep (xopU op):Nat→XP)=match xopP r.op with
      | some x=>fun _=>x
      | none=>xKeep (xopU r.op):=by
     generalize r.op=op at hmv
     cases op <;> first | rfl | (exact absurd ⟨_,rfl⟩ hmv)
    rw [hother] at h2
    cases hx:xopP r.op with
    | some x=>rw [hx] at h2; exact Bp0 hx h2 _
    | none=>rw [hx] at h2; exact A25 (Bz2 h2)
  obtain ⟨w1,w2⟩:=@A65 i n0 o.an o.wide r.op.rdC (refsL ⟨sl,hp,nx⟩ ((Ai7 r.op).map pth)) lo ws
  exact ⟨⟨v,none,none,.row 0 [],false,fun _=>none,0⟩,.read hw hrf hx rfl rfl rfl (Ah0 _ _ _) rfl w1 (fun hwd id hid=>w2 hwd id ((refsL_mem _ _ _).2 hid)) rfl⟩
 ·rw [hcls] at h
  replace h:dLay i o.an o.wide r.op.rdC (pthO r.dst) (xopU r.op) ((Ai7 r.op).map pth) call n0 m ⟨⟨sl,hp,nx⟩,lo,ws,ps⟩=some δ':=h
  unfold dLay at h
  have h':Ag3 (n0+i) (fun nid=>Option.rec (motive:=fun _=>Option DSt) none (fun p=>Upd.casesOn (motive:=fun _=>Option DSt) p.2 none
   (fun ob=>some ⟨(ES.mk sl (setN hp nid (some ob)) nx).putE (pthO r.dst) p.1,i :: lo,lookE i o.an o.wide r.op.rdC (refsL ⟨sl,hp,nx⟩ ((Ai7 r.op).map pth)) n0 lo ws,ps⟩) (fun _ _=>none) (fun _ _=>none)) (xopU r.op ⟨sl,hp,nx⟩ nid))=some δ':=h
  rw [Ab7] at h'
  obtain ⟨⟨d,u⟩,h2,h3⟩:=optR h'
  cases u with
  | lay ob=>
   have h4:some (⟨(ES.mk sl (setN hp (n0+i) (some ob)) nx).putE (pthO r.dst) d,i :: lo,lookE i o.an o.wide r.op.rdC (refsL ⟨sl,hp,nx⟩ ((Ai7 r.op).map pth)) n0 lo ws,ps⟩:DSt)=some δ':=h3
   cases h4
   obtain ⟨w1,w2⟩:=@A65 i n0 o.an o.wide r.op.rdC (refsL ⟨sl,hp,nx⟩ ((Ai7 r.op).map pth)) lo ws
   refine ⟨⟨d,some ob,none,.row 0 [],false,fun _=>none,0⟩,.lay ob hw hrf (A25 h2) rfl rfl rfl ?_ rfl w1 (fun hwd id hid=>w2 hwd id ((refsL_mem _ _ _).2 hid)) rfl⟩
   show (ES.putE _ _ _).ds=_
   rw [Ah0,ds_eq]
   show (DS.mk _ (setN hp (n0+i) (some ob)).get nx).put _ _=_
   rw [Ap5]; rfl
  | _=>cases h3
 ·rw [hcls] at h
  replace h:dWr i o.an o.tgt (pthO r.dst) (xopU r.op) ((Ai7 r.op).map pth) call n0 m ⟨⟨sl,hp,nx⟩,lo,ws,ps⟩=some δ':=h
  unfold dWr at h
  obtain ⟨⟨d,u⟩,h2,h3⟩:=optR h
  cases u with
  | wr id ob=>
   have h4:iteB (Nat.beq id (n0+o.tgt) && lo.contains o.tgt && o.an.contains o.tgt && allL (refsL ⟨sl,hp,nx⟩ ((Ai7 r.op).map pth)) (fun r=>Nat.beq r (n0+o.tgt))) (some (⟨(ES.mk sl (setN hp id (some ob)) nx).putE (pthO r.dst) d,lo,ws,ps⟩:DSt)) none=some δ':=h3
   obtain ⟨h5,h6⟩:=Ac0 h4
   simp only [Bool.and_eq_true,Ax9] at h5
   obtain ⟨⟨⟨e1,e2⟩,e3⟩,e4⟩:=h5
   have e1:id=n0+o.tgt:=Nat.eq_of_beq_eq_true e1
   subst e1
   cases h6
   refine ⟨⟨d,none,some o.tgt,ob,false,fun _=>none,0⟩,.wr ob hw ⟨by omega,by omega,by omega⟩ hrf (A25 h2) (fun id hid=>Nat.eq_of_beq_eq_true (List.all_eq_true.1 e4 id ((refsL_mem _ _ _).2 hid))) (by simpa using e2) e3 rfl rfl rfl rfl ?_ rfl rfl rfl⟩
   show (ES.putE _ _ _).ds=_
   rw [Ah0,ds_eq]
   show (DS.mk _ (setN hp (n0+o.tgt) (some ob)).get nx).put _ _=_
   rw [Ap5]; rfl
  | _=>cases h3
theorem A66 {P:Program} {call:CallT} (hc:Ad2 P call) {n0 m i:Nat} {r:DR} {o:OI} {δ δ':DSt} (hfr:δ.es.ds.Fr) (h:dstpG i r o call n0 m δ=some δ'):∃ ρ,Sem P n0 m i r o δ δ' ρ:=by
 unfold dstpG at h
 cases hg:r.g with
 | none=>
  rw [hg] at h
  exact Be0 hc hfr (by rw [hg]; rfl) h
 | some p=>
  obtain ⟨t,b⟩:=p
  rw [hg] at h
  simp only at h
  obtain ⟨c,h1,h2⟩:=optR h
  rw [Bd7] at h1
  cases c with
  | true=>exact Be0 hc hfr (by rw [hg]; exact h1) h2
  | false=>
   have h3:some (⟨δ.es.putE (pthO r.dst) (.v undef),δ.lo,δ.ws,δ.ps⟩:DSt)=some δ':=h2
   cases h3
   exact ⟨⟨.v undef,none,none,.row 0 [],false,fun _=>none,0⟩,.off (by rw [hg]; exact h1) rfl rfl rfl rfl (Ah0 _ _ _) rfl rfl rfl⟩
end Go.DD

/- The evaluator's regions that draw their order: the run in the text's order serves every order. -/
namespace Go.DD
def kdI (rs:List DR) (i:Nat):Nat:=((rs[i]?).map fun r=>if (Bb2 rs r.op).isSome then 3 else r.op.kind).getD 0
def tgtI (rs:List DR) (r:DR):Nat:=(Bb2 rs r.op).getD 0
def Am3 (rs:List DR):List Nat:=(List.range rs.length).filter fun i=>kdI rs i == 2
theorem kd_le (rs:List DR) (i:Nat):kdI rs i≤3:=by
 unfold kdI
 cases rs[i]? with
 | none=>simp
 | some r=>
  simp only [Option.map_some,Option.getD_some]
  split
  ·omega
  ·have:r.op.kind≤2:=by cases r.op <;> simp [DOp.kind]
   omega
theorem B50 (rs:List DR) (i:Nat):(((List.range rs.length).map (kdI rs))[i]?).getD 0=kdI rs i:=by
 by_cases h:i < rs.length
 ·simp [h]
 ·simp [h,kdI]
def okI (rs:List DR):Bool:=
  (rs.zipIdx.all fun (r,i)=>(r.pre.all fun j=>decide (j < i)) &&
   (match r.dst with | some t=>dstIx rs t == some i | none=>true) &&
   r.tmps.all fun t=>match dstIx rs t with | some p=>anB rs i p || anB rs p i || p == i | none=>true) &&
  ((Am3 rs).all fun b=>(Am3 rs).all fun a=>!(decide (a < b)) || anB rs b a) &&
  ((rs.zipIdx.map fun (r,i)=>{ an:=anR rs i,cls:=kdI rs i,tgt:=tgtI rs r,wide:=(Am3 rs).any fun q=>!anB rs q i && !anB rs i q:OI }).zipIdx.all fun (o,w)=>o.cls != 3 || (anB rs w o.tgt && (List.range rs.length).all fun i=>!anB rs i o.tgt || anB rs i w || anB rs w i || w == i))
theorem A29 (rs:List DR):Ag9 rs = { l:=rs.zipIdx.map fun (r,i)=>{ an:=anR rs i,cls:=kdI rs i,tgt:=tgtI rs r,wide:=(Am3 rs).any fun q=>!anB rs q i && !anB rs i q:OI },ok:=okI rs }:=by
 have e:(fun i=>(((List.range rs.length).map (kdI rs))[i]?).getD 0)=kdI rs:=funext fun i=>B50 rs i
 have e':∀ i,(((List.range rs.length).map (kdI rs))[i]?).getD 0=kdI rs i:=B50 rs
 have h:Ag9 rs=(fun K:Nat→Nat=>({ l:=rs.zipIdx.map fun (r,i)=>{ an:=anR rs i,cls:=K i,tgt:=tgtI rs r,wide:=((List.range rs.length).filter fun i=>K i == 2).any fun q=>!anB rs q i && !anB rs i q:OI },ok:=
  (rs.zipIdx.all fun (r,i)=>(r.pre.all fun j=>decide (j < i)) &&
   (match r.dst with | some t=>dstIx rs t == some i | none=>true) &&
   r.tmps.all fun t=>match dstIx rs t with | some p=>anB rs i p || anB rs p i || p == i | none=>true) &&
  (((List.range rs.length).filter fun i=>K i == 2).all fun b=>((List.range rs.length).filter fun i=>K i == 2).all fun a=>!(decide (a < b)) || anB rs b a) &&
  ((rs.zipIdx.map fun (r,i)=>{ an:=anR rs i,cls:=K i,tgt:=tgtI rs r,wide:=((List.range rs.length).filter fun i=>K i == 2).any fun q=>!anB rs q i && !anB rs i q:OI }).zipIdx.all fun (o,w)=>o.cls != 3 || (anB rs w o.tgt && (List.range rs.length).all fun i=>!anB rs i o.tgt || anB rs i w || anB rs w i || w == i)) } : RI)) (fun i=>(((List.range rs.length).map (kdI rs))[i]?).getD 0):=rfl
 rw [h,e]
 rfl
theorem Be1 {rs:List DR} {i:Nat} {r:DR} (hr:rs[i]?=some r):(Ag9 rs).l[i]?=some { an:=anR rs i,cls:=kdI rs i,tgt:=tgtI rs r,wide:=(Am3 rs).any fun q=>!anB rs q i && !anB rs i q:OI }:=by
 rw [A29]
 simp [List.getElem?_map,List.getElem?_zipIdx,hr]
theorem Bz3 (rs:List DR):(Ag9 rs).l.length=rs.length:=by rw [A29]; simp
theorem Az8 {α:Type} {l:List α} {i:Nat} {x:α} (h:l[i]?=some x):(x,i)∈l.zipIdx:=by
 rw [List.mem_zipIdx_iff_getElem?]; exact h
structure OkI (rs:List DR):Prop where
 pre:∀ (k:Nat) (r:DR),rs[k]?=some r→∀ j∈r.pre,j < k
 dst:∀ (i:Nat) (r:DR) (t:Nat),rs[i]?=some r→r.dst=some t→dstIx rs t=some i
 rd:∀ (i:Nat) (r:DR) (t p:Nat),rs[i]?=some r→t∈r.tmps→dstIx rs t=some p→anB rs i p=true∨anB rs p i=true∨p=i
 ch:∀ a b,a < rs.length→b < rs.length→kdI rs a=2→kdI rs b=2→a < b→anB rs b a=true
 wr:∀ (w:Nat) (r:DR),rs[w]?=some r→kdI rs w=3→anB rs w (tgtI rs r)=true∧∀ i,i < rs.length→anB rs i (tgtI rs r)=true→anB rs i w=true∨anB rs w i=true∨w=i
theorem Cm4 {rs:List DR} (h:(Ag9 rs).ok=true):OkI rs:=by
 rw [A29] at h
 replace h:okI rs=true:=h
 unfold okI at h
 rw [Bool.and_eq_true,Bool.and_eq_true] at h
 obtain ⟨⟨h1,h2⟩,h3⟩:=h
 have k1:∀ (i:Nat) (r:DR),rs[i]?=some r→_:=fun i r hr=>List.all_eq_true.1 h1 (r,i) (Az8 hr)
 simp only [Bool.and_eq_true] at k1
 have hm:∀ a,a < rs.length→kdI rs a=2→a∈Am3 rs:=fun a h1 h2=>by simp [Am3,h1,h2]
 refine ⟨fun k r hr j hj=>?_,fun i r t hr ht=>?_,fun i r t p hr ht hp=>?_,fun a b ha hb ka kb hlt=>?_,fun w r hr hk=>?_⟩
 ·simpa using List.all_eq_true.1 (k1 k r hr).1.1 j hj
 ·have:=(k1 i r hr).1.2
  rw [ht] at this
  simpa using this
 ·have:=List.all_eq_true.1 (k1 i r hr).2 t ht
  rw [hp] at this
  simp only [Bool.or_eq_true,beq_iff_eq] at this
  rcases this with (h | h) | h
  ·exact .inl h
  ·exact .inr (.inl h)
  ·exact .inr (.inr h)
 ·have:=List.all_eq_true.1 (List.all_eq_true.1 h2 b (hm b hb kb)) a (hm a ha ka)
  simpa [hlt] using this
 ·have hl:=Be1 hr
  rw [A29] at hl
  have:=List.all_eq_true.1 h3 _ (Az8 hl)
  simp only [hk,Bool.or_eq_true,Bool.and_eq_true] at this
  rcases this with h | ⟨h4,h5⟩
  ·simp at h
  ·refine ⟨h4,fun i hi hit=>?_⟩
   have:=List.all_eq_true.1 h5 i (by simpa using hi)
   simp only [hit,Bool.not_true,Bool.false_or,Bool.or_eq_true,beq_iff_eq] at this
   rcases this with (h | h) | h
   ·exact .inl h
   ·exact .inr (.inl h)
   ·exact .inr (.inr h)
theorem A67:∀ (rs:List DR) (acc:List (List Nat)) (k:Nat) (r:DR) (l:List Nat),rs[k]?=some r→(∀ (k:Nat) (r:DR),rs[k]?=some r→∀ j∈r.pre,j < acc.length+k)→(ancs rs acc)[acc.length+k]?=some l→
  ∀ x,(x∈r.pre∨∃ j∈r.pre,∃ l',(ancs rs acc)[j]?=some l'∧x∈l')→x∈l
 | [],acc,k,r,l,h,_,_=>by simp at h
 | r0 :: rs,acc,0,r,l,h,hb,hl=>by
  simp at h; subst h
  intro x hx
  have hl':l=(r0.pre ++ r0.pre.flatMap fun j=>(acc[j]?).getD []).eraseDups:=by
   simp only [ancs] at hl
   rw [Am9 rs _ _ (by simp)] at hl
   simpa using hl.symm
  rw [hl',List.mem_eraseDups,List.mem_append]
  rcases hx with hx | ⟨j,hj,l',hl2,hx⟩
  ·exact .inl hx
  ·have hjl:j < acc.length:=hb 0 r0 rfl j hj
   refine .inr (List.mem_flatMap.2 ⟨j,hj,?_⟩)
   simp only [ancs] at hl2
   rw [Am9 rs _ j (by simp; omega),List.getElem?_append_left hjl] at hl2
   rw [hl2]; exact hx
 | r0 :: rs,acc,k+1,r,l,h,hb,hl=>by
  have key:=A67 rs (acc ++ [(r0.pre ++ r0.pre.flatMap fun j=>(acc[j]?).getD []).eraseDups]) k r l (by simpa using h)
   (fun k' r' hr' j hj=>by have:=hb (k'+1) r' (by simpa using hr') j hj; simp; omega)
   (by simp only [ancs] at hl; rw [← hl]; congr 1; simp; omega)
  simpa only [ancs] using key
section
variable {rs:List DR} (hI:OkI rs)
theorem Bp5 {i:Nat} {r:DR} (hr:rs[i]?=some r):(ancs rs [])[i]?=some (anR rs i):=by
 have hil:i < (ancs rs []).length:=by rw [Au1]; have:=(List.getElem?_eq_some_iff.1 hr).1; simpa using this
 simp [anR,List.getElem?_eq_getElem hil]
include hI
theorem Be2 {i:Nat} {r:DR} (hr:rs[i]?=some r) (x:Nat):anB rs i x=true↔x∈r.pre∨∃ j∈r.pre,anB rs j x=true:=by
 have hb:∀ (k:Nat) (r:DR),rs[k]?=some r→∀ j∈r.pre,j < ([]:List (List Nat)).length+k:=fun k r' hk j hj=>by have:=hI.pre k r' hk j hj; simp; omega
 have hpre:∀ j∈r.pre,∃ rj,rs[j]?=some rj:=fun j hj=>by
  have h1:=hI.pre i r hr j hj
  have h2:=(List.getElem?_eq_some_iff.1 hr).1
  exact ⟨rs[j],List.getElem?_eq_getElem (by omega)⟩
 constructor
 ·intro h
  rcases A22 rs [] i r _ hr hb (by simpa using Bp5 hr) x (by simpa [anB] using h) with h | ⟨j,hj,l',hl',hx⟩
  ·exact .inl h
  ·exact .inr ⟨j,hj,by simp [anB,anR,hl',hx]⟩
 ·intro h
  have:=A67 rs [] i r _ hr hb (by simpa using Bp5 hr) x (by
   rcases h with h | ⟨j,hj,h⟩
   ·exact .inl h
   ·obtain ⟨rj,hrj⟩:=hpre j hj
    exact .inr ⟨j,hj,_,Bp5 hrj,by simpa [anB] using h⟩)
  simpa [anB] using this
theorem an_lt {i j:Nat} (hi:i < rs.length) (h:anB rs i j=true):j < i:=by
 induction i using Nat.strongRecOn with
 | _ i ih=>
  have hr:rs[i]?=some rs[i]:=List.getElem?_eq_getElem hi
  rcases (Be2 hI hr j).1 h with h | ⟨x,hx,h⟩
  ·exact hI.pre i _ hr j h
  ·have h1:=hI.pre i _ hr x hx
   have:=ih x h1 (by omega) h
   omega
theorem Bz4 {a b c:Nat} (ha:a < rs.length) (h1:anB rs a b=true) (h2:anB rs b c=true):anB rs a c=true:=by
 induction a using Nat.strongRecOn with
 | _ a ih=>
  have hr:rs[a]?=some rs[a]:=List.getElem?_eq_getElem ha
  rcases (Be2 hI hr b).1 h1 with h | ⟨x,hx,h⟩
  ·exact (Be2 hI hr c).2 (.inr ⟨b,h,h2⟩)
  ·have hxl:=hI.pre a _ hr x hx
   exact (Be2 hI hr c).2 (.inr ⟨x,hx,ih x hxl (by omega) h⟩)
end
theorem A30:∀ {a b:Value},sameV a b=true→a=b:=by
 intro a b h
 unfold sameV at h
 split at h
 ·simpa using h
 ·simp only [Bool.and_eq_true,beq_iff_eq] at h; rw [h.1,h.2]
 ·rename_i a b
  have h1:a.data.toList=b.data.toList:=by simpa using h
  have h2:a.data=b.data:=Array.toList_inj.1 h1
  obtain ⟨a⟩:=a; obtain ⟨b⟩:=b
  simp only at h2; rw [h2]
 ·rfl
 ·simp only [Bool.and_eq_true,beq_iff_eq] at h; rw [h.1,h.2]
 ·rfl
 ·rfl
 ·rfl
 ·cases h
theorem Ao4 {f:DV→DV→Bool} (hf:∀ a b,f a b=true→a=b):∀ {a b:List DV},sameL f a b=true→a=b
 | [],[],_=>rfl
 | a :: as,b :: bs,h=>by
  simp only [sameL,Bool.and_eq_true] at h
  rw [hf a b h.1,Ao4 hf h.2]
 | [],_ :: _,h=>by cases h
 | _ :: _,[],h=>by cases h
theorem Bp6 {a b:Fn} (h:Bo3 a b=true):a=b:=by
 unfold Bo3 at h
 split at h
 ·rw [beq_iff_eq.1 h]
 ·cases h
theorem Ai8:∀ (n:Nat) (a b:DV),Ab2 n a b=true→a=b
 | 0,_,_,h=>by cases h
 | n+1,a,b,h=>by
  have ih:=Ai8 n
  cases a <;> cases b <;> simp only [Ab2,Bool.and_eq_true,beq_iff_eq] at h <;> first
   | rfl
   | (cases h; done)
   | (rw [A30 h]; done)
   | (rw [Ao4 ih h]; done)
   | (rw [h.1,Ao4 ih h.2]; done)
   | (rw [Bp6 h.1,Ao4 ih h.2]; done)
   | (rw [h.1,ih _ _ h.2]; done)
   | (rw [h]; done)
   | (obtain ⟨⟨⟨h1,h2⟩,h3⟩,h4⟩:=h; rw [h1,h2,h3,h4]; done)
   | (obtain ⟨h1,h2⟩:=h; rw [h1,h2]; done)
theorem Bz5 {a b:Value} (h:Bo4 a b=true):a=b:=by
 unfold Bo4 at h
 split at h
 ·rename_i x y
  have key:∀ l m:List Value,sameL (fun x y=>match x,y with | .v x,.v y=>sameV x y | _,_=>false) (l.map .v) (m.map .v)=true→l=m:=by
   intro l
   induction l with
   | nil=>intro m h; cases m with
    | nil=>rfl
    | cons _ _=>simp [sameL] at h
   | cons u l ih=>intro m h; cases m with
    | nil=>simp [sameL] at h
    | cons v m=>
     simp only [List.map_cons,sameL,Bool.and_eq_true] at h
     rw [A30 h.1,ih m h.2]
  rw [Array.toList_inj.1 (key _ _ h)]
 ·exact A30 h
theorem Be3 {n:Nat} : ∀ {a b:List ME},sameM n a b=true→a=b
 | [],[],_=>rfl
 | ⟨k,v,c⟩ :: a,⟨k',v',c'⟩ :: b,h=>by
  simp only [sameM,Bool.and_eq_true,beq_iff_eq] at h
  obtain ⟨⟨⟨h1,h2⟩,h3⟩,h4⟩:=h
  rw [Bz5 h1,Ai8 n _ _ h2,h3,Be3 h4]
 | [],_ :: _,h=>by simp [sameM] at h
 | _ :: _,[],h=>by simp [sameM] at h
theorem A68:∀ {a b:List Nat},Az6 a b=true→a=b
 | [],[],_=>rfl
 | x :: a,y :: b,h=>by
  simp only [Az6,Bool.and_eq_true,beq_iff_eq] at h
  rw [h.1,A68 h.2]
 | [],_ :: _,h=>by simp [Az6] at h
 | _ :: _,[],h=>by simp [Az6] at h
theorem Be4 {a b:DObj} (h:sameO a b=true):a=b:=by
 unfold sameO at h
 split at h
 ·simp only [Bool.and_eq_true,beq_iff_eq] at h
  rw [h.1,Ao4 (Ai8 6) h.2]
 ·simp only [Bool.and_eq_true,beq_iff_eq] at h
  rw [h.1,Be3 h.2]
 ·simp only [Bool.and_eq_true,beq_iff_eq] at h
  obtain ⟨⟨⟨h1,h2⟩,h3⟩,h4⟩:=h
  rw [Ai8 2 _ _ h1,h2,A68 h3,h4]
 ·cases h
theorem Bp7 {a b:Tr DObj} {id:Nat} (h:sameAt a b id=true):a.get id=b.get id:=by
 unfold sameAt at h
 split at h
 ·rename_i h1 h2; rw [h1,h2,Be4 h]
 ·cases h
structure Run (P:Program) (rs:List DR) (s0:DS) (Δ:Nat→DSt) (ρ:Nat→Rec):Prop where
 ok:OkI rs
 fr:s0.Fr
 z:(Δ 0).es.ds=⟨s0.sv,s0.ho,s0.nx+rs.length⟩
 lo0:(Δ 0).lo=[]
 sem:∀ i r o,rs[i]?=some r→(Ag9 rs).l[i]?=some o→Sem P s0.nx rs.length i r o (Δ i) (Δ (i+1)) (ρ i)
 nil:∀ i,rs.length≤i→ρ i=Rec.nil
 look:Af9 s0.nx rs.length (Δ rs.length).ws (Δ rs.length).ps=true
theorem Sem.gw {P:Program} {n0 m i:Nat} {r:DR} {o:OI} {δ δ':DSt} {ρ:Rec} (h:Sem P n0 m i r o δ δ' ρ) (hi:i < m) (hn:n0+m≤δ.es.nx):δ.es.nx≤δ'.es.nx∧∀ id,δ.es.ds.ho id=none→δ'.es.ds.ho id≠none→n0≤id∧id < δ'.es.nx:=by
 have nxe:∀ {s:DS} {d:DV},δ'.es.ds=s.put r.dst d→δ'.es.nx=s.nx∧δ'.es.ds.ho=s.ho:=fun {s d} h=>by
  have h1:δ'.es.ds.nx=s.nx:=by rw [h,DS.nx_put]
  exact ⟨h1,by rw [h,DS.ho_put]⟩
 have nxd:δ.es.ds.nx=δ.es.nx:=rfl
 cases h with
 | off hw hd hl ht hm he hlo hws hps=>
  obtain ⟨e1,e2⟩:=nxe he
  rw [e1,e2]
  exact ⟨Nat.le_refl _,fun id h1 h2=>absurd h1 h2⟩
 | read hw hrf hx hl ht hm he hlo hws hlk hps=>
  obtain ⟨e1,e2⟩:=nxe he
  rw [e1,e2]
  exact ⟨Nat.le_refl _,fun id h1 h2=>absurd h1 h2⟩
 | lay ob hw hrf hx hl ht hm he hlo hws hlk hps=>
  obtain ⟨e1,e2⟩:=nxe he
  rw [e1,e2]
  refine ⟨Nat.le_refl _,fun id h1 h2=>?_⟩
  simp only [setH] at h2
  split at h2
  ·show n0≤id∧id < δ.es.nx; omega
  ·exact absurd h1 h2
 | wr ob hw hc hrf hx hal hlt han hl ht hob hm he hlo hws hps=>
  obtain ⟨e1,e2⟩:=nxe he
  rw [e1,e2]
  refine ⟨Nat.le_refl _,fun id h1 h2=>?_⟩
  simp only [setH] at h2
  split at h2
  ·rename_i e
   have:=As2 hx
   simp only [DS.hasU] at this
   rw [e] at h1; rw [h1] at this; cases this
  ·exact absurd h1 h2
 | main hid hs hhid hhs hw hc hrf hx hg hl ht hm he hlo hws hps=>
  obtain ⟨e1,e2⟩:=nxe he
  rw [e1,e2]
  have hle:δ.es.nx≤ρ.N:=by have:=hg.le; rw [hhs] at this; exact this
  refine ⟨hle,fun id h1 h2=>?_⟩
  simp only at h2
  split at h2
  ·exact absurd h1 h2
  ·rename_i hnh
   have:=hg.new id (by rw [hhs]; simp only; rw [if_neg hnh]; exact h1) h2
   rw [hhs] at this
   have h3:δ.es.nx≤id∧id < ρ.N:=this
   exact ⟨by omega,h3.2⟩
theorem Sem.fr {P:Program} {n0 m i:Nat} {r:DR} {o:OI} {δ δ':DSt} {ρ:Rec} (h:Sem P n0 m i r o δ δ' ρ) (hi:i < m) (hn:n0+m≤δ.es.nx) (hfr:δ.es.ds.Fr):δ'.es.ds.Fr:=fun id hid=>by
 obtain ⟨h1,h2⟩:=h.gw hi hn
 have hid':δ'.es.nx≤id:=hid
 cases h4:δ'.es.ds.ho id with
 | none=>rfl
 | some o=>
  have:=h2 id (hfr id (by show δ.es.nx≤id; omega)) (by rw [h4]; simp)
  omega
theorem A69 {P:Program} {call:CallT} (hc:Ad2 P call) {n0 m:Nat} : ∀ (rs:List DR) (os:List OI) (i:Nat) (δ δ':DSt),rs.length=os.length→i+rs.length≤m→rundE rs os i call n0 m δ=some δ'→δ.es.ds.Fr→n0+m≤δ.es.nx→
  ∃ (Δ:Nat→DSt) (ρ:Nat→Rec),Δ 0=δ∧Δ rs.length=δ'∧∀ j r o,rs[j]?=some r→os[j]?=some o→Sem P n0 m (i+j) r o (Δ j) (Δ (j+1)) (ρ j)
 | [],os,i,δ,δ',hl,hm,h,hfr,hn=>by
  have h3:some δ=some δ':=by
   cases os <;> exact h
  cases h3
  exact ⟨fun _=>δ,fun _=>Rec.nil,rfl,rfl,fun j r o hr=>by simp at hr⟩
 | r :: rs,[],i,δ,δ',hl,hm,h,hfr,hn=>by simp at hl
 | r :: rs,o :: os,i,δ,δ',hl,hm,h,hfr,hn=>by
  have h':dq (dstpG i r o) (rundE rs os (i+1)) call n0 m δ=some δ':=h
  obtain ⟨δ1,h1,h2⟩:=optR h'
  obtain ⟨ρ0,hs⟩:=A66 hc hfr h1
  have him:i < m:=by simp at hm; omega
  obtain ⟨g1,_⟩:=hs.gw him hn
  obtain ⟨Δ,ρ,e1,e2,e3⟩:=A69 hc rs os (i+1) δ1 δ' (by simpa using hl) (by simp at hm; omega) h2 (hs.fr him hn hfr) (by omega)
  refine ⟨fun j=>match j with | 0=>δ | j+1=>Δ j,fun j=>match j with | 0=>ρ0 | j+1=>ρ j,rfl,e2,fun j r' o' hr ho=>?_⟩
  cases j with
  | zero=>
   simp at hr ho
   subst hr; subst ho
   show Sem P n0 m (i+0) r o δ (Δ 0) ρ0
   rw [e1]; exact hs
  | succ j=>
   have:=e3 j r' o' (by simpa using hr) (by simpa using ho)
   rw [show i+(j+1)=i+1+j by omega]
   exact this
theorem Cm5 {P:Program} {call:CallT} (hc:Ad2 P call) {rs:List DR} {es es':ES} (hok:(Ag9 rs).ok=true) (h:regE rs.length (rundE rs (Ag9 rs).l 0) call es=some es') (hfr:es.ds.Fr):∃ Δ ρ,Run P rs es.ds Δ ρ∧(Δ rs.length).es=es':=by
 unfold regE at h
 obtain ⟨δ',h1,h2⟩:=optR h
 obtain ⟨h3,h4⟩:=Ac0 h2
 cases h4
 rw [cs_eq,Ab7] at h1
 obtain ⟨Δ,ρ,e1,e2,e3⟩:=A69 hc rs (Ag9 rs).l 0 _ _ (Bz3 rs).symm (by omega) h1 (fun id hid=>hfr id (by
  have:es.nx+rs.length≤id:=hid
  show es.nx≤id; omega)) (Nat.le_refl _)
 refine ⟨Δ,fun i=>if i < rs.length then ρ i else Rec.nil,⟨Cm4 hok,hfr,by rw [e1]; rfl,by rw [e1],fun i r o hr ho=>?_,fun i hi=>if_neg (by omega),by rw [e2]; exact h3⟩,by rw [e2]⟩
 have:=e3 i r o hr ho
 rw [Nat.zero_add] at this
 rw [if_pos (List.getElem?_eq_some_iff.1 hr).1]
 exact this
end Go.DD
