/- A part. -/
import Derived.Test.YtnphfnhhpcelbaaGreatYb
import Derived.Tactics
import Derived.OrdersIn
import Derived.OwnWalkIn
import Derived.RangeFuncNested
import Derived.RangeFuncLeaves
namespace Go.DD
open Go.RowKit (Below)
section ops
variable {C:Ctx} {U:Nat->Prop} {s:DS} {β:Nat->Option Nat} {a:Act} {w:World} {o:Oper} {d:DV} {s':DS} {nid:Nat}
theorem Cc1{t kt et:TypeId}{x:Operand}(ho:o.op=.range t x)(ht:C.P.underlying t=some (.map kt et))(hs:HoldsB C U s β a w)(hn:¬ U nid) :
  (s.ev x=.v (.map none)->OpOk C (Un U nid) a w o (.pt nid 0) (s.upd nid (.lay (.miter (.v (.map none)) 0 [] 0))))/\
  (∀ id ck es,s.ev x=.mp id->s.ho id=some (.mapo ck es)->OpOk C (Un U nid) a w o (.pt nid 0) (s.upd nid (.lay (.miter (.mp id) ck [] ck)))):=by
 have key:∀ (mv:Option Nat) (m:DV) (ck:Nat),a.eval x=.map mv->s.ev x=m->(Instr.range t (.map mv)).run C.P w=.ok (.pointer (some ⟨w.heap.size,0,none⟩)) (w.alloc (.mapIter mv ck #[] ck))->
   OpOk C (Un U nid) a w o (.pt nid 0) (s.upd nid (.lay (.miter m ck [] ck))):=by
  intro mv m ck h1 h2 Fo
  have Mt:=R9 w (.mapIter mv ck #[] ck)
  have hf:=(hs.turned (β':=upd β nid (some w.heap.size)) (w':=w.alloc (.mapIter mv ck #[] ck)) hn none (λ_ h=>by cases h) (.miter m ck [] ck) (λb hb _=>Mt.block b hb) Mt.os Mt.tape Mt.output Mt.size (λj hj _=>aP β _ hj) (λ_ h=>by cases h)
   (λb hb=>by rw [Dc] at hb;cases hb;exact ⟨.inr (Ai _),by simp⟩) (λCe=>⟨_,mv,Dc _ _ _,heap_alloc_new w _,Ce _ _ (by rw [<- h1,<- h2];exact hs.evw x)⟩)).1
  refine ⟨.value (.pointer (some ⟨w.heap.size,0,none⟩)),_,_,_,?_,.inl rfl,hf,qN (.pt nid 0 _ (by simp)) rfl⟩
  simp [execOp,ho,h1,Fo]
 refine ⟨λhx=>?_,λid ck es hx hid=>?_⟩
 .have Qu:a.eval x=.map none:=by have:=hs.ev x;rw [hx] at this;exact Eb this
  refine key none _ 0 Qu hx ?_
  simp [Instr.range,run_underlying ht]
 .have h1:=hs.ev x
  rw [hx] at h1
  obtain ⟨b,Qu,hb⟩:=qP h1
  obtain ⟨ms,hm,He,Ce⟩:=hs.mapo hb hid
  have hg:(getObj b).run C.P w=.ok (.map ms ck) w:=MapKept.run_getObj_map hm
  refine key (some b) _ ck Qu hx ?_
  simp [Instr.range,run_underlying ht,hg,Result.andThen]
inductive F2 {α β:Type} (R:α->β->Prop):List α->List β->Prop
 | nil:F2 R [] []
 | cons {a b l m} (h:R a b) (t:F2 R l m):F2 R (a::l) (b::m)
theorem F2.of{α β:Type}{R:α->β->Prop} : ∀ {l:List α} {m:List β},l.length=m.length->(∀ (j:Nat) (a:α) (b:β),l[j]?=some a->m[j]?=some b->R a b)->F2 R l m
 | [],[],_,_=>.nil
 | a::l,b::m,hl,h=>.cons (h 0 a b rfl rfl) (F2.of (by simpa using hl) λj x y hx hy=>h (j+1) x y (by simpa using hx) (by simpa using hy))
 | [],_::_,hl,_=>by simp at hl
 | _::_,[],hl,_=>by simp at hl
theorem F2.filter{α β:Type}{R:α->β->Prop}{f:α->Bool}{g:β->Bool}(U4:∀ a b,R a b->f a=g b):∀ {l:List α} {m:List β},F2 R l m->F2 R (l.filter f) (m.filter g)
 | _,_,.nil=>.nil
 | _,_,.cons (a:=a) (b:=b) h t=>by
  have ih:=F2.filter U4 t
  simp only [Pv,U4 a b h]
  split
  .exact .cons h ih
  .exact ih
theorem F2.append{α β:Type}{R:α->β->Prop}{l l':List α}{m m':List β}(h:F2 R l m)(h':F2 R l' m'):F2 R (l++l') (m++m'):=by
 induction h with
 | nil=>exact h'
 | cons h _ ih=>exact .cons h ih
theorem F2.length{α β:Type}{R:α->β->Prop}{l:List α}{m:List β}(h:F2 R l m):l.length=m.length:=by
 induction h with
 | nil=>rfl
 | cons _ _ ih=>simp [ih]
theorem F2.get{α β:Type}{R:α->β->Prop}{l:List α}{m:List β}(h:F2 R l m):∀ {j:Nat} {a:α},l[j]?=some a->∃ b,m[j]?=some b/\R a b:=by
 induction h with
 | nil=>intro j a h;simp at h
 | cons h _ ih=>
  intro j a hj
  cases j with
  | zero=>simp at hj;subst hj;exact ⟨_,rfl,h⟩
  | succ j=>simpa using ih (by simpa using hj)
theorem F2.all{α β:Type}{R:α->β->Prop}{f:α->Bool}{g:β->Bool}(U4:∀ a b,R a b->f a=g b){l:List α}{m:List β}(h:F2 R l m):l.all f=m.all g:=by
 induction h with
 | nil=>rfl
 | cons h _ ih=>simp [U4 _ _ h,ih]
theorem HoldsB.drawn(hs:HoldsB C U s β a w):HoldsB C U s β a w.drew/\∀ x d,WV C U (s.vw C) β w x d->WV C U (s.vw C) β w.drew x d:=by
 have h:=hs.hh.keep (Bo3 w)
 exact ⟨hs.carry rfl hs.yd h,h.2.1⟩
theorem uh{V:Nat->Option DObj} : WV C U V β w (.tuple #[.bool false]) (.tup [.v (.bool false)]):=
 WV.flat (.tup [.bool false] _ rfl λj u d hu hd=>by
  match j with
  | 0=>simp at hu hd;subst hu hd;exact .imm _ _ (.v _)
  | j+1=>simp at hu) rfl
theorem Cc2{V:Nat->Option DObj}(x:Value):WV C U V β w x (Qt x):=WV.flat (UK x) (R6 x)
theorem Cl6{V:Nat->Option DObj}{k x:Value}{v:DV}(h:WV C U V β w x v):WV C U V β w (.tuple #[.bool true,k,x]) (.tup [.v (.bool true),Qt k,v]):=by
 refine ⟨λid hi=>?_,λha=>.tup [.bool true,k,x] _ rfl λj u d hu hd=>?_,TP.of_wv (C:=C) (U:=U) (V:=V) (β:=β) (w:=w) (us:=[.bool true,k,x]) rfl λj u d hu hd=>?_⟩
 .simp [DV.refs,DV.refsL,R6] at hi;exact h.1 id hi
 .match j with
  | 0=>simp at hu hd;subst hu hd;exact .imm _ _ (.v _)
  | 1=>simp at hu hd;subst hu hd;exact UK _
  | 2=>simp at hu hd;subst hu hd;exact h.2.1 λid hi=>ha id (by simp [DV.refs,DV.refsL,R6,hi])
  | j+3=>simp at hu
 .match j with
  | 0=>simp at hu hd;subst hu hd;exact WV.v _
  | 1=>simp at hu hd;subst hu hd;exact Cc2 _
  | 2=>simp at hu hd;subst hu hd;exact h
  | j+3=>simp at hu
theorem Cl7(since:Nat)(seen:List Nat)(es:List ME):Re since seen es≠[]:=by
 unfold Re
 simp only
 split
 .simp
 .rename_i h
  intro e
  simp only [Bv,Cw,List.append_eq_nil_iff,List.map_eq_nil_iff] at e
  rw [e.1] at h
  simp at h
theorem Cv9{x:Operand}{id im ck since last:Nat}{seen:List Nat}{es:List ME}(ho:o.op=.next x false)(hs:HoldsB C U s β a w)(hx:s.ev x=.pt id 0)(hid:s.ho id=some (.miter (.mp im) since seen last))(Uo:s.ho im=some (.mapo ck es))
  (JM:(!seen.isEmpty && !es.isEmpty&&es.all (λe=>decide (e.b≥last)))=false) :
  ∃ c∈Re since seen es,OpOk C U a w o (kA id (kB (.mp im) since seen ck c)).1 (s.upd nid (kA id (kB (.mp im) since seen ck c)).2):=by
 have h1:=hs.ev x
 rw [hx] at h1
 obtain ⟨b,Qu,hb⟩:=jR h1
 obtain ⟨b',mv,Ht,kQ,iY⟩:=hs.hh.hp id _ (dB hid)
 rw [hb] at Ht;cases Ht
 have K0:=iY.2.1 (λi hi=>by simp [DV.refs] at hi;subst hi;rw [dB Uo];rfl)
 obtain ⟨bm,e1,jw⟩:=qP K0
 cases e1
 obtain ⟨ms,hm,He,Ce⟩:=hs.mapo jw Uo
 have rJ:F2 (λ(e:MapEntry) (p:ME)=>e.key=p.k/\e.born=p.b/\WV C U (s.vw C) β w e.val p.v) ms.toList es:=F2.of (by simpa using He) λj e p he hp=>Ce j e p (by simpa using he) hp
 have kU:(getObj b).run C.P w=.ok (.mapIter (some bm) since seen.toArray last) w:=by simp [getObj,Sem.run,kQ]
 have gu:(getObj bm).run C.P w=.ok (.map ms ck) w:=MapKept.run_getObj_map hm
 have Ka:ms.all (λe=>decide (e.born≥last))=es.all (λe=>decide (e.b≥last)):=by
  rw [<- Array.all_toList]
  exact rJ.all λe p h=>by rw [h.2.1]
 have ji:ms.isEmpty=es.isEmpty:=by
  cases es with
  | nil=>simp at He;subst He;rfl
  | cons p ps=>(have:ms.size≠0:=by simp at He;omega);simp [Array.isEmpty,this]
 have L5:(!seen.toArray.isEmpty && !ms.isEmpty&&ms.all (λe=>decide (e.born≥last)))=false:=by
  rw [Ka,ji,<- JM];simp
 obtain ⟨Hv,hold⟩:∃ Hv,Hv=(ms.filter λe=>!seen.toArray.contains e.born).filter (λe=>decide (e.born<since)):=⟨_,rfl⟩
 obtain ⟨new,Kk⟩:∃ new,new=(ms.filter λe=>!seen.toArray.contains e.born).filter (λe=>decide (e.born≥since)):=⟨_,rfl⟩
 obtain ⟨Ub,zJ⟩:∃ Ub,Ub=(if Hv.isEmpty then #[none] else #[])++(Hv++new).map some:=⟨_,rfl⟩
 have pU:F2 (λ(e:MapEntry) (p:ME)=>e.key=p.k/\e.born=p.b/\WV C U (s.vw C) β w e.val p.v) (ms.toList.filter λe=>!seen.toArray.contains e.born) (es.filter λe=>!seen.contains e.b):=
  F2.filter (λe p h=>by rw [h.2.1];simp) rJ
 have zQ:=F2.filter (f:=λ(e:MapEntry)=>decide (e.born<since)) (g:=λ(e:ME)=>decide (e.b<since)) (λe p h=>by rw [h.2.1]) pU
 have LH:=F2.filter (f:=λ(e:MapEntry)=>decide (e.born≥since)) (g:=λ(e:ME)=>decide (e.b≥since)) (λe p h=>by rw [h.2.1]) pU
 have yQ:Hv.toList=(ms.toList.filter λe=>!seen.toArray.contains e.born).filter (λe=>decide (e.born<since)):=by rw [hold];simp
 have IN:new.toList=(ms.toList.filter λe=>!seen.toArray.contains e.born).filter (λe=>decide (e.born≥since)):=by rw [Kk];simp
 have pV:F2 (λ(e:Option MapEntry) (p:Option ME)=>(e=none/\p=none)\/∃ e' p',e=some e'/\p=some p'/\e'.key=p'.k/\e'.born=p'.b/\WV C U (s.vw C) β w e'.val p'.v) Ub.toList (Re since seen es):=by
  have fh:∀ {l:List MapEntry} {m:List ME},F2 (λ(e:MapEntry) (p:ME)=>e.key=p.k/\e.born=p.b/\WV C U (s.vw C) β w e.val p.v) l m->F2 (λ(e:Option MapEntry) (p:Option ME)=>(e=none/\p=none)\/∃ e' p',e=some e'/\p=some p'/\e'.key=p'.k/\e'.born=p'.b/\WV C U (s.vw C) β w e'.val p'.v) (l.map some) (m.map some):=by
   intro l m h
   induction h with
   | nil=>exact .nil
   | cons h _ ih=>exact .cons (.inr ⟨_,_,rfl,rfl,h⟩) ih
  rw [zJ]
  unfold Re
  simp only [Array.toList_append,Array.toList_map]
  refine F2.append ?_ (fh (F2.append (by rw [yQ];exact zQ) (by rw [IN];exact LH)))
  have ec:Hv.isEmpty=((es.filter λe=>!seen.contains e.b).filter λe=>decide (e.b<since)).isEmpty:=by
   have hl:=zQ.length
   rw [<- yQ] at hl
   cases hq:(es.filter λe=>!seen.contains e.b).filter λe=>decide (e.b<since) with
   | nil=>rw [hq] at hl;simp at hl;subst hl;rfl
   | cons p ps=>((rw [hq] at hl);have:Hv.size≠0:=by simp at hl;omega);simp [Array.isEmpty,this]
  rw [ec]
  split
  .exact .cons (.inl ⟨rfl,rfl⟩) .nil
  .exact .nil
 have Kq:0<Ub.size:=by
  have:=pV.length
  have h2:=Cl7 since seen es
  cases hq:Re since seen es with
  | nil=>exact absurd hq h2
  | cons p ps=>rw [hq] at this;simp at this;omega
 -- the tape's word
 obtain ⟨k,w1,hk,tX,lZ⟩:∃ k w1,k<Ub.size/\(choose (.mapNext Ub.size)).run C.P w=.ok k w1/\(w1=w\/w1=w.drew):=by
  by_cases hf:(Question.mapNext Ub.size).forced=true
  .exact ⟨0,w,Kq,by simp [choose,Sem.run,hf],.inl rfl⟩
  .refine ⟨(Question.mapNext Ub.size).cut (w.tape w.drawn (.mapNext Ub.size)),w.drew,?_,?_,.inr rfl⟩
   .exact Nat.mod_lt _ Kq
   .simp only [choose,Sem.run]
    rw [Ad hf]
    rfl
 obtain ⟨Mz,aE⟩:HoldsB C U s β a w1/\∀ x d,WV C U (s.vw C) β w x d->WV C U (s.vw C) β w1 x d:=by
  rcases lZ with rfl | rfl
  .exact ⟨hs,λ_ _ h=>h⟩
  .exact hs.drawn
 have JK:w1.heap=w.heap:=by rcases lZ with rfl | rfl <;> rfl
 have Ye:Ub.toList[k]?=some Ub[k]:=by simp [hk]
 obtain ⟨c,hc,gU⟩:=pV.get Ye
 refine ⟨c,Au hc,?_⟩
 have Rc:∀ (r:Value) (w2:World),((match Ub[k]? with
   | some (some e)=>(do
    setObj b (.mapIter (some bm) since (seen.toArray.push e.born) ck)
    pure (.tuple #[.bool true,e.key,e.val]):Sem Value)
   | some none=>pure (.tuple #[.bool false])
   | none=>stuck "Next: no such candidate").run C.P w1=.ok r w2)->(execOp a.eval o).run C.P w=.ok (.value r) w2:=by
  intro r w2 h
  have cO:(Instr.next (.pointer (some ⟨b,0,none⟩)) false o.type).run C.P w=.ok r w2:=by
   simp only [Instr.next,Sem.run_bind,kU,Result.andThen_ok,gu]
   simp only [L5,Eh,Ib]
   rw [<- hold,<- Kk,<- zJ]
   simp only [Sem.run_bind,tX,Result.andThen_ok]
   exact h
  simp [execOp,ho,Qu,cO]
 have KB:Ub[k]?=some Ub[k]:=by simp [hk]
 rcases gU with ⟨h1,rfl⟩ | ⟨e',p',h1,rfl,U5,heb,Ty⟩
 .refine ⟨_,w1,β,.tuple #[.bool false],Rc _ w1 (by rw [KB,h1];rfl),.inl rfl,Mz,?_⟩
  exact uh
 .have K6:w1.heap[b]?=some (.mapIter (some bm) since seen.toArray last):=by rw [JK];exact kQ
  have kZ:b<w1.heap.size:=(Bt.1 K6).1
  have Ik:∀ o',(setObj b o').run C.P w1=.ok () { w1 with heap:=w1.heap.setIfInBounds b o' }:=λo'=>by simp [setObj,Sem.run,K6]
  have hw:=Mz.wrote nid id b (.miter (.mp im) since (seen ++ [p'.b]) ck) (w':={ w1 with heap:=w1.heap.setIfInBounds b (.mapIter (some bm) since (seen.toArray.push e'.born) ck) }) hb (by rw [hid];rfl)
   (λk hk=>by simp [Gh (Ek hk)]) (by simp) rfl rfl rfl (λc T hc=>by rw [K6] at hc;cases hc)
   (λSg=>⟨b,some bm,hb,by simp [kZ,heb],Sg _ _ (aE _ _ iY)⟩)
  refine ⟨_,_,β,.tuple #[.bool true,e'.key,e'.val],Rc _ { w1 with heap:=w1.heap.setIfInBounds b (.mapIter (some bm) since (seen.toArray.push e'.born) ck) } ?_,.inl rfl,hw.1,?_⟩
  .rw [KB,h1]
   simp only [Sem.run_bind,Ik,Result.andThen_ok,Sem.run_pure]
  .rw [U5]
   exact Cl6 (hw.2 _ _ (aE _ _ Ty))
theorem Cl8{x:Operand}{id since last:Nat}{seen:List Nat}(ho:o.op=.next x false)(hs:HoldsB C U s β a w)(hx:s.ev x=.pt id 0)(hid:s.ho id=some (.miter (.v (.map none)) since seen last)):OpOk C U a w o (.tup [.v (.bool false)]) s:=by
 have h1:=hs.ev x
 rw [hx] at h1
 obtain ⟨b,Qu,hb⟩:=jR h1
 obtain ⟨b',mv,Ht,kQ,iY⟩:=hs.hh.hp id _ (dB hid)
 rw [hb] at Ht;cases Ht
 have e1:=Eb (iY.2.1 (λi hi=>by simp [DV.refs] at hi))
 cases e1
 have kU:(getObj b).run C.P w=.ok (.mapIter none since seen.toArray last) w:=by simp [getObj,Sem.run,kQ]
 exact .same hs (x:=.tuple #[.bool false]) (by simp [execOp,ho,Qu,Instr.next,kU,Result.andThen]) uh
theorem F2.find{α β:Type}{R:α->β->Prop}{f:α->Bool}{g:β->Bool}(U4:∀ a b,R a b->f a=g b){l:List α}{m:List β}(h:F2 R l m):∀ {b:β},m.find? g=some b->∃ a,l.find? f=some a/\R a b:=by
 induction h with
 | nil=>intro b hb;simp at hb
 | cons h _ ih=>
  intro b hb
  rw [List.find?_cons] at hb ⊢
  rw [U4 _ _ h]
  split at hb
  .cases hb;exact ⟨_,rfl,h⟩
  .exact ih hb
theorem Cl9{V:Nat->Option DObj}{k x:Value}{v:DV}(h:WV C U V β w x v):WV C U V β w (.tuple #[k,x]) (.tup [Qt k,v]):=by
 refine ⟨λid hi=>?_,λha=>.tup [k,x] _ rfl λj u d hu hd=>?_,TP.of_wv (C:=C) (U:=U) (V:=V) (β:=β) (w:=w) (us:=[k,x]) rfl λj u d hu hd=>?_⟩
 .simp [DV.refs,DV.refsL,R6] at hi;exact h.1 id hi
 .match j with
  | 0=>simp at hu hd;subst hu hd;exact UK _
  | 1=>simp at hu hd;subst hu hd;exact h.2.1 λid hi=>ha id (by simp [DV.refs,DV.refsL,R6,hi])
  | j+2=>simp at hu
 .match j with
  | 0=>simp at hu hd;subst hu hd;exact Cc2 _
  | 1=>simp at hu hd;subst hu hd;exact h
  | j+2=>simp at hu
theorem Cw0{x:Operand}{l:List (DV×Upd)}(ho:o.op=.entry x)(hs:HoldsB C U s β a w)(h:qC s x=some l):∃ p∈l,OpOk C U a w o p.1 (s.upd nid p.2):=by
 unfold qC at h
 split at h
 rotate_left
 .cases h
 rename_i id hx
 split at h
 rotate_left
 .cases h
 rename_i im since seen last hid
 split at h
 rotate_left
 .cases h
 rename_i ck es Uo
 split at h
 rotate_left
 .cases h
 rename_i Ye
 subst Ye
 split at h
 rotate_left
 .cases h
 rename_i st If
 split at h
 rotate_left
 .cases h
 rename_i e he
 cases h
 have h1:=hs.ev x
 rw [hx] at h1
 obtain ⟨b,Qu,hb⟩:=jR h1
 obtain ⟨b',mv,Ht,kQ,iY⟩:=hs.hh.hp id _ (dB hid)
 rw [hb] at Ht;cases Ht
 have K0:=iY.2.1 (λi hi=>by simp [DV.refs] at hi;subst hi;rw [dB Uo];rfl)
 obtain ⟨bm,e1,jw⟩:=qP K0
 cases e1
 obtain ⟨ms,hm,He,Ce⟩:=hs.mapo jw Uo
 have rJ:F2 (λ(e:MapEntry) (p:ME)=>e.key=p.k/\e.born=p.b/\WV C U (s.vw C) β w e.val p.v) ms.toList es:=F2.of (by simpa using He) λj e p he hp=>Ce j e p (by simpa using he) hp
 have kU:(getObj b).run C.P w=.ok (.mapIter (some bm) since seen.toArray ck) w:=by simp [getObj,Sem.run,kQ]
 have gu:(getObj bm).run C.P w=.ok (.map ms ck) w:=MapKept.run_getObj_map hm
 obtain ⟨e0,hf,hk,kY,hv⟩:=rJ.find (f:=λ(e:MapEntry)=>e.born==st) (g:=λ(e:ME)=>e.b==st) (λa b hr=>by rw [hr.2.1]) he
 have jb:ms.find? (λe=>e.born==st)=some e0:=by
  obtain ⟨l⟩:=ms
  simpa using hf
 have hbk:seen.toArray.back?=some st:=by rw [List.back?_toArray];exact If
 refine ⟨_,Am.2 rfl,.same (x:=.tuple #[e0.key,e0.val]) hs ?_ ?_⟩
 .simp [execOp,ho,Qu,Instr.entry,kU,hbk,gu,jb,Result.andThen]
 .rw [hk];exact Cl9 hv
theorem Cw1{k:Bool}{x:Operand}{l:List (DV×Upd)}(ho:o.op=if k then .entry x else .next x false)(hs:HoldsB C U s β a w)(h:Wp s k x=some l):∃ p∈l,OpOk C U a w o p.1 (s.upd nid p.2):=by
 unfold Wp at h
 cases k with
 | true=>exact Cw0 ho hs h
 | false=>
  simp only [Eh,Ib] at h ho
  split at h
  .rename_i id hx
   split at h
   .rename_i hid
    cases h
    exact ⟨_,Am.2 rfl,Cl8 ho hs hx hid⟩
   .rename_i im since seen last hid
    split at h
    .rename_i ck es Uo
     split at h
     .cases h
     .rename_i hg
      cases h
      obtain ⟨c,hc,Pq⟩:=Cv9 (nid:=nid) ho hs hx hid Uo (by simpa using hg)
      exact ⟨_,Bm.2 ⟨c,hc,rfl⟩,Pq⟩
    .cases h
   .cases h
  .cases h
theorem Cw2{t:TypeId}{x:Operand}{b:ByteArray}(ho:o.op=.range t x)(ht:C.P.underlying t=some .string)(hs:HoldsB C U s β a w)(hn:¬ U nid)(hx:s.ev x=.v (.string b)):OpOk C (Un U nid) a w o (.pt nid 0) (s.upd nid (.lay (.siter b 0))):=by
 have Qu:a.eval x=.string b:=by have:=hs.ev x;rw [hx] at this;exact Eb this
 have Mt:=R9 w (.stringIter b 0)
 have hf:=(hs.turned (β':=upd β nid (some w.heap.size)) (w':=w.alloc (.stringIter b 0)) hn none (λ_ h=>by cases h) (.siter b 0) (λb hb _=>Mt.block b hb) Mt.os Mt.tape Mt.output Mt.size (λj hj _=>aP β _ hj) (λ_ h=>by cases h)
  (λb hb=>by rw [Dc] at hb;cases hb;exact ⟨.inr (Ai _),by simp⟩) (λCe=>⟨_,Dc _ _ _,heap_alloc_new w _⟩)).1
 refine ⟨.value (.pointer (some ⟨w.heap.size,0,none⟩)),_,_,_,?_,.inl rfl,hf,qN (.pt nid 0 _ (by simp)) rfl⟩
 simp [execOp,ho,Qu,Instr.range,run_underlying ht]
theorem B44{V:Nat->Option DObj}(x y z:Value):WV C U V β w (.tuple #[x,y,z]) (.tup [.v x,.v y,.v z]):=
 WV.flat (.tup [x,y,z] _ rfl λj u d hu hd=>by
  match j with
  | 0=>simp at hu hd;subst hu hd;exact .imm _ _ (.v _)
  | 1=>simp at hu hd;subst hu hd;exact .imm _ _ (.v _)
  | 2=>simp at hu hd;subst hu hd;exact .imm _ _ (.v _)
  | j+3=>simp at hu) rfl
theorem Cc3{x:Operand}{id pos:Nat}{t:ByteArray}(ho:o.op=.next x true)(hs:HoldsB C U s β a w)(hx:s.ev x=.pt id 0)(hid:s.ho id=some (.siter t pos)) :
  (pos<t.size->OpOk C U a w o (.tup [.v (.bool true),.v (.int .i64 (pos:Nat)),.v (.int .i32 ((Utf8.decode t pos).1:Nat))]) (s.upd nid (.wr id (.siter t (pos+(Utf8.decode t pos).2)))))/\
  (¬ pos<t.size->OpOk C U a w o (.tup [.v (.bool false)]) s):=by
 have h1:=hs.ev x
 rw [hx] at h1
 obtain ⟨b,Qu,hb⟩:=jR h1
 obtain ⟨b',Ht,kQ⟩:=hs.hh.hp id _ (dB hid)
 rw [hb] at Ht;cases Ht
 have kU:(getObj b).run C.P w=.ok (.stringIter t pos) w:=by simp [getObj,Sem.run,kQ]
 have Ik:∀ o',(setObj b o').run C.P w=.ok () { w with heap:=w.heap.setIfInBounds b o' }:=λo'=>by simp [setObj,Sem.run,kQ]
 have kZ:b<w.heap.size:=(Bt.1 kQ).1
 refine ⟨λhp=>?_,λhp=>?_⟩
 .have hw:=hs.wrote nid id b (.siter t (pos+(Utf8.decode t pos).2)) (w':={ w with heap:=w.heap.setIfInBounds b (.stringIter t (pos+(Utf8.decode t pos).2)) }) hb (by rw [hid];rfl)
   (λk hk=>by simp [Gh (Ek hk)]) (by simp) rfl rfl rfl (λc T hc=>by rw [kQ] at hc;cases hc)
   (λSg=>⟨b,hb,by simp [kZ]⟩)
  refine ⟨.value (.tuple #[.bool true,.int .i64 (pos:Nat),.int .i32 ((Utf8.decode t pos).1:Nat)]),_,β,_,?_,.inl rfl,hw.1,B44 _ _ _⟩
  simp [execOp,ho,Qu,Instr.next,kU,hp,Ik,goInt,Result.andThen]
 .exact .same hs (x:=.tuple #[.bool false]) (by simp [execOp,ho,Qu,Instr.next,kU,hp,Result.andThen]) uh
theorem Cw3{t:TypeId}{x:Operand}{td:TypeDesc}(ho:o.op=.makeInterface t x)(ht:C.P.underlying t=some td)(cG:∀ ms,td≠.interface ms)(hs:HoldsB C U s β a w):OpOk C U a w o (.ifc t (s.ev x)) s:=by
 have h1:=hs.evw x
 refine .same hs (x:=.iface t (a.eval x)) ?_ ⟨λid hi=>h1.1 id (by simpa [DV.refs] using hi),λha=>.ifc t _ _ (h1.2.1 λid hi=>ha id (by simpa [DV.refs] using hi)),TP.nt λ_ h=>by cases h⟩
 have:(Instr.makeInterface t (a.eval x)).run C.P w=.ok (.iface t (a.eval x)) w:=by
  unfold Instr.makeInterface
  simp only [Sem.run_bind,run_underlying ht,Result.andThen_ok]
  cases td <;> first | rfl | (exact absurd rfl (cG _))
 simp [execOp,ho,this]
theorem Cw4{xt t:TypeId}{x:Operand}{td:TypeDesc}{z:Value}{ok:Bool}(ho:o.op=.typeAssert x xt t ok)(ht:C.P.underlying t=some td)(cG:∀ ms,td≠.interface ms)(hz:(C.P.info? t).bind (·.zero)=some z)(hs:HoldsB C U s β a w) :
  (∀ d,s.ev x=.ifc t d->OpOk C U a w o (Gj ok d true) s)/\(ok=true->(∀ T d,T≠t->s.ev x=.ifc T d->OpOk C U a w o (.tup [.v z,.v (.bool false)]) s)/\(s.ev x=.v .nilIface->OpOk C U a w o (.tup [.v z,.v (.bool false)]) s)):=by
 have h1:=hs.ev x
 have hzero:=xf hz w
 refine ⟨λd hx=>?_,λPq=>⟨λT d hT hx=>?_,λhx=>?_⟩⟩
 .rw [hx] at h1
  obtain ⟨u,e1,hr⟩:=C5 h1
  refine .same hs (x:=if ok then .tuple #[u,.bool true] else u) ?_ (TG (hs.evp x hr (by rw [hx];simp [DV.refs])))
  have:(Instr.typeAssert (.iface t u) xt t ok).run C.P w=.ok (if ok then .tuple #[u,.bool true] else u) w:=by
   unfold Instr.typeAssert
   simp only [Sem.run_bind,run_underlying ht,Result.andThen_ok]
   cases td <;> first | (simp;done) | (exact absurd rfl (cG _))
  simp [execOp,ho,e1,this]
 .subst Pq
  rw [hx] at h1
  obtain ⟨u,e1,hr⟩:=C5 h1
  refine .same hs (x:=.tuple #[z,.bool false]) ?_ (SC (WV.v z))
  have:(Instr.typeAssert (.iface T u) xt t true).run C.P w=.ok (.tuple #[z,.bool false]) w:=by
   unfold Instr.typeAssert
   simp only [Sem.run_bind,run_underlying ht,Result.andThen_ok]
   cases td <;> first | (simp [hT,hzero];done) | (exact absurd rfl (cG _))
  simp [execOp,ho,e1,this]
 .subst Pq
  rw [hx] at h1
  have e1:=Eb h1
  refine .same hs (x:=.tuple #[z,.bool false]) ?_ (SC (WV.v z))
  have:(Instr.typeAssert .nilIface xt t true).run C.P w=.ok (.tuple #[z,.bool false]) w:=by
   unfold Instr.typeAssert
   simp only [Sem.run_bind,run_underlying ht,Result.andThen_ok]
   cases td <;> first | (simp [hzero];done) | (exact absurd rfl (cG _))
  simp [execOp,ho,e1,this]
theorem Cw5{ar e:TypeId}{x:Operand}{n id:Nat}{cs:List DV}(ho:o.op=.slice ar x none none none)(QK:C.P.underlying ar=some (.array n e))(tY:0<C.P.cellsOf e)(T7:0<n)(hnb:n<=2147483648)
  (hs:HoldsB C U s β a w) (hx:s.ev x=.pt id 0) (hid:s.ho id=some (.row ar cs)) (hl:cs.length=n*C.P.cellsOf e):OpOk C U a w o (.ms id 0 n (C.P.cellsOf e)) s:=by
 have h1:=hs.ev x
 rw [hx] at h1
 obtain ⟨b,Qu,hb⟩:=jR h1
 obtain ⟨c,hw,eE,hex,hr⟩:=hs.row hb hid
 have He:=hex (by simp [Oj,QK])
 refine .same hs (x:=.slice (some ⟨b,0,none⟩) n n) ?_ (hs.evp x (.ms id 0 n (C.P.cellsOf e) b n c ar hb hw (Ai _) (by simp only [maxLen];omega) (by omega)) (by rw [hx];simp [DV.refs]))
 have cz:=uT (P:=C.P) (t:=e) (by omega) w
 have Ha:¬ n=0:=by omega
 simp [execOp,ho,Qu,Instr.sliceAt,run_underlying QK,Instr.sureAddr,Instr.sliceBounds,cz,Addr.add]
theorem Bs7{es m:Nat}{x:Operand}{news:List DV}(hs:HoldsB C U s β a w)(h:Wn s es (s.ev x)=some (news,m))(oR:news.length=m*es) :
  ∃ us:List Value,us.length=news.length/\(∀ u∈us,u.oneCell'=true)/\(∀ (j:Nat) (u:Value) (d:DV),us[j]?=some u->news[j]?=some d->WV C U (s.vw C) β w u d)/\
   ((∃ ad cap,a.eval x=.slice (some ad) m cap/\∀ (j:Nat) (u:Value),us[j]?=some u->w.cell? (ad.add j)=some u)\/(∃ cap,a.eval x=.slice none 0 cap/\m=0/\us=[])):=by
 have h1:=hs.ev x
 unfold Wn at h
 split at h
 .rename_i cs n hx
  cases h
  rw [hx] at h1
  rcases Q4 h1 with ⟨ad,cap,e1,rfl,rfl⟩ | ⟨ad,cap,us,e1,hl,hn,ha,hZ,hc,hr⟩
  .refine ⟨[],rfl,by simp,by simp,?_⟩
   cases ad with
   | none=>exact .inr ⟨cap,e1,rfl,rfl⟩
   | some ad=>exact .inl ⟨ad,cap,e1,by simp⟩
  .exact ⟨us,hl,hZ,λj u d hu hd=>qO (hr j u d hu hd),.inl ⟨ad,cap,e1,hc⟩⟩
 .rename_i cap hx
  cases h
  rw [hx] at h1
  exact ⟨[],rfl,by simp,by simp,.inr ⟨cap,Eb h1,rfl,rfl⟩⟩
 .rename_i id off n es' hx
  rw [hx] at h1
  split at h
  .rename_i T' cs Ig
   split at h
   .rename_i Qp
    obtain ⟨rfl,Qp⟩:=Qp
    cases h
    rcases mR h1 with ⟨e1,rfl,rfl⟩ | ⟨b,cap,c,T,e1,hb,hw,hn,hm,Pf⟩
    .exact ⟨[],by simp,by simp,by simp,.inr ⟨0,e1,rfl,rfl⟩⟩
    .obtain ⟨c',Sf,hl,_,hr⟩:=hs.row hb Ig
     rw [hw] at Sf
     injection Sf with Sf
     injection Sf with Te hT
     subst hT Te
     refine ⟨(c.toList.drop off).take (m*es'),by simp;omega,λu hu=>?_,λj u d hu hd=>?_,.inl ⟨_,cap,e1,λj u hu=>?_⟩⟩
     .obtain ⟨j,hj,rfl⟩:=Bq.1 hu
      have Wu:off+j<cs.length:=by simp at hj;omega
      refine (hr (off+j) _ cs[off+j] ?_ (Aa Wu)).2
      rw [Er,Kn]
      simp
     .rw [Bz] at hu hd
      split at hu
      .rename_i hj
       rw [Af hj] at hd
       exact (hr (off+j) u d (by simpa using hu) (by simpa using hd)).1
      .cases hu
     .rw [Bz] at hu
      split at hu
      .exact X8 hw j u hu
      .cases hu
   .cases h
  .cases h
 .cases h
theorem HoldsB.rowSet{T:TypeId}{id b off:Nat}{cs gd:List DV}{g:List Value}{c:Array Value}(hs:HoldsB C U s β a w)(hb:β id=some b)(hid:s.ho id=some (.row T cs))(hw:w.heap[b]?=some (.cells c T (0,0)))
  (QF:g.length=gd.length) (g1:∀ u∈g,u.oneCell'=true) (gr:∀ (j:Nat) (u:Value) (d:DV),g[j]?=some u->gd[j]?=some d->WV C U (s.vw C) β w u d) (Qp:off+gd.length<=cs.length) :
  HoldsB C U (s.upd nid (.wr id (.row T (cs.take off++gd++cs.drop (off+gd.length))))) β a (w.setRow b (c.toList.take off++g++c.toList.drop (off+g.length)).toArray):=by
 obtain ⟨c0,tH,hl,hex,hr⟩:=hs.row hb hid
 rw [hw] at tH
 injection tH with tH
 injection tH with Te
 subst Te
 refine (hs.wrote nid id b _ hb (by rw [hid];rfl) (λb' Ht=>setRow_other w b b' _ Ht) (by simp) rfl rfl rfl ?_ λCe=>?_).1
 .intro c' T' Kz
  rw [hw] at Kz
  cases Kz
  refine ⟨_,setRow_heap w b c _ T _ hw,?_⟩
  simp;omega
 .refine .inr ⟨b,_,hb,setRow_heap w b c _ T _ hw,by simp;omega,λh=>(by have:=hex h;simp;omega),λj u d hu hd=>?_⟩
  have Jq:(c.toList.take off++g++c.toList.drop (off+gd.length))[j]?=some u:=by rw [<- QF];simpa using hu
  rw [Bu,Dr] at Jq hd
  simp only [Bs,Ck] at Jq hd
  rw [show min off c.size=off by omega] at Jq
  rw [show min off cs.length=off by omega] at hd
  by_cases hj:j<off
  .rw [Af hj] at Jq hd
   rw [Dw hj] at Jq hd
   have:=hr j u d (by simpa using Jq) hd
   exact ⟨Ce _ _ this.1,this.2⟩
  .rw [Ad hj] at Jq hd
   rw [Dr] at Jq hd
   rw [QF] at Jq
   by_cases Qv:j-off<gd.length
   .rw [Af Qv] at Jq hd
    exact ⟨Ce _ _ (gr _ u d Jq hd),g1 u (Au Jq)⟩
   .rw [Ad Qv] at Jq hd
    rw [Js] at Jq hd
    have:=hr _ u d (by simpa using Jq) hd
    exact ⟨Ce _ _ this.1,this.2⟩
theorem Cw6{t T e:TypeId}{c:Call}{x y:Operand}{id off n m es:Nat}{cs news:List DV}(ho:o.op=.call c)(hc:c.callee=.builtin .copy)(Di:c.args.toList=[x,y])(Ys:c.argTypes[0]?=some t)(ht:C.P.underlying t=some (.slice e))
  (M6:es=C.P.cellsOf e) (tY:0<C.P.cellsOf e) (hs:HoldsB C U s β a w) (hx:s.ev x=.ms id off n es) (hid:s.ho id=some (.row T cs)) (hy:Wn s es (s.ev y)=some (news,m)) (T7:0<n) (Qp:off+n*es<=cs.length) (oR:news.length=m*es) :
  OpOk C U a w o (.v (.int .i64 (min m n:Nat))) (s.upd nid (.wr id (.row T (cs.take off++news.take (min m n*es)++cs.drop (off+min m n*es))))):=by
 have hA:c.args = #[x,y]:=by apply De;simpa using Di
 have h1:=hs.ev x
 rw [hx] at h1
 obtain ⟨us,ul,u1,ur,jX⟩:=Bs7 hs hy oR
 rcases mR h1 with ⟨_,_,h0⟩ | ⟨b,cap,cc,T',e1,hb,hw,hn,hm,Pf⟩
 .omega
 obtain ⟨c0,tH,hl,hex,hr⟩:=hs.row hb hid
 rw [hw] at tH
 injection tH with tH
 injection tH with Te jH
 subst Te jH
 have cz:(sizeOf e).run C.P w=.ok es w:=by rw [M6];exact uT (by omega) w
 have PY:min m n*es<=m*es:=Cu _ (Nat.min_le_left _ _)
 have aQm:min m n*es<=n*es:=Cu _ (Nat.min_le_right _ _)
 have rD:(us.take (min m n*es)).length=min m n*es:=by simp;omega
 have cf:(news.take (min m n*es)).length=min m n*es:=by simp;omega
 have If:=run_storeCells_at C.P b off T' (us.take (min m n*es)) 0 cc w hw (by rw [rD];omega) (λu hu=>u1 u (Gv hu))
 simp only [Oq] at If
 have M3:(Builtin.firstCells es (min m n) (a.eval y)).run C.P w=.ok (us.take (min m n*es)).toArray w:=by
  rcases jX with ⟨ad,P2,e2,Om⟩ | ⟨P2,e2,rfl,rfl⟩
  .rw [e2]
   have:=run_loadCells_list (P:=C.P) w ad (us.take (min m n*es)) (λj v hv=>Om j v (by
    rw [Bz] at hv
    split at hv
    .exact hv
    .cases hv))
   rw [rD] at this
   exact this
  .rw [e2];simp [Builtin.firstCells]
 have hlen:(Builtin.lenOf (a.eval y)).run C.P w=.ok m w:=by
  rcases jX with ⟨ad,P2,e2,_⟩ | ⟨P2,e2,rfl,_⟩ <;> rw [e2] <;> rfl
 have PM:=hs.rowSet (nid:=nid) (off:=off) (g:=us.take (min m n*es)) (gd:=news.take (min m n*es)) hb hid hw (by rw [rD,cf]) (λu hu=>u1 u (Gv hu))
  (λj u d hu hd=>by
   rw [Bz] at hu hd
   split at hu
   .rename_i hj
    rw [Af hj] at hd
    exact ur j u d hu hd
   .cases hu) (by rw [cf];omega)
 rw [cf,rD] at PM
 rw [rD] at If
 refine ⟨.value (.int .i64 (min m n:Nat)),_,β,_,?_,.inl rfl,PM,WV.v _⟩
 have Ws:Nat.min m n=min m n:=rfl
 simp [execOp,ho,resolve,hc,hA,invoke,builtin,Builtin.copy_,Ys,e1,run_underlying ht,hlen,cz,Ws,M3,If,goInt,Result.andThen]
theorem Cw7{t t' e:TypeId}{x:Operand}{news:List DV}{m:Nat}{ns:List Int}(ho:o.op=.convert t t' x)(Mz:C.P.underlying t=some (.slice e))(he:C.P.underlying e=some (.int .u8))(hd:C.P.underlying t'=some .string)
  (hs:HoldsB C U s β a w) (h:Wn s 1 (s.ev x)=some (news,m)) (hl:news.length=m) (hn:Xt news=some ns):OpOk C U a w o (.v (.string (strOfNums ns))) s:=by
 obtain ⟨us,T3,huo,hur,KE⟩:=Bs7 hs h (by omega)
 obtain ⟨oR,T6⟩:=vm hn
 have bp:us=ns.map (Value.int .u8):=by
  apply Ir
  intro j
  rw [Ee]
  by_cases hj:j<us.length
  .have h1:=Aa hj
   have h2:=Aa (l:=news) (i:=j) (by omega)
   obtain ⟨n,h3,h4⟩:=T6 j _ h2
   have h5:=hur j _ _ h1 h2
   rw [h4] at h5
   rw [h1,h3,h5.v_eq]
   rfl
  .rw [Fh (by omega),Fh (by omega)]
   rfl
 refine .same hs (x:=.string (strOfNums ns)) ?_ (WV.v _)
 rcases KE with ⟨ad,cap,e1,hc⟩ | ⟨cap,e1,rfl,rfl⟩
 .have eE:=run_loadCells_list (P:=C.P) w ad us hc
  have hum:us.length=m:=by omega
  rw [hum,bp] at eE
  have hb:=run_bytesToString (P:=C.P) w ad m cap ns eE
  rw [foldl_push_bytes] at hb
  have e2:(⟨ByteArray.empty.data++(ns.map λn=>UInt8.ofNat n.toNat).toArray⟩:ByteArray)=strOfNums ns:=by
   simp [strOfNums,ByteArray.empty,ByteArray.emptyWithCapacity]
   rfl
  rw [e2] at hb
  simp only [execOp,ho,e1,Sem.run_bind,run_convert_bytes_string w t t' e (some ad) m cap Mz he hd,hb,Result.andThen_ok,Sem.run_pure]
 .have tP:ns=[]:=Ef (by rw [oR,hl])
  subst tP
  have hb:=run_convert_bytes_nil (P:=C.P) w t e Mz he 0 cap t' hd
  have e2:ByteArray.empty=strOfNums []:=rfl
  rw [e2] at hb
  simp only [execOp,ho,e1,Sem.run_bind,hb,Result.andThen_ok,Sem.run_pure]
theorem Bd3{w:World}{b k:Nat}{c:Array Value}{T:TypeId}(h:w.heap[b]?=some (.cells c T (0,0))) :
  (w.freeze ⟨b,k,none⟩ 1).heap[b]?=some (.cells c T (k,k+1))/\(∀ i,i≠b->(w.freeze ⟨b,k,none⟩ 1).heap[i]?=w.heap[i]?)/\(w.freeze ⟨b,k,none⟩ 1).heap.size=w.heap.size:=by
 unfold World.freeze
 rw [Ad (by decide)]
 refine ⟨?_,λi hi=>?_,by simp⟩
 .simp [Kf,h]
 .simp only [Kf]
  rw [Ad (λe=>hi e.symm)]
theorem Cw8{t e T:TypeId}{x:Operand}{id n:Nat}{cs:List DV}{ns:List Int}(ho:o.op=.convert t t x)(ht:C.P.underlying t=some (.slice e))(he:C.P.underlying e=some (.int .u8))
  (hs:HoldsB C U s β a w) (hn:¬ U nid) (hx:s.ev x=.ms id 0 n 1) (hid:s.ho id=some (.row T cs)) (h0:0<n) (hl:cs.length=n) (tP:Xt cs=some ns):OpOk C (Un U nid) a w o (.sl cs n) (s.upd nid (.mv (some id) (.row T []))):=by
 have h1:=hs.ev x
 rw [hx] at h1
 rcases mR h1 with ⟨_,_,hz⟩ | ⟨b,cap,c,T',e1,hb,hw,kP,hm,Pf⟩
 .omega
 .obtain ⟨c',Sf,eE,_,hr⟩:=hs.row hb hid
  rw [hw] at Sf
  cases Sf
  have kZ:b<w.heap.size:=hs.hh.lt hb
  obtain ⟨f1,f2,f3⟩:=Bd3 (k:=c.size) hw
  obtain ⟨w',Sf⟩:∃ w',w.freeze ⟨b,c.size,none⟩ 1=w':=⟨_,rfl⟩
  rw [Sf] at f1 f2 f3
  have oP:w'.os=w.os/\w'.tape=w.tape/\w'.output=w.output:=by
   rw [<- Sf];unfold World.freeze;rw [Ad (by decide)];exact ⟨rfl,rfl,rfl⟩
  have JI:id≠nid:=λh=>hn (h ▸ hs.hh.used (lS (by rw [hid];rfl)))
  have cb:=hs.turned (β':=upd (upd β id none) nid none) (w':=w') hn (some id) (λi hi=>by cases hi;rw [hid];rfl) (.row T []) (λk hk Ha=>f2 k λh=>Ha id rfl (by rw [h];exact hb))
   oP.1 oP.2.1 oP.2.2 (by omega) (λj hj K4=>by rw [aP _ _ hj,aP _ _ (λh=>K4 (by rw [h]))]) (λi hi=>by cases hi;rw [aP _ _ JI,Dc])
   (λb' Ht=>by rw [Dc] at Ht;cases Ht) (λ_=>.inl ⟨Dc _ _ _,rfl⟩)
  obtain ⟨oR,T6⟩:=vm tP
  have ef:∀ j,upd (upd β id none) nid none j≠some b:=λj hj=>by
   unfold upd at hj
   split at hj
   .cases hj
   .split at hj
    .cases hj
    .rename_i h2
     exact h2 (hs.hh.inj j id b hj hb)
  have Fo:(execOp a.eval o).run C.P w=.ok (.value (.slice (some ⟨b,0,none⟩) n cap)) w':=by
   have J0:w.shape? b=some (T,c.size):=by unfold World.shape?;rw [hw]
   simp [execOp,ho,e1,convert,run_underlying ht,run_underlying he,markStringish,J0,Sf]
  refine ⟨_,w',_,_,Fo,.inl rfl,cb.1,qO ?_⟩
  refine .sl ⟨b,0,none⟩ n cap (c.toList.take n) cs (by simp;omega) kP ⟨?_,by show b<w'.heap.size;omega,ef⟩ (λu hu=>?_) (λj u hu=>?_) (λj u d hu hd=>?_)
  .rcases (hs.hh.bge id b hb).1 with h | h
   .exact .inr (.inl h)
   .exact .inr (.inr h)
  .obtain ⟨j,hj,rfl⟩:=Bq.1 hu
   simp at hj
   have hjc:j<cs.length:=by omega
   have:=(hr j c[j] cs[j] (by simp) (Aa hjc)).2
   simpa using this
  .have hj:=(As.1 hu).1
   simp at hj
   rw [Addr.add_lit,cell_of_row w' _ _ _ _ _ f1]
   rw [Dw (by omega)] at hu
   simpa using hu
  .have hj:=(As.1 hu).1
   simp at hj
   rw [Dw (by omega)] at hu
   obtain ⟨m,_,rfl⟩:=T6 j d hd
   have h5:=(hr j u _ (by simpa using hu) hd).1
   rw [h5.v_eq]
   exact .v _
end ops
end Go.DD

/- All operations that are no calls, in one. -/
namespace Go.DD
open Go.RowKit (Below)
theorem xe{C:Ctx}{U:Nat->Prop}{s:DS}{β:Nat->Option Nat}{a:Act}{w:World}{o:Oper}{d:DV}{u:Upd}{nid:Nat}{op:DOp}(hs:HoldsB C U s β a w)(hn:¬ U nid)
  (hc:fH C.P o.op=some op) (he:Ay nid s op=some (d,u)):OpOk C (Ux U nid u) a w o d (s.upd nid u):=by
 have IS:∀ t x k y kd,o.op=.mapUpdate t x k y\/o.op=.insert t x k y->Zy C.P t=some kd->op=.mup kd x k y->OpOk C (Ux U nid u) a w o d (s.upd nid u):=by
  rintro t x k y kd ho Vk rfl
  unfold Zy at Vk
  split at Vk
  .rename_i kt et ht
   simp only [Ay] at he
   split at he
   .rename_i kv hk
    split at he
    .rename_i Jc
     split at he
     .rename_i id hx
      split at he
      .rename_i ck es hid
       split at he
       .rename_i p hp;cases he;exact Cv7 ho ht Vk hs hk Jc hx hid (ck':=p.1) (es':=p.2) hp
       .cases he
      .cases he
     .cases he
    .cases he
   .cases he
  .cases Vk
 unfold fH at hc
 split at hc
 case h_1 x ho=>cases hc;simp [Ay] at he;obtain ⟨rfl,rfl⟩:=he;exact wJ (.inl ho) hs
 case h_2 x ho=>cases hc;simp [Ay] at he;obtain ⟨rfl,rfl⟩:=he;exact wJ (.inr ho) hs
 case h_3 c x y ho=>
  cases hc
  simp only [Ay] at he
  split at he
  .rename_i t ht;cases he;exact Cl2 ho hs ht
  .cases he
 case h_4 T ho=>
  obtain ⟨z,hz,rfl⟩:=Ac.1 hc
  simp [Ay] at he;obtain ⟨rfl,rfl⟩:=he
  exact EX ho hz hs hn
 case h_5 T x ho=>
  cases hc
  simp only [Ay] at he
  split at he
  .rename_i hx;cases he;exact EU ho hs hn hx
  .cases he
 case h_6 t ps ho=>
  split at hc
  .rename_i fs z ht hz
   split at hc
   .cases hc
   .rename_i Kq
    obtain ⟨l,hl,rfl⟩:=Ac.1 hc
    simp only [Ay] at he
    split at he
    .rename_i cs hf
     cases he
     exact Cu6 ho ht hz (by
      have h2:(fs.toList.all λf=>C.P.cellsOf f.type != 0)=true:=by simpa using Kq
      intro f jb
      have:=Bi.1 h2 f jb
      simpa using this) hl hs hf
    .cases he
  .cases hc
 case h_7 t n ps ho=>
  split at hc
  .rename_i e ht
   obtain ⟨z,hz,hc⟩:=Az.1 hc
   split at hc
   .rename_i T8
    cases hc
    simp only [Ay] at he
    split at he
    .rename_i cs hf
     split at he
     .rename_i Rs
      cases he
      exact Cu7 T8.1 ho ht hz T8.2.1 T8.2.2 Rs hs hn hf
     .cases he
    .cases he
   .cases hc
  .cases hc
 case h_8 t x ho=>
  obtain ⟨k,hk,rfl⟩:=Ac.1 hc
  simp only [Ay] at he
  split at he
  .rename_i cs hx
   obtain ⟨d',hp,he⟩:=Ac.1 he
   cases he
   exact B39 ho hk hs hx hp
  .rename_i id off hx
   split at he
   .rename_i T cs hid
    obtain ⟨d',hp,he⟩:=Ac.1 he
    cases he
    exact B40 ho hk hs hx hid hp
   .cases he
  .cases he
 case h_9 t x y ho=>
  obtain ⟨k,hk,rfl⟩:=Ac.1 hc
  simp only [Ay] at he
  split at he
  .rename_i id off hx
   split at he
   .rename_i T cs hid
    split at he
    .rename_i pE
     cases he
     exact ET ho hk rfl hs hx hid pE.1 pE.2.1 pE.2.2
    .cases he
   .cases he
  .cases he
 case h_10 x ho=>
  cases hc
  simp only [Ay] at he
  have key:(d,u)=(s.ev x,Upd.keep)/\((∃ cs,s.ev x=.ia cs)\/(∃ id off,s.ev x=.pt id off)\/(∃ f cs,s.ev x=.fn (.func f) cs)\/∃ T d,s.ev x=.ifc T d):=by
   split at he
   .rename_i cs hx;cases he;exact ⟨by rw [hx],.inl ⟨_,hx⟩⟩
   .rename_i id off hx;cases he;exact ⟨by rw [hx],.inr (.inl ⟨_,_,hx⟩)⟩
   .rename_i f cs hx;cases he;exact ⟨by rw [hx],.inr (.inr (.inl ⟨_,_,hx⟩))⟩
   .rename_i T d hx;cases he;exact ⟨by rw [hx],.inr (.inr (.inr ⟨_,_,hx⟩))⟩
   .cases he
  obtain ⟨h1,h2⟩:=key
  cases h1
  exact Ct8 ho hs h2
 case h_11 EP t x y yt ho=>
  have KF:op=.bin EP x y->OpOk C (Ux U nid u) a w o d (s.upd nid u):=by
   rintro rfl
   simp only [Ay] at he
   obtain ⟨v,hv,he⟩:=Ac.1 he
   cases he
   exact Ct4 ho hs hv
  have Ze:∀ k neg,(EP=if neg then .neq else .eql)->sY C.P k t->(k=4->Qj x=true\/Qj y=true)->op=.nilq k neg x y->OpOk C (Ux U nid u) a w o d (s.upd nid u):=by
   rintro k neg Oa Hk kW rfl
   simp only [Ay] at he
   split at he
   .rename_i b hx hy
    cases he
    exact Bs1 Oa ho Hk kW hs hx hy (.inl rfl)
   .rename_i b hx hy hh
    cases he
    have:=Bs1 (b:=b) (c:=true) Oa ho Hk kW hs hy hh (.inr rfl)
    cases b <;> exact this
   .cases he
  split at hc
  .cases hc;exact KF rfl
  .cases hc;exact KF rfl
  .rename_i ht
   have KG:∀ neg,(EP=if neg then .neq else .eql)->op=.bb neg x y->OpOk C (Ux U nid u) a w o d (s.upd nid u):=by
    rintro neg Oa rfl
    simp only [Ay] at he
    split at he
    .rename_i p q hx hy
     cases he
     exact EV Oa ho ht hs hx hy
    .cases he
   split at hc
   .cases hc;exact KG false rfl rfl
   .cases hc;exact KG true rfl rfl
   .cases hc
  .rename_i fs ht
   split at hc
   .rename_i hg
    have If:∀ neg ks,(EP=if neg then .neq else .eql)->qQ C.P 0 fs.toList=some ks->op=.eqs neg ks x y->OpOk C (Ux U nid u) a w o d (s.upd nid u):=by
     rintro neg ks Oa hk rfl
     simp only [Ay] at he
     split at he
     .rename_i xs ys hx hy
      obtain ⟨r,hr,he⟩:=Ac.1 he
      cases he
      exact Ct5 Oa ho ht hg.1 hg.2 hk hs hx hy hr
     .cases he
    split at hc
    .obtain ⟨ks,hk,rfl⟩:=Ac.1 hc;exact If false ks rfl hk rfl
    .obtain ⟨ks,hk,rfl⟩:=Ac.1 hc;exact If true ks rfl hk rfl
    .cases hc
   .cases hc
  .rename_i e ht
   split at hc
   .cases hc;exact Ze 0 false rfl ⟨e,ht⟩ (λh=>by cases h) rfl
   .cases hc;exact Ze 0 true rfl ⟨e,ht⟩ (λh=>by cases h) rfl
   .cases hc
  .rename_i e ht
   split at hc
   .cases hc;exact Ze 1 false rfl ⟨e,ht⟩ (λh=>by cases h) rfl
   .cases hc;exact Ze 1 true rfl ⟨e,ht⟩ (λh=>by cases h) rfl
   .cases hc
  .rename_i e f ht
   split at hc
   .cases hc;exact Ze 2 false rfl ⟨e,f,ht⟩ (λh=>by cases h) rfl
   .cases hc;exact Ze 2 true rfl ⟨e,f,ht⟩ (λh=>by cases h) rfl
   .cases hc
  .rename_i e f g ht
   split at hc
   .cases hc;exact Ze 3 false rfl ⟨e,f,g,ht⟩ (λh=>by cases h) rfl
   .cases hc;exact Ze 3 true rfl ⟨e,f,g,ht⟩ (λh=>by cases h) rfl
   .cases hc
  .rename_i e ht
   split at hc
   .rename_i kW
    have zI:Qj x=true\/Qj y=true:=by simpa using kW
    split at hc
    .cases hc;exact Ze 4 false rfl ⟨e,ht⟩ (λ_=>zI) rfl
    .cases hc;exact Ze 4 true rfl ⟨e,ht⟩ (λ_=>zI) rfl
    .cases hc
   .cases hc
  .cases hc
 case h_12 EP t x ho=>
  cases hc
  simp only [Ay] at he
  obtain ⟨v,hv,he⟩:=Ac.1 he
  cases he
  exact ER ho hs hv
 case h_13 src dst x ho=>
  split at hc
  .rename_i k' k h1 h2
   cases hc
   simp only [Ay] at he
   split at he
   .rename_i kk n hx;cases he;exact Ct6 ho h1 h2 hs hx
   .cases he
  .rename_i e h1 h2
   split at hc
   .rename_i h3
    cases hc
    simp only [Ay] at he
    split at he
    .rename_i b hx;cases he;exact Ct9 ho h1 h2 h3 hs hx
    .cases he
   .cases hc
  .rename_i e h1 h2
   split at hc
   .rename_i h3
    cases hc
    simp only [Ay] at he
    split at he
    .rename_i news m cy
     split at he
     .rename_i hlen
      obtain ⟨ns,tP,he⟩:=Ac.1 he
      cases he
      exact Cw7 ho h1 h3 h2 hs cy hlen tP
     .cases he
    .cases he
   .cases hc
  .rename_i e e' h1 h2
   split at hc
   .rename_i heq
    subst heq
    split at hc
    .rename_i h3
     cases hc
     simp only [Ay] at he
     split at he
     .rename_i id n hx
      split at he
      .rename_i T cs hid
       split at he
       .rename_i Qp
        cases he
        obtain ⟨ns,tP⟩:=Du.1 Qp.2.2
        exact Cw8 ho h1 h3 hs hn hx hid Qp.1 Qp.2.1 tP
       .cases he
      .cases he
     .cases he
    .cases hc
   .cases hc
  .cases hc
 case h_14 f first cap ho=>
  cases hc
  simp only [Ay,Ed,Prod.mk.injEq] at he;obtain ⟨rfl,rfl⟩:=he
  exact Cb7 ho hs
 case h_15 t l c ho=>
  split at hc
  .rename_i e ht
   split at hc
   rotate_left
   .cases hc
   rename_i iX
   obtain ⟨z,hz,rfl⟩:=Ac.1 hc
   simp only [Ay] at he
   split at he
   .rename_i l' c' hl Kz
    split at he
    .rename_i h
     cases he
     exact Cu8 iX ho ht hz h.2.2.2.2.1 (by have:=h.2.2.2.2.2;omega) h.2.2.2.1 hs hn hl Kz h.1 h.2.1 h.2.2.1
    .cases he
   .cases he
  .cases hc
 case h_16 t x lo hi mx ho=>
  split at hc
  .rename_i e ht
   split at hc
   .rename_i eG
    cases hc
    simp only [Ay] at he
    split at he
    .rename_i cs n hx
     split at he
     .rename_i l h Gg Sw
      split at he
      .rename_i hb
       cases he
       exact (su ho ht eG hs).1 cs n hx Gg Sw hb.1 hb.2.1 hb.2.2
      .cases he
     .cases he
    .rename_i id off n es' hx
     split at he
     .rename_i l h Gg Sw
      split at he
      .rename_i hb
       obtain ⟨rfl,hb⟩:=hb
       cases he
       exact (su ho ht eG hs).2.1 id off n hx Gg Sw hb.1 hb.2.1 hb.2.2
      .cases he
     .cases he
    .rename_i hx
     split at he
     .rename_i l h Gg Sw
      split at he
      .rename_i hb
       cases he
       exact (su ho ht eG hs).2.2 hx Gg Sw hb.1 hb.2
      .cases he
     .cases he
    .cases he
   .cases hc
  .rename_i ht
   cases hc
   simp only [Ay] at he
   split at he
   .rename_i b hx
    split at he
    .rename_i l h Gg Sw
     split at he
     .rename_i hb
      cases he
      exact Cu1 ho ht hs hx Gg Sw hb.1 hb.2.1 hb.2.2
     .cases he
    .cases he
   .cases he
  .rename_i n e QK
   split at hc
   .split at hc
    .rename_i hb
     cases hc
     simp only [Ay] at he
     split at he
     .rename_i id hx
      split at he
      .rename_i T cs hid
       split at he
       .rename_i Yg
        obtain ⟨rfl,hl⟩:=Yg
        cases he
        exact Cw5 ho QK hb.1 hb.2.1 hb.2.2 hs hx hid hl
       .cases he
      .cases he
     .cases he
    .cases hc
   .cases hc
  .cases hc
 case h_17 t x f ho=>
  split at hc
  .rename_i fs ht
   obtain ⟨fd,hf,hc⟩:=Az.1 hc
   split at hc
   .cases hc
   .rename_i hz
    cases hc
    simp only [Ay] at he
    split at he
    .rename_i cs hx;cases he;exact (wP ho ht hf hz hs).1 cs hx
    .rename_i id off hx;cases he;exact (wP ho ht hf hz hs).2 id off hx
    .cases he
  .cases hc
 case h_18 t x f ho=>
  split at hc
  .rename_i fs ht
   obtain ⟨fd,hf,hc⟩:=Az.1 hc
   obtain ⟨k,hk,rfl⟩:=Ac.1 hc
   simp only [Ay] at he
   split at he
   .rename_i cs hx
    obtain ⟨d',hp,he⟩:=Ac.1 he
    cases he
    exact Ct7 ho ht hf hk hs hx hp
   .cases he
  .cases hc
 case h_19 t x i ho=>
  split at hc
  .rename_i e ht
   split at hc
   .cases hc
   .rename_i hz
    cases hc
    simp only [Ay] at he
    split at he
    .rename_i j cs n hi hx
     split at he
     .rename_i hj;cases he;exact (wM ho ht hz hs hi hj.1).1 cs n hx hj.2
     .cases he
    .rename_i j id off n es' hi hx
     split at he
     .rename_i hj;cases he;exact (wM ho ht hz hs hi hj.1).2 id off n es' hx hj.2
     .cases he
    .cases he
  .rename_i n e ht
   split at hc
   .cases hc
   .rename_i hz
    cases hc
    simp only [Ay] at he
    split at he
    .rename_i j id off hi hx
     split at he
     .rename_i hj;cases he;exact (wO ho ht hz hs hi hj.1 hj.2).2 id off hx
     .cases he
    .rename_i j cs hi hx
     split at he
     .rename_i hj;cases he;exact (wO ho ht hz hs hi hj.1 hj.2).1 cs hx
     .cases he
    .cases he
  .cases hc
 case h_20 t x i ho=>
  split at hc
  .rename_i ht
   cases hc
   simp only [Ay] at he
   split at he
   .rename_i j b hi hx
    split at he
    .rename_i h0
     obtain ⟨c,Te,he⟩:=Ac.1 he
     cases he
     exact Cu0 ho ht hs hi h0 hx Te
    .cases he
   .cases he
  .cases hc
 case h_21 x i ho=>
  cases hc
  simp only [Ay] at he
  split at he
  .rename_i v hv
   cases he
   obtain ⟨ds,hx,hd⟩:=Br9 hv
   exact Cl4 ho hs hx hd
  .split at he
   .rename_i ds hx
    obtain ⟨d',hd,he⟩:=Ac.1 he
    cases he
    exact Cu3 ho hs hx hd
   .cases he
 case h_22 c ho=>
  split at hc
  .cases hc;simp [Ay] at he
  .cases hc;simp [Ay] at he
  .cases hc;simp [Ay] at he
  .rename_i Gs
   split at hc
   .rename_i x t Di ht
    split at hc
    .rename_i e hu
     cases hc
     have h1:=(Cb6 ho Gs Di ht hs).1 ⟨e,hu⟩
     simp only [Ay] at he
     split at he
     .rename_i cs n hx;cases he;exact h1.1 cs n hx
     .rename_i id off n es' hx;cases he;exact h1.2.1 id off n es' hx
     .rename_i n c' hx;cases he;exact h1.2.2 n c' hx
     .cases he
    .rename_i hu
     cases hc
     simp only [Ay] at he
     split at he
     .rename_i b hx;cases he;exact (Cb6 ho Gs Di ht hs).2 hu b hx
     .cases he
    .rename_i kt et hu
     cases hc
     have h1:=Cv6 ho Gs Di ht hu hs
     simp only [Ay] at he
     split at he
     .rename_i hx;cases he;exact h1.1 hx
     .rename_i id hx
      split at he
      .rename_i ck es hid;cases he;exact h1.2 id ck es hx hid
      .cases he
     .cases he
    .cases hc
   .cases hc
  .rename_i Gs
   split at hc
   .rename_i x y t t' Di Ys
    split at hc
    .rename_i I6
     subst I6
     split at hc
     .rename_i e ht
      obtain ⟨z,hz,hc⟩:=Az.1 hc
      split at hc
      .rename_i Rs
       cases hc
       simp only [Ay] at he
       split at he
       .rename_i Hv cs n news m hd rF
        split at he
        .rename_i h
         cases he
         exact Cv0 Rs.1 ho Gs Di Ys ht hz Rs.2 rfl rfl hs hn hd rF h.1 h.2.1 h.2.2.1 h.2.2.2
        .cases he
       .cases he
      .cases hc
     .cases hc
    .split at hc
     .rename_i e k' ht Xd
      obtain ⟨z,hz,hc⟩:=Az.1 hc
      split at hc
      .rename_i Rs
       cases hc
       simp only [Ay] at he
       split at he
       .rename_i k hd hk
        split at he
        .rename_i h
         cases he
         exact Cv1 Rs.1 ho Gs Di Ys ht Xd hz Rs.2 rfl rfl hs hn hd hk h.1 h.2.1 h.2.2.1 h.2.2.2
        .cases he
       .cases he
      .cases hc
     .cases hc
   .cases hc
  .rename_i Gs
   split at hc
   .rename_i x k t Di Ys
    obtain ⟨kd,Vk,rfl⟩:=Ac.1 hc
    unfold Zy at Vk
    split at Vk
    .rename_i kt et ht
     simp only [Ay] at he
     split at he
     .rename_i kv hk
      split at he
      .rename_i Jc
       split at he
       .rename_i id hx
        split at he
        .rename_i ck es hid
         split at he
         .rename_i p hf;cases he;exact (Cb9 ho Gs Di Ys ht Vk hs hk Jc hx hid hf).1 p rfl
         .rename_i hf;cases he;exact (Cb9 ho Gs Di Ys ht Vk hs hk Jc hx hid hf).2 rfl
         .cases he
        .cases he
       .cases he
      .cases he
     .cases he
    .cases Vk
   .cases hc
  .rename_i Gs
   split at hc
   .rename_i x t Di ht
    split at hc
    .rename_i e hu
     cases hc
     simp only [Ay] at he
     split at he
     .rename_i hx;cases he;exact Cu2 ho Gs Di ht hs hu hx
     .cases he
    .cases hc
   .cases hc
  .rename_i Gs
   split at hc
   .rename_i x y t Di Ys
    split at hc
    .rename_i e ht
     split at hc
     .rename_i tY
      cases hc
      simp only [Ay] at he
      split at he
      .rename_i id off n es' news m hx hy
       split at he
       .rename_i T cs hid
        split at he
        .rename_i h
         obtain ⟨rfl,h⟩:=h
         cases he
         exact Cw6 ho Gs Di Ys ht rfl tY hs hx hid hy h.1 h.2.1 h.2.2
        .cases he
       .cases he
      .cases he
     .cases hc
    .cases hc
   .cases hc
  .rename_i Gs
   split at hc
   .rename_i x y Di
    cases hc
    simp only [Ay] at he
    split at he
    .rename_i k p k' q hx hy;cases he;exact wK (mx:=false) ho Gs Di hs hx hy
    .cases he
   .cases hc
  .rename_i Gs
   split at hc
   .rename_i x y Di
    cases hc
    simp only [Ay] at he
    split at he
    .rename_i k p k' q hx hy;cases he;exact wK (mx:=true) ho Gs Di hs hx hy
    .cases he
   .cases hc
  .cases hc
 case h_23 t r ho=>
  split at hc
  .cases hc
   simp [Ay] at he
   obtain ⟨rfl,rfl⟩:=he
   exact Cv4 ho hs hn
  .cases hc
 case h_24 t x k ok ho=>
  split at hc
  .rename_i kt et ht
   split at hc
   .rename_i kd z Vk hz
    cases hc
    simp only [Ay] at he
    split at he
    .rename_i kv hk
     split at he
     .rename_i Jc
      have h1:=Cv5 ho ht Vk hz hs hk Jc
      split at he
      .rename_i hx;cases he;exact h1.1 hx
      .rename_i id hx
       split at he
       .rename_i ck es hid
        split at he
        .rename_i p hf;cases he;exact h1.2 id ck es _ hx hid hf
        .rename_i hf;cases he;exact h1.2 id ck es _ hx hid hf
        .cases he
       .cases he
      .cases he
     .cases he
    .cases he
   .cases hc
  .cases hc
 case h_25 t x k ho=>
  split at hc
  .rename_i kt et ht
   split at hc
   .rename_i kd z Vk hz
    cases hc
    simp only [Ay] at he
    split at he
    .rename_i kv hk
     split at he
     .rename_i Jc
      split at he
      .rename_i id hx
       split at he
       .rename_i ck es hid
        split at he
        .rename_i p hf;cases he;exact (Cc0 ho ht Vk hz hs hk Jc hx hid hf).1 p rfl
        .rename_i hf;cases he;exact (Cc0 ho ht Vk hz hs hk Jc hx hid hf).2 rfl
        .cases he
       .cases he
      .cases he
     .cases he
    .cases he
   .cases hc
  .cases hc
 case h_26 t x st y ho=>
  cases hc
  simp only [Ay] at he
  split at he
  .rename_i id n hx If
   split at he
   .rename_i ck es hid
    split at he
    .rename_i i hf;cases he;exact Cv8 ho hs hx If hid hf
    .cases he
   .cases he
  .cases he
 case h_27 t x ho=>
  split at hc
  .rename_i kt et ht
   cases hc
   simp only [Ay] at he
   split at he
   .rename_i hx;cases he;exact (Cc1 ho ht hs hn).1 hx
   .rename_i id hx
    split at he
    .rename_i ck es hid;cases he;exact (Cc1 ho ht hs hn).2 id ck es hx hid
    .cases he
   .cases he
  .rename_i ht
   cases hc
   simp only [Ay] at he
   split at he
   .rename_i b hx;cases he;exact Cw2 ho ht hs hn hx
   .cases he
  .cases hc
 case h_28 x isS ho=>
  split at hc
  .cases hc;simp [Ay] at he
  .rename_i hS
   have KS:isS=true:=by simpa using hS
   subst KS
   cases hc
   simp only [Ay] at he
   split at he
   .rename_i id hx
    split at he
    .rename_i t pos hid
     split at he
     .rename_i hp;cases he;exact (Cc3 (nid:=nid) ho hs hx hid).1 hp
     .rename_i hp;cases he;exact (Cc3 (nid:=nid) ho hs hx hid).2 hp
    .cases he
   .cases he
 case h_29 x ho=>cases hc;simp [Ay] at he
 case h_30 t x ho=>
  split at hc
  .cases hc
  .rename_i td cG ht
   cases hc
   simp [Ay] at he;obtain ⟨rfl,rfl⟩:=he
   exact Cw3 ho ht (λms e=>cG ms e) hs
  .cases hc
 case h_31 x xt t ok ho=>
  split at hc
  .cases hc
  .rename_i td cG ht
   split at hc
   .rename_i z hz
    cases hc
    have h1:=Cw4 ho ht (λms e=>cG ms e) hz hs
    simp only [Ay] at he
    split at he
    .rename_i T' d' hx
     split at he
     .rename_i hT;subst hT;cases he;exact h1.1 d' hx
     .rename_i hT
      split at he
      .rename_i Pq;cases he;exact (h1.2 Pq).1 T' d' hT hx
      .cases he
    .rename_i hx
     split at he
     .rename_i Pq;cases he;exact (h1.2 Pq).2 hx
     .cases he
    .cases he
   .cases hc
  .cases hc
 case h_32 t x k y ho=>
  obtain ⟨kd,Vk,rfl⟩:=Ac.1 hc
  exact IS t x k y kd (.inl ho) Vk rfl
 case h_33 t x k y ho=>
  obtain ⟨kd,Vk,rfl⟩:=Ac.1 hc
  exact IS t x k y kd (.inr ho) Vk rfl
 case h_34=>cases hc
end Go.DD

/- What a function's body starts from, and what holds at its end. -/
namespace Go.DD
open Go.RowKit (Below)
def Vy(C:Ctx)(Q:Exit->DS->Prop):Exit->Act->World->Prop:=λe a w=>∃ s,Q e s/\Holds C s a w
def Ctx.F(C:Ctx):Fence:={ Fence.wide with round:=C.rd }
theorem xd{C:Ctx}{f:FuncId}{args:Array Value}{w:World}{R:Ending->World->Prop}(h:Calls C.P f args w R):CallsIn C.F 0 C.P f args w R:=by
 have h1:CallsIn Fence.wide 0 C.P f args w R:=callsIn_wide.2 h
 cases hr:C.rd with
 | none=>
  have:C.F=Fence.wide:=by unfold Ctx.F;rw [hr];rfl
  rw [this];exact h1
 | some l=>
  have:C.F=Fence.wide.inRound l:=by unfold Ctx.F;rw [hr];rfl
  rw [this];exact CallsIn.inRound l h1
def DW(C:Ctx)(c:DC)(Q:Exit->DS->Prop)(s:DS):Prop:=
 ∀ code,Fa C.P C.nt code=some c->∀ a w,Holds C s a w->code.wpIn C.F 0 C.P (Vy C Q) a w
structure DF where
 code:DC
 res:List (Nat×Option (Option Nat))
 nt:Nat
 deriving Inhabited
def X0(P:Program):ResultVar->Option (Nat×Option (Option Nat))
 | .tmp t=>some (t,none)
 | .cell a T=>(Of P T).map λk=>(a,some k)
def Yo(P:Program)(fn:Func):Option DF:=
 match fn.body with
 | some b=>match Fa P fn.ntmps b,fn.results.toList.mapM (X0 P) with
  | some c,some r=>some { code:=c,res:=r,nt:=fn.ntmps }
  | _,_=>none
 | none=>none
def Zb(s:DS):Nat×Option (Option Nat)->Option DV
 | (t,none)=>some (s.ev (.tmp t))
 | (t,some k)=>match s.ev (.tmp t) with
  | .pt id off=>match s.ho id with
   | some (.row _ cs)=>Iu k (cs.drop off)
   | _=>none
  | _=>none
def bC(s:DS)(rs:List (Nat×Option (Option Nat))):Option DV:=
 match rs.mapM (Zb s) with
 | some [d]=>some d
 | some ds=>some (.tup ds)
 | none=>none
def Yn(ds:List DV)(t:Nat):DV:=(ds[t]?).getD .any
theorem Cc4{C:Ctx}{U:Nat->Prop}{V:Nat->Option DObj}{β:Nat->Option Nat}{w:World}{us:List Value}{cs:List DV}(hl:us.length=cs.length)
  (hr:∀ (j:Nat) (u:Value) (d:DV),us[j]?=some u->cs[j]?=some d->WV C U V β w u d):WV C U V β w (.tuple us.toArray) (.tup cs):=by
 refine ⟨λid hi=>?_,λha=>.tup us cs hl λj u d hu hd=>(hr j u d hu hd).2.1 λid hi=>ha id (by rw [DV.refs];exact DV.refsL_mem (Au hd) hi),TP.of_wv hl hr⟩
 rw [DV.refs] at hi
 obtain ⟨d,hd,hi⟩:=DV.mem_refsL hi
 obtain ⟨j,hj,rfl⟩:=Bq.1 hd
 exact (hr j us[j] _ (Aa (by omega)) (Aa hj)).1 id hi
section
variable {C:Ctx} {U:Nat->Prop} {s:DS} {β:Nat->Option Nat} {a:Act} {w:World}
theorem Bo6(hs:HoldsB C U s β a w){rv:ResultVar}{q:Nat×Option (Option Nat)}{d:DV}(hq:X0 C.P rv=some q)(hd:Zb s q=some d) :
  ∃ x,(match rv with
   | .tmp t=>(pure (a.tmps.getD t undef):Sem Value)
   | .cell p t=>do loadVar t (<- asAddr (a.tmps.getD p undef))).run C.P w=.ok x w/\WV C U (s.vw C) β w x d:=by
 cases rv with
 | tmp t=>
  simp [X0] at hq
  subst hq
  simp only [Zb,Ed] at hd
  subst hd
  exact ⟨_,rfl,hs.evw (.tmp t)⟩
 | cell p T=>
  obtain ⟨k,hk,rfl⟩:=Ac.1 hq
  simp only [Zb] at hd
  split at hd
  .rename_i id off hp
   split at hd
   .rename_i T' cs Ig
    have h1:Rel C.P w (Tf C w β) β (a.tmps.getD p undef) (s.ev (.tmp p)):=hs.ev (.tmp p)
    rw [hp] at h1
    obtain ⟨b,e1,hb⟩:=jR h1
    obtain ⟨c,hw,hl,_,hr⟩:=hs.row hb Ig
    obtain ⟨g1,g2⟩:=vz hk ⟨b,off,none⟩ (c.toList.drop off) (X8 hw)
    obtain ⟨p1,p2⟩:=SY (C:=C) (U:=U) (V:=s.vw C) (w:=w) (β:=β) (us:=c.toList.drop off) (cs:=cs.drop off) (by simp;omega)
     (λj u hu hj=>by
      have Tx:off+j<cs.length:=by simp at hj;omega
      exact (hr (off+j) u _ (by simpa using hu) (Aa Tx)).2)
     (λj u d hu hd=>(hr (off+j) u d (by simpa using hu) (by simpa using hd)).1) hd
    cases k with
    | none=>
     obtain ⟨u,hu,Ce⟩:=p1 rfl
     exact ⟨u,by simp only [Sem.run_bind,e1,asAddr,Sem.run_pure,Result.andThen_ok];exact g1 rfl u hu,Ce⟩
    | some n=>
     obtain ⟨hn,Ce⟩:=p2 n rfl
     exact ⟨_,by simp only [Sem.run_bind,e1,asAddr,Sem.run_pure,Result.andThen_ok];exact g2 n rfl hn,Ce⟩
   .cases hd
  .cases hd
theorem Bh5(hs:HoldsB C U s β a w):∀ (OT:List ResultVar) (qs:List (Nat×Option (Option Nat))) (ds:List DV),OT.mapM (X0 C.P)=some qs->qs.mapM (Zb s)=some ds->
  ∃ vs:List Value,(OT.mapM λ(rv:ResultVar)=>(match rv with
   | .tmp t=>(pure (a.tmps.getD t undef):Sem Value)
   | .cell p t=>do loadVar t (<- asAddr (a.tmps.getD p undef)))).run C.P w=.ok vs w/\vs.length=ds.length/\∀ (j:Nat) (v:Value) (d:DV),vs[j]?=some v->ds[j]?=some d->WV C U (s.vw C) β w v d
 | [],qs,ds,h1,h2=>by
  simp at h1;subst h1;simp at h2;subst h2
  exact ⟨[],by simp,rfl,by simp⟩
 | rv::OT,qs,ds,h1,h2=>by
  simp only [Gx,Gc,Az,Hf] at h1
  obtain ⟨q,hq,qt,hqt,h1⟩:=h1
  cases h1
  simp only [Gx,Gc,Az,Hf] at h2
  obtain ⟨d,hd,dt,jj,h2⟩:=h2
  cases h2
  obtain ⟨x,hx,Ce⟩:=Bo6 hs hq hd
  obtain ⟨vs,mA,hl,hr⟩:=Bh5 hs OT qt dt hqt jj
  refine ⟨x::vs,?_,by simp [hl],λj v e hv he=>?_⟩
  .simp only [Gx,Sem.run_bind,hx,Result.andThen_ok,mA,Sem.run_pure]
  .cases j with
   | zero=>simp at hv he;subst hv he;exact Ce
   | succ j=>exact hr j v e (by simpa using hv) (by simpa using he)
theorem Bd4(hs:HoldsB C U s β a w){fn:Func}{qs:List (Nat×Option (Option Nat))}{d:DV}(hq:fn.results.toList.mapM (X0 C.P)=some qs)(hd:bC s qs=some d) :
  ∃ x,(results fn a.tmps).run C.P w=.ok x w/\WV C U (s.vw C) β w x d:=by
 unfold bC at hd
 cases hm:qs.mapM (Zb s) with
 | none=>rw [hm] at hd;cases hd
 | some ds=>
  rw [hm] at hd
  obtain ⟨vs,mA,hl,hr⟩:=Bh5 hs fn.results.toList qs ds hq hm
  have Fo:(results fn a.tmps).run C.P w=.ok (if h:vs.toArray.size=1 then vs.toArray[0] else .tuple vs.toArray) w:=by
   unfold results
   rw [Array.mapM_eq_mapM_toList]
   simp only [Sem.run_bind,Sem.run_map]
   erw [mA]
   simp only [Result.andThen_ok,Sem.run_pure]
  refine ⟨_,Fo,?_⟩
  clear hm mA Fo
  match ds,hl,hd,hr with
  | [e],hl,hd,hr=>
   simp at hd
   subst hd
   match vs,hl with
   | [v],_=>exact hr 0 v e rfl rfl
  | [],hl,hd,hr=>
   simp at hd;subst hd
   rw [dif_neg (by simp at hl;simp [hl])]
   exact Cc4 hl hr
  | e::e'::es,hl,hd,hr=>
   simp at hd;subst hd
   rw [dif_neg (by simp;simp at hl;omega)]
   exact Cc4 hl hr
theorem HoldsB.shut{tmps:Array Value}{d:Deferred}{l:List Deferred}{D:Nat}(hs:HoldsB C U s β ⟨tmps,d::l⟩ w)(hd:d = { target:=.collected D,args:=#[] })
  (hD:w.heap[D]?=some (.deferred (some []))) (h0:C.w0.heap.size<=D) (hn:∀ id,β id≠some D):HoldsB C U s β ⟨tmps,l⟩ (w.putObj D (.deferred none)):=by
 have aSk:D<w.heap.size:=(Bt.1 hD).1
 have oO:∀ b,b≠D->(w.putObj D (.deferred none)).heap[b]?=w.heap[b]?:=λb hb=>World.putObj_heap_other hb
 have Om:∀ (b:Nat),(∃ c T r,w.heap[b]?=some (Obj.cells c T r))->(w.putObj D (.deferred none)).heap[b]?=w.heap[b]?:=λb ⟨c,T,r,hc⟩=>oO b (λe=>by rw [e,hD] at hc;cases hc)
 have Xz:∀ id b,β id=some b->(w.putObj D (.deferred none)).heap[b]?=w.heap[b]?:=λid b hb=>oO b (λe=>hn id (e ▸ hb))
 have Ce:∀ x d,WV C U (s.vw C) β w x d->WV C U (s.vw C) β (w.putObj D (.deferred none)) x d:=λx d ⟨g1,g2,g3⟩=>
  ⟨g1,λha=>(g2 ha).mono (λb ⟨h1,h2,h3⟩=>⟨⟨h1,by simpa using h2,h3⟩,Om b⟩) λid _ b hb=>⟨hb,SameShape.of_eq (Xz id b hb)⟩,g3⟩
 have pI:=hs.hh.bel
 have Vg:d∉l.filter OG/\(l.filter OG).Nodup:=by
  have:=hs.df.nodup
  rw [Wi (by rw [hd];rfl)] at this
  exact Jy.1 this
 refine ⟨⟨hs.hh.ok,⟨pI.os,pI.tape,pI.output,by simpa using pI.size,λk Cv Et=>(oO k (by omega)).trans (pI.block k Cv Et)⟩,λid b hb=>⟨(hs.hh.bge id b hb).1,by simpa using hs.hh.lt hb⟩,hs.hh.inj,hs.hh.fr,λid o ho=>?_⟩,
  ⟨Vg.2,λd' hd'=>?_,λD' rL=>?_,λD' rL=>hs.df.apart D' (by simp [rL])⟩,hs.sz,λt=>Ce _ _ (hs.sl t),λx d hx=>Ce _ _ (hs.gh x d hx),hs.yd⟩
 .exact (hs.hh.hp id o ho).keep rfl (Xz id) Ce
 .rcases hs.df.own d' (by simp [hd']) with ⟨D',e,h1,h2,h3⟩ | hq
  .refine .inl ⟨D',e,(oO D' λhe=>?_).trans h1,h2,h3⟩
   subst he
   exact Vg.1 (Ey.2 ⟨by rw [hd,<- e];exact hd',by rw [hd];rfl⟩)
  .exact .inr hq
 .obtain ⟨D2,e,h1,h2,h3⟩:=hs.df.out D' rL
  refine ⟨D2,e,(oO D2 λhe=>?_).trans h1,h2,h3⟩
  subst he
  simp only [Deferred.mk.injEq,Target.collected.injEq,and_true] at e
  subst e
  exact hs.df.apart D' (by rw [hd];simp) rL
theorem UH{fn:Func}{qs:List (Nat×Option (Option Nat))}{d:DV}{R:Ending->World->Prop}(hq:fn.results.toList.mapM (X0 C.P)=some qs)(hd:bC s qs=some d)(tmps:Array Value)
  (hR:∀ v w',HoldsB C U s β ⟨tmps,[]⟩ w'->WV C U (s.vw C) β w' v d->R (.returned v) w'):∀ (l:List Deferred) (w:World),HoldsB C U s β ⟨tmps,l⟩ w->LeavesInM Fence.wide 0 C.P fn tmps R l .returning w
 | [],w,hs=>by
  obtain ⟨x,hx,hr⟩:=Bd4 hs hq hd
  exact ⟨x,hx,hR x w hs hr⟩
 | d'::l,w,hs=>by
  rcases hs.df.own d' (by simp) with ⟨D,e,h1,h2,h3⟩ | ⟨g,Lv,hqf,rfl⟩
  .exact ⟨by simp,.inl ⟨D,_,by rw [e],run_takeDeferred h1,UH hq hd tmps hR l _ (hs.shut e h1 h2 h3)⟩⟩
  .obtain ⟨k1,k2⟩:=B36 hqf Lv w
   refine ⟨by simp,.inr ⟨λh=>by simp [Fence.wide] at h,.func g,Lv,g,Lv,rfl,k1,λ_ _=>trivial,k2.mono ?_⟩⟩
   rintro e u' w' ⟨rfl,⟨v,rfl⟩,rfl⟩
   exact UH hq hd tmps hR l _ ⟨hs.hh,hs.df.tail rfl,hs.sz,hs.sl,hs.gh,hs.yd⟩
theorem A82{ho:Nat->Option DObj}{nx:Nat}{args:List DV}{vs:List Value}
  (hh:HH C U (Lm C.Y ho) β w) (hX:∀ x d,C.X x d\/MQ x d->WV C U (Lm C.Y ho) β w x d) (hy:∀ id o,C.Y id=some o->ho id=none) (hM:∀ D,C.M D->Mark C β w { target:=.collected D,args:=#[] }) (hn:args.length<=C.nt) (hl:vs.length=args.length)
  (Ce:∀ (j:Nat) (v:Value) (d:DV),vs[j]?=some v->args[j]?=some d->WV C U (Lm C.Y ho) β w v d) :
  HoldsB C U ⟨Yn args,ho,nx⟩ β { tmps:=vs.toArray++Array.replicate (C.nt-vs.toArray.size) undef,defers:=[] } w:=by
 refine ⟨hh,⟨List.nodup_nil,(λd hd=>by cases hd),hM,(λD hd=>by cases hd)⟩,by simp;omega,λt=>?_,hX,hy⟩
 simp only [Yn]
 cases hd:args[t]? with
 | none=>exact WV.any
 | some d=>
  have rD:t<vs.length:=by have:=(As.1 hd).1;omega
  have hv:(vs.toArray++Array.replicate (C.nt-vs.toArray.size) undef).getD t undef=vs[t]:=by
   simp [Yx,rD]
  rw [hv]
  simp only [Hu]
  exact Ce t vs[t] d (Aa rD) hd
end
end Go.DD

/- Calls: where they stand, in the caller's own memory; or by contract, on immutable arguments. -/
namespace Go.DD
open Go.RowKit (Below)
theorem vj{cs:List DV}(h:DV.refsL cs=[]){d:DV}(hd:d∈cs):d.refs=[]:=by
 cases hr:d.refs with
 | nil=>rfl
 | cons i l=>have:=DV.refsL_mem hd (id:=i) (by rw [hr];simp);rw [h] at this;cases this
theorem UG{P:Program}{w:World}{al:Nat->Prop}{β:Nat->Option Nat}{x:Value}{d:DV}(h:Rel P w al β x d)(hd:d.refs=[]):RelI w al x d:=by
 induction h with
 | imm x d h=>exact h
 | agg vs cs hl ho _ ih=>exact .agg vs cs hl ho λj u d hu he=>ih j u d hu he (vj (by simpa [DV.refs] using hd) (Au he))
 | tup vs cs hl _ ih=>exact .tup vs cs hl λj u d hu he=>ih j u d hu he (vj (by simpa [DV.refs] using hd) (Au he))
 | fn f us vs cs hl _ ih=>exact .fn f us vs cs hl λj u d hu he=>ih j u d hu he (vj (by simpa [DV.refs] using hd) (Au he))
 | ifc T u d _ ih=>exact .ifc T u d (ih (by simpa [DV.refs] using hd))
 | ms0 id es=>simp [DV.refs] at hd
 | ms id off n es b cap c T hβ hw hn hm Pf=>simp [DV.refs] at hd
 | pt id off b hβ=>simp [DV.refs] at hd
 | mp id b hβ=>simp [DV.refs] at hd
 | yl id b hβ=>simp [DV.refs] at hd
inductive Plain:DV->Prop
 | any:Plain .any
 | v (x:Value):Plain (.v x)
 | agg (cs:List DV) (h:∀ d∈cs,Plain d):Plain (.agg cs)
 | tup (cs:List DV) (h:∀ d∈cs,Plain d):Plain (.tup cs)
theorem Bo7{w w':World}{al rO:Nat->Prop}{x:Value}{d:DV}(h:RelI w al x d)(hp:Plain d):RelI w' rO x d:=by
 induction h with
 | any x=>exact .any x
 | v x=>exact .v x
 | agg vs cs hl ho _ ih=>cases hp with | agg _ hp=>exact .agg vs cs hl ho λj u d hu hd=>ih j u d hu hd (hp d (Au hd))
 | tup vs cs hl _ ih=>cases hp with | tup _ hp=>exact .tup vs cs hl λj u d hu hd=>ih j u d hu hd (hp d (Au hd))
 | sl0 a cap=>cases hp
 | sl ad n cap us cs hl hn ha ho hc _ ih=>cases hp
 | ia ad us cs hl ha ho hc _ ih=>cases hp
 | fn f us vs cs hl _ ih=>cases hp
 | ifc T u d _ ih=>cases hp
def DV.flat:DV->Bool
 | .any=>true
 | .v _=>true
 | .sl _ _=>true
 | .ia _=>true
 | _=>false
theorem TF{d:DV}(h:d.flat=true):d.refs=[]:=by
 cases d <;> first | rfl | (simp [DV.flat] at h)
def qX(f:DV->Option DV)(cs:List DV):Option (List DV):=if cs.all DV.flat then some cs else cs.mapM f
def rz(ho:Nat->Option DObj):Nat->DV->Option DV
 | 0,d=>if d.flat then some d else none
 | k+1,d=>match d with
  | .agg cs=>(qX (rz ho k) cs).map .agg
  | .tup cs=>(qX (rz ho k) cs).map .tup
  | .fn f cs=>(qX (rz ho k) cs).map (.fn f)
  | .ifc T d=>(rz ho k d).map (.ifc T)
  | .ms id off n es=>match ho id with
   | some (.row _ cs)=>if off+n*es<=cs.length then (qX (rz ho k) ((cs.drop off).take (n*es))).map λl=>.sl l n else none
   | _=>none
  | .pt id off=>match ho id with
   | some (.row _ cs)=>(qX (rz ho k) (cs.drop off)).map .ia
   | _=>none
  | .mp _=>none
  | .yl _=>none
  | d=>some d
theorem SX{f:DV->Option DV}{cs l:List DV}(h:qX f cs=some l):l.length=cs.length/\∀ (j:Nat) (c d:DV),cs[j]?=some c->l[j]?=some d->(c.flat=true/\d=c)\/f c=some d:=by
 unfold qX at h
 split at h
 .rename_i Ka
  cases h
  refine ⟨rfl,λj c d hc hd=>.inl ?_⟩
  rw [hc] at hd
  cases hd
  exact ⟨Bi.1 Ka c (Au hc),rfl⟩
 .obtain ⟨h1,h2⟩:=mapM_some h
  exact ⟨h1,λj c d hc hd=>.inr (h2 j c d hc hd)⟩
theorem B45{ho:Nat->Option DObj} : ∀ (k:Nat) (d d':DV),rz ho k d=some d'->∀ id∈d.refs,(ho id).isSome=true:=by
 intro k
 induction k with
 | zero=>
  intro d d' h id hi
  simp only [rz] at h
  split at h
  .rename_i hf;rw [TF hf] at hi;cases hi
  .cases h
 | succ k ih=>
  intro d d' h id hi
  have Tw:∀ cs l,qX (rz ho k) cs=some l->∀ id∈DV.refsL cs,(ho id).isSome=true:=by
   intro cs l hz id hi
   obtain ⟨c,hc,hi⟩:=DV.mem_refsL hi
   obtain ⟨j,hj,rfl⟩:=Bq.1 hc
   obtain ⟨h1,h2⟩:=SX hz
   rcases h2 j cs[j] (l[j]'(by omega)) (Aa hj) (Aa (by omega)) with ⟨hf,_⟩ | hr
   .rw [TF hf] at hi;cases hi
   .exact ih _ _ hr id hi
  cases d with
  | agg cs=>obtain ⟨l,hz,_⟩:=Ac.1 h;exact Tw cs l hz id (by simpa [DV.refs] using hi)
  | tup cs=>obtain ⟨l,hz,_⟩:=Ac.1 h;exact Tw cs l hz id (by simpa [DV.refs] using hi)
  | fn f cs=>obtain ⟨l,hz,_⟩:=Ac.1 h;exact Tw cs l hz id (by simpa [DV.refs] using hi)
  | ifc T d=>obtain ⟨e,hz,_⟩:=Ac.1 h;exact ih _ _ hz id (by simpa [DV.refs] using hi)
  | ms bG off n es=>
   simp only [rz] at h
   obtain rfl:id=bG:=by simpa [DV.refs] using hi
   split at h
   .rename_i Ig;rw [Ig];rfl
   .cases h
  | pt bG off=>
   simp only [rz] at h
   obtain rfl:id=bG:=by simpa [DV.refs] using hi
   split at h
   .rename_i Ig;rw [Ig];rfl
   .cases h
  | mp id=>simp [rz] at h
  | yl id=>simp [rz] at h
  | any=>simp [DV.refs] at hi
  | v x=>simp [DV.refs] at hi
  | sl cs n=>simp [DV.refs] at hi
  | ia cs=>simp [DV.refs] at hi
def frz(C:Ctx)(w:World)(b:Nat):Prop:=(C.S b\/C.w0.heap.size<=b\/C.G b)/\b<w.heap.size
section
variable {C:Ctx} {U:Nat->Prop} {V ho:Nat->Option DObj} {β:Nat->Option Nat} {w:World}
theorem Cc5(hh:HH C U V β w)(hV:∀ id o,ho id=some o->V id=some o)(A I:Nat->Prop)(hA:∀ b,Tf C w β b->A b)(hI:∀ id b,I id->(ho id).isSome=true->β id=some b->A b)
  (Vn:∀ id T cs,I id->ho id=some (.row T cs)->∀ j∈DV.refsL cs,I j):∀ (k:Nat) (x:Value) (d d':DV),(∀ id∈d.refs,I id)->WV C U V β w x d->rz ho k d=some d'->RelI w A x d':=by
 have eK:∀ (x:Value) (d:DV),d.flat=true->WV C U V β w x d->RelI w A x d:=λx d hf hr=>
  (UG (hr.2.1 λid hi=>by rw [TF hf] at hi;cases hi) (TF hf)).mono λb hb=>⟨hA b hb,rfl⟩
 intro k
 induction k with
 | zero=>
  intro x d d' _ hr h
  simp only [rz] at h
  split at h
  .cases h;exact eK x d (by assumption) hr
  .cases h
 | succ k ih=>
  have Ka:∀ (x:Value) (c d:DV),(∀ id∈c.refs,I id)->WV C U V β w x c->((c.flat=true/\d=c)\/rz ho k c=some d)->RelI w A x d:=by
   intro x c d hc hr h
   rcases h with ⟨h1,rfl⟩ | h
   .exact eK x d h1 hr
   .exact ih x c d hc hr h
  intro x d d' hid hw h
  have Rj:=B45 _ _ _ h
  have hr:Rel C.P w (Tf C w β) β x d:=hw.2.1 λid hi=>by
   obtain ⟨o,Ox⟩:=Du.1 (Rj id hi)
   rw [hV id o Ox];rfl
  have iV:∀ {u:Value} {e:DV},Rel C.P w (Tf C w β) β u e->(∀ id∈e.refs,id∈d.refs)->WV C U V β w u e:=λhr he=>
   hh.wv hr λid hi=>by
    obtain ⟨o,Ox⟩:=Du.1 (Rj id (he id hi))
    rw [hV id o Ox];rfl
  have Tw:∀ (us:List Value) (cs l:List DV),(∀ c∈cs,∀ id∈c.refs,I id)->us.length=cs.length->(∀ (j:Nat) (u:Value) (d:DV),us[j]?=some u->cs[j]?=some d->WV C U V β w u d)->qX (rz ho k) cs=some l->
    us.length=l.length/\∀ (j:Nat) (u:Value) (d:DV),us[j]?=some u->l[j]?=some d->RelI w A u d:=by
   intro us cs l hci hl Ce hz
   obtain ⟨h1,h2⟩:=SX hz
   refine ⟨by omega,λj u d hu hd=>?_⟩
   have hj:j<cs.length:=by have:=(As.1 hd).1;omega
   exact Ka u cs[j] d (hci _ (Bh hj)) (Ce j u _ hu (Aa hj)) (h2 j _ d (Aa hj) hd)
  cases d with
  | agg cs=>
   simp only [rz] at h
   obtain ⟨l,hz,rfl⟩:=Ac.1 h
   obtain ⟨vs,rfl,hl,h1,h2⟩:=X1 hr
   obtain ⟨h3,h4⟩:=Tw vs cs l (λc hc id hi=>hid id (by simp only [DV.refs];exact DV.refsL_mem hc hi)) hl (λj u d hu hd=>iV (h2 j u d hu hd) λid hi=>by simp only [DV.refs];exact DV.refsL_mem (Au hd) hi) hz
   exact .agg vs l h3 h1 h4
  | tup cs=>
   simp only [rz] at h
   obtain ⟨l,hz,rfl⟩:=Ac.1 h
   obtain ⟨vs,rfl,hl,h2⟩:=uk hr
   obtain ⟨h3,h4⟩:=Tw vs cs l (λc hc id hi=>hid id (by simp only [DV.refs];exact DV.refsL_mem hc hi)) hl (λj u d hu hd=>iV (h2 j u d hu hd) λid hi=>by simp only [DV.refs];exact DV.refsL_mem (Au hd) hi) hz
   exact .tup vs l h3 h4
  | fn f cs=>
   simp only [rz] at h
   obtain ⟨l,hz,rfl⟩:=Ac.1 h
   obtain ⟨us,vs,rfl,hl,h2⟩:=OE hr
   obtain ⟨h3,h4⟩:=Tw (Value.tuple us.toArray::vs) cs l (λc hc id hi=>hid id (by simp only [DV.refs];exact DV.refsL_mem hc hi)) hl (λj u d hu hd=>iV (h2 j u d hu hd) λid hi=>by simp only [DV.refs];exact DV.refsL_mem (Au hd) hi) hz
   exact .fn f us vs l h3 h4
  | ifc T d=>
   simp only [rz] at h
   obtain ⟨e,hz,rfl⟩:=Ac.1 h
   obtain ⟨u,rfl,h2⟩:=C5 hr
   exact .ifc T u e (ih u d e (λid hi=>hid id (by simpa [DV.refs] using hi)) (iV h2 λid hi=>by simpa [DV.refs] using hi) hz)
  | ms id off n es=>
   simp only [rz] at h
   split at h
   .rename_i T cs Ig
    split at h
    .rename_i Qp
     obtain ⟨l,hz,rfl⟩:=Ac.1 h
     rcases mR hr with ⟨rfl,rfl,rfl⟩ | ⟨b,cap,c,T',rfl,hb,hw,hn,hm,Pf⟩
     .have:l=[]:=by
       have:=(SX hz).1
       simpa using this
      subst this
      exact .sl0 _ _
     .rcases hh.hp id _ (hV _ _ Ig) with ⟨h1,_⟩ | ⟨b',c',Ht,Kz,hl,_,Ce⟩
      .rw [hb] at h1;cases h1
      .rw [hb] at Ht;cases Ht
       rw [hw] at Kz
       injection Kz with Kz
       injection Kz with Te _
       subst Te
       have pR:=hid id (by simp [DV.refs])
       obtain ⟨h3,h4⟩:=Tw ((c.toList.drop off).take (n*es)) _ l (λe he i hi=>Vn id _ _ pR Ig i (DV.refsL_mem (Df (Gv he)) hi)) (by simp;omega) (λj u d hu hd=>by
        rw [Bz] at hu hd
        split at hu
        .rename_i hj
         rw [Af hj] at hd
         exact (Ce (off+j) u d (by simpa using hu) (by simpa using hd)).1
        .cases hu) hz
       refine .sl _ n cap ((c.toList.drop off).take (n*es)) l h3 hn (hI id b pR (by rw [Ig];rfl) hb) (λu hu=>?_) (λj u hu=>?_) h4
       .obtain ⟨j,hj,rfl⟩:=Bq.1 hu
        have Wu:off+j<cs.length:=by simp at hj;omega
        refine (Ce (off+j) _ cs[off+j] ?_ (Aa Wu)).2
        rw [Er,Kn]
        simp
       .rw [Bz] at hu
        split at hu
        .exact X8 hw j u hu
        .cases hu
    .cases h
   .cases h
  | pt id off=>
   simp only [rz] at h
   split at h
   .rename_i T cs Ig
    obtain ⟨l,hz,rfl⟩:=Ac.1 h
    obtain ⟨b,rfl,hb⟩:=jR hr
    rcases hh.hp id _ (hV _ _ Ig) with ⟨h1,_⟩ | ⟨b',c,Ht,hw,hl,_,Ce⟩
    .rw [hb] at h1;cases h1
    .rw [hb] at Ht;cases Ht
     have pR:=hid id (by simp [DV.refs])
     obtain ⟨h3,h4⟩:=Tw ((c.toList.drop off).take (cs.length-off)) (cs.drop off) l (λe he i hi=>Vn id _ _ pR Ig i (DV.refsL_mem (Df he) hi)) (by simp;omega) (λj u d hu hd=>by
      rw [Bz] at hu
      split at hu
      .exact (Ce (off+j) u d (by simpa using hu) (by simpa using hd)).1
      .cases hu) hz
     refine .ia _ ((c.toList.drop off).take (cs.length-off)) l h3 (hI id b pR (by rw [Ig];rfl) hb) (λu hu=>?_) (λj u hu=>?_) h4
     .obtain ⟨j,hj,rfl⟩:=Bq.1 hu
      have Wu:off+j<cs.length:=by simp at hj;omega
      refine (Ce (off+j) _ cs[off+j] ?_ (Aa Wu)).2
      rw [Er,Kn]
      simp
     .rw [Bz] at hu
      split at hu
      .exact X8 hw j u hu
      .cases hu
   .cases h
  | mp id=>simp [rz] at h
  | yl id=>simp [rz] at h
  | any=>simp [rz] at h;subst h;exact .any x
  | v y=>simp [rz] at h;subst h;exact eK _ _ rfl hw
  | sl cs n=>simp [rz] at h;subst h;exact eK _ _ rfl hw
  | ia cs=>simp [rz] at h;subst h;exact eK _ _ rfl hw
theorem vS(hh:HH C U V β w)(hV:∀ id o,ho id=some o->V id=some o)(k:Nat)(x:Value)(d d':DV)(hr:WV C U V β w x d)(h:rz ho k d=some d'):RelI w (frz C w) x d':=
 Cc5 hh hV (frz C w) (λ_=>True) (λ_ hb=>⟨hb.1,hb.2.1⟩) (λid b _ _ hb=>⟨.inr (hh.bge id b hb).1,(hh.bge id b hb).2⟩) (λ_ _ _ _ _ _ _=>trivial) k x d d' (λ_ _=>trivial) hr h
end
def DCall(P:Program)(f:FuncId)(args:List DV)(R:DV->Prop):Prop:=
 ∀ (w:World) (S:Nat->Prop) (vs:List Value),(∀ b,S b->b<w.heap.size)->vs.length=args.length->(∀ (j:Nat) (v:Value) (d:DV),vs[j]?=some v->args[j]?=some d->RelI w S v d)->(∀ x d,MQ x d->RelI w S x d)->
  Calls P f vs.toArray w λe w'=>∃ v r,e=.returned v/\R r/\Below w.heap.size w w'/\RelI w' (λb=>(S b\/w.heap.size<=b)/\b<w'.heap.size) v r
theorem DCall.mono{P:Program}{f:FuncId}{args:List DV}{R R':DV->Prop}(h:DCall P f args R)(hr:∀ d,R d->R' d):DCall P f args R':=
 λw S vs h1 h2 h3 hg=>(h w S vs h1 h2 h3 hg).mono λ_ _ ⟨v,r,h4,h5,h6⟩=>⟨v,r,h4,hr r h5,h6⟩
def Uc(P:Program)(f:FuncId)(ds:List DV)(s:DS)(K:DS->DV->Prop):Prop:=
 ∃ fn df,P.funcs[f]?=some fn/\Yo P fn=some df/\ds.length<=df.nt/\∀ (S G:Nat->Prop) (w0:World) (X:Value->DV->Prop) (M:Nat->Prop) (Y:Nat->Option DObj) (R:Nat->Prop),
  DW ⟨P,S,G,w0,df.nt,X,M,none,Y,R⟩ df.code (λe s'=>(e=.normal\/e=.ret)/\∃ d,bC s' df.res=some d/\K ⟨s.sv,s'.ho,s'.nx⟩ d) ⟨Yn ds,s.ho,s.nx⟩
def Ctx.inner(C:Ctx)(U:Nat->Prop)(V:Nat->Option DObj)(β:Nat->Option Nat)(l:List Deferred)(w:World)(nt:Nat)(rd:Option Nat)(hid:Nat->Option DObj)(R:Nat->Prop):Ctx:=
 ⟨C.P,C.S,C.G,C.w0,nt,λx d=>WV C U V β w x d,λD=>C.M D\/({ target:=.collected D,args:=#[] } : Deferred)∈l,rd,Lm C.Y hid,R⟩
theorem HH.ctx{C C':Ctx}{U:Nat->Prop}{V:Nat->Option DObj}{β:Nat->Option Nat}{w:World}(hP:C'.P=C.P)(hS:C'.S=C.S)(hG:C'.G=C.G)(h0:C'.w0=C.w0)(h:HH C U V β w) :
  HH C' U V β w/\∀ x d,WV C' U V β w x d↔WV C U V β w x d:=by
 obtain ⟨P,S,G,w0,nt,X,M,rd,Y,R⟩:=C
 obtain ⟨P',S',G',xy,nt',X',M',rd',Y',R'⟩:=C'
 simp only at hP hS hG h0
 subst hP hS hG h0
 have hw:∀ x d,WV ⟨P',S',G',xy,nt',X',M',rd',Y',R'⟩ U V β w x d↔WV ⟨P',S',G',xy,nt,X,M,rd,Y,R⟩ U V β w x d:=λx d=>Da
 refine ⟨⟨h.ok,⟨h.bel.os,h.bel.tape,h.bel.output,h.bel.size,h.bel.block⟩,h.bge,h.inj,h.fr,λid o ho=>?_⟩,hw⟩
 have h1:=h.hp id o ho
 cases o <;> exact h1
theorem Bs8(Y hid ho:Nat->Option DObj):Lm (Lm Y hid) ho=Lm Y (Lm hid ho):=by
 funext id
 unfold Lm
 cases ho id <;> rfl
section
variable {C:Ctx} {U:Nat->Prop} {s:DS} {β:Nat->Option Nat} {a:Act} {w:World}
theorem Bh6{f:FuncId}{ds:List DV}{vs:List Value}{vis hid:Nat->Option DObj}{R:Nat->Prop}{K:DS->DV->Prop}(hs:HoldsB C U s β a w)(hU:∀ id,U id↔id<s.nx/\¬ R id)(hR:∀ id,R id->id<s.nx)
  (Xy:s.ho=Lm hid vis) (M9:∀ id o,hid id=some o->vis id=none) (hl:vs.length=ds.length)
  (hr:∀ (j:Nat) (v:Value) (d:DV),vs[j]?=some v->ds[j]?=some d->WV C U (s.vw C) β w v d) (hk:Uc C.P f ds ⟨s.sv,vis,s.nx⟩ K) :
  Calls C.P f vs.toArray w λe w'=>∃ v d Ox Bk β',e=.returned v/\K ⟨s.sv,Ox,Bk⟩ d/\(∀ id o,hid id=some o->Ox id=none)/\(∀ id,R id->id<Bk)/\
   HoldsB C (λid=>id<Bk/\¬ R id) ⟨s.sv,Lm hid Ox,Bk⟩ β' a w'/\WV C (λid=>id<Bk/\¬ R id) ((⟨s.sv,Lm hid Ox,Bk⟩:DS).vw C) β' w' v d:=by
 obtain ⟨fn,df,hf,hc,hn,h⟩:=hk
 have hUe:U=λid=>id<s.nx/\¬ R id:=funext λid=>propext (hU id)
 unfold Yo at hc
 split at hc
 rotate_left
 .cases hc
 rename_i body hb
 split at hc
 rotate_left
 .cases hc
 rename_i c r Te gU
 cases hc
 refine callsIn_wide.1 (callsIn_of_wp_marks (n:=0) hf hb trivial ?_)
 obtain ⟨C',Mb⟩:∃ C',C'=C.inner U (s.vw C) β a.defers w fn.ntmps none hid R:=⟨_,rfl⟩
 have hP:C'.P=C.P:=by rw [Mb];rfl
 have dS:∀ Ox,Lm C'.Y Ox=Lm C.Y (Lm hid Ox):=λOx=>by rw [Mb];exact Bs8 _ _ _
 have T1:Lm C'.Y vis=s.vw C:=by rw [dS,<- Xy];rfl
 obtain ⟨hh1,lZ⟩:=HH.ctx (C':=C') (by rw [Mb];rfl) (by rw [Mb];rfl) (by rw [Mb];rfl) (by rw [Mb];rfl) hs.hh
 have hYs:∀ id o,C'.Y id=some o->vis id=none:=λid o hy=>by
  rw [Mb] at hy
  simp only [Ctx.inner,Lm] at hy
  split at hy
  .rename_i o' Ox;exact M9 id o' Ox
  .have h1:=hs.yd id o hy
   rw [Xy] at h1
   simp only [Lm] at h1
   split at h1
   .cases h1
   .assumption
 have hMk:∀ D,C'.M D->Mark C β w { target:=.collected D,args:=#[] }:=λD hD=>by
  rw [Mb] at hD
  exact hD.elim (hs.df.out D) hs.df.ownC
 have M8:HoldsB C' (Us C' s.nx) ⟨Yn ds,vis,s.nx⟩ β { tmps:=vs.toArray++Array.replicate (C'.nt-vs.toArray.size) undef,defers:=[] } w:=by
  have e1:Us C' s.nx=U:=by rw [hUe,Mb];rfl
  rw [e1]
  refine A82 (nx:=s.nx) (ho:=vis) (by rw [T1];exact hh1) (λx d hx=>?_) hYs (λD hD=>?_) (by rw [Mb];exact hn) hl (λj v d hv hd=>by rw [T1];exact (lZ _ _).2 (hr j v d hv hd))
  .rw [T1]
   rw [Mb] at hx
   rcases hx with hx | hx
   .exact (lZ _ _).2 hx
   .exact (lZ _ _).2 (hs.gh x d (.inr hx))
  .obtain ⟨D',g1,g2,g3,g4⟩:=hMk D hD
   exact ⟨D',g1,g2,by rw [Mb];exact g3,g4⟩
 have Qc:C'=⟨C.P,C.S,C.G,C.w0,fn.ntmps,C'.X,C'.M,none,C'.Y,R⟩:=by rw [Mb];rfl
 have Fo:=h C.S C.G C.w0 C'.X C'.M C'.Y R
 rw [<- Qc] at Fo
 have Hk:C'.nt=fn.ntmps:=by rw [Mb];rfl
 have eN:=Fo body (by rw [hP,Hk];exact Te) _ w ⟨by rw [Mb];exact hR,β,M8⟩
 have hF:C'.F=Fence.wide:=by rw [Mb];rfl
 rw [hF,hP] at eN
 rw [Hk] at eN
 refine wpIn_mono eN ?_
 have Pe:∀ (s':DS) (a':Act) (w':World),Holds C' s' a' w'->(∃ d,bC s' r=some d/\K ⟨s.sv,s'.ho,s'.nx⟩ d)->
   LeavesInM Fence.wide 0 C.P fn a'.tmps (λe w'=>∃ v d Ox Bk β',e=.returned v/\K ⟨s.sv,Ox,Bk⟩ d/\(∀ id o,hid id=some o->Ox id=none)/\(∀ id,R id->id<Bk)/\
    HoldsB C (λid=>id<Bk/\¬ R id) ⟨s.sv,Lm hid Ox,Bk⟩ β' a w'/\WV C (λid=>id<Bk/\¬ R id) ((⟨s.sv,Lm hid Ox,Bk⟩:DS).vw C) β' w' v d) a'.defers .returning w':=by
  rintro s' ⟨tmps,l⟩ w' ⟨mJ,β',oE⟩ ⟨d,hd,hK⟩
  have:=UH (C:=C') (R:=λe w'=>∃ v d Ox Bk β',e=.returned v/\K ⟨s.sv,Ox,Bk⟩ d/\(∀ id o,hid id=some o->Ox id=none)/\(∀ id,R id->id<Bk)/\
    HoldsB C (λid=>id<Bk/\¬ R id) ⟨s.sv,Lm hid Ox,Bk⟩ β' a w'/\WV C (λid=>id<Bk/\¬ R id) ((⟨s.sv,Lm hid Ox,Bk⟩:DS).vw C) β' w' v d) (by rw [hP];exact gU) hd tmps (λv UT gK Ce=>by
   have eU:Us C' s'.nx=λid=>id<s'.nx/\¬ R id:=by rw [Mb];rfl
   have eV:s'.vw C'=(⟨s.sv,Lm hid s'.ho,s'.nx⟩:DS).vw C:=dS s'.ho
   obtain ⟨zA,PN⟩:=HH.ctx (C:=C') (C':=C) (by rw [Mb];rfl) (by rw [Mb];rfl) (by rw [Mb];rfl) (by rw [Mb];rfl) gK.hh
   rw [eU,eV] at zA
   have bj:∀ x d,WV C' (Us C' s'.nx) (s'.vw C') β' UT x d->WV C (λid=>id<s'.nx/\¬ R id) ((⟨s.sv,Lm hid s'.ho,s'.nx⟩:DS).vw C) β' UT x d:=λx d hx=>by
    have:=(PN x d).2 hx
    rwa [eU,eV] at this
   refine ⟨v,d,s'.ho,s'.nx,β',rfl,hK,λid o Ox=>gK.yd id o (by rw [Mb];simp only [Ctx.inner,Lm,Ox]),λid hid=>mJ id (by rw [Mb];exact hid),⟨zA,⟨hs.df.nodup,λd hd=>?_,λD hD=>?_,hs.df.apart⟩,hs.sz,λt=>?_,λx d hx=>?_,λid o hy=>?_⟩,bj _ _ Ce⟩
   .rcases hs.df.own d hd with ⟨D,e,_⟩ | hq
    .subst e
     obtain ⟨D',g1,g2,g3,g4⟩:=gK.df.out D (by rw [Mb];exact .inr hd)
     exact .inl ⟨D',g1,g2,by rw [Mb] at g3;exact g3,g4⟩
    .exact .inr hq
   .obtain ⟨D',g1,g2,g3,g4⟩:=gK.df.out D (by rw [Mb];exact .inl hD)
    exact ⟨D',g1,g2,by rw [Mb] at g3;exact g3,g4⟩
   .exact bj _ _ (gK.gh _ _ (.inl (by rw [Mb];exact hs.sl t)))
   .exact bj _ _ (gK.gh _ _ (.inl (by rw [Mb];exact hs.gh x d hx)))
   .have h1:=hs.yd id o hy
    rw [Xy] at h1
    have Sv:hid id=none:=by
     simp only [Lm] at h1
     split at h1
     .cases h1
     .exact h1
    have h2:=gK.yd id o (by rw [Mb];simp only [Ctx.inner,Lm,Sv];exact hy)
    simp only [Lm,h2,Sv]) l w' oE
  rw [hP] at this
  exact this
 rintro e a' w' ⟨s',⟨h1,h2⟩,oE⟩
 rcases h1 with rfl | rfl
 .exact Pe s' a' w' oE h2
 .exact Pe s' a' w' oE h2
theorem Bh7(ho:Nat->Option DObj):Lm (λ_=>none) ho=ho:=by
 funext id;unfold Lm;cases ho id <;> rfl
theorem Bh8{f:FuncId}{ds:List DV}{vs:List Value}{K:DS->DV->Prop}(hs:HoldsB C (Us C s.nx) s β a w)(hR:∀ id,C.R id->id<s.nx)(hl:vs.length=ds.length)
  (hr:∀ (j:Nat) (v:Value) (d:DV),vs[j]?=some v->ds[j]?=some d->WV C (Us C s.nx) (s.vw C) β w v d) (hk:Uc C.P f ds s K) :
  Calls C.P f vs.toArray w λe w'=>∃ v d s' β',e=.returned v/\K s' d/\(∀ id,C.R id->id<s'.nx)/\HoldsB C (Us C s'.nx) s' β' a w'/\WV C (Us C s'.nx) (s'.vw C) β' w' v d:=by
 refine (Bh6 (vis:=s.ho) (hid:=λ_=>none) (R:=C.R) hs (λ_=>Da) hR (Bh7 _).symm (λ_ _ h=>by cases h) hl hr hk).mono ?_
 rintro e w' ⟨v,d,Ox,Bk,β',h1,h2,_,h3,h4,h5⟩
 rw [Bh7] at h4 h5
 exact ⟨v,d,⟨s.sv,Ox,Bk⟩,β',h1,h2,h3,h4,h5⟩
def DS.drops(s:DS)(ids:List Nat):DS:={ s with ho:=λid=>if ids.contains id then none else s.ho id }
def Cc6(s:DS)(ids:List Nat)(ds:List DV):Bool:=
 (ids.all λid=>match s.ho id with | some (.row _ cs)=>(DV.refsL cs).all ids.contains | _=>true)&&(DV.refsL ds).all ids.contains
def eX(P:Program)(f:FuncId)(ds:List DV)(s:DS)(K:DS->DV->Prop):Prop:=
 (∃ R,(∀ x∈ds,x.refs=[])/\DCall P f ds R/\∀ d,R d->K s d)\/
 (∃ fP R,ds.mapM (rz s.ho 5)=some fP/\DCall P f fP R/\∀ d,R d->Plain d/\K s d)\/
 (∃ ids fP R,Cc6 s ids ds=true/\ds.mapM (rz s.ho 5)=some fP/\DCall P f fP R/\∀ d,R d->K (s.drops ids) d)\/
 Uc P f ds s K
theorem B46{V:Nat->Option DObj}{w':World}(hh:HH C U V β w){x:Value}{d:DV}{S:Nat->Prop}(hS:∀ b,S b->Tf C w β b)(h:RelI w' (λb=>(S b\/w.heap.size<=b)/\b<w'.heap.size) x d):RelI w' (Tf C w' β) x d:=by
 refine h.mono λb hb=>⟨?_,rfl⟩
 rcases hb.1 with h1 | h1
 .obtain ⟨h2,h3,h4⟩:=hS b h1
  exact ⟨h2,hb.2,h4⟩
 .refine ⟨.inr (.inl (Ep hh.bel.size h1)),hb.2,λid hid=>?_⟩
  have:=hh.lt hid
  omega
theorem Cc7(hs:HoldsB C U s β a w)(x:Value)(d:DV)(h:MQ x d):RelI w (Tf C w β) x d:=by
 have h1:=hs.gh x d (.inr h)
 obtain ⟨g,cs,hg,rfl,rfl⟩:=h
 exact UG (h1.2.1 λid hi=>(by simp [DV.refs] at hi)) (by simp [DV.refs])
theorem ug{f:FuncId}{ds:List DV}{vs:List Value}{R:DV->Prop}(hs:HoldsB C U s β a w)(hl:vs.length=ds.length)
  (hr:∀ (j:Nat) (v:Value) (d:DV),vs[j]?=some v->ds[j]?=some d->RelI w (Tf C w β) v d) (hc:DCall C.P f ds R) :
  Calls C.P f vs.toArray w λe w'=>∃ v d,e=.returned v/\R d/\HoldsB C U s β a w'/\WV C U (s.vw C) β w' v d:=by
 refine (hc w (Tf C w β) vs (λb hb=>hb.2.1) hl hr (Cc7 hs)).mono ?_
 rintro e w' ⟨v,r,rfl,hR,hb,Ce⟩
 exact ⟨v,r,rfl,hR,hs.keep hb,qO (B46 hs.hh (λb hb=>hb) Ce)⟩
theorem HoldsB.drops(hs:HoldsB C U s β a w)(ids:List Nat) :
  ∃ β',HoldsB C U (s.drops ids) β' a w/\(∀ b,Tf C w β b->Tf C w β' b)/\∀ id∈ids,(s.ho id).isSome=true->∀ b,β id=some b->Tf C w β' b:=by
 let β':Nat->Option Nat:=λid=>if id∈ids/\(s.ho id).isSome=true then none else β id
 have Pd:∀ j b,β' j=some b->β j=some b/\¬ (j∈ids/\(s.ho j).isSome=true):=λj b hb=>by
  by_cases hj:j∈ids/\(s.ho j).isSome=true
  .simp only [β',Af hj] at hb;cases hb
  .simp only [β',Ad hj] at hb;exact ⟨hb,hj⟩
 refine ⟨β',?_,λb ⟨h1,h2,h3⟩=>⟨h1,h2,λj hj=>h3 j (Pd j b hj).1⟩,λid hi ha b hb=>⟨.inr (hs.hh.bge id b hb).1,hs.hh.lt hb,λj hj=>?_⟩⟩
 .have hl:=hs.hh.less (U':=U) (β':=β') (V':=(s.drops ids).vw C) (λ_ h=>h) (λid=>?_) (λid=>?_)
  .exact hs.carry rfl (λid o hy=>by simp only [DS.drops];rw [hs.yd id o hy];simp) hl
  .by_cases hi:id∈ids/\(s.ho id).isSome=true
   .refine .inr ⟨by simp [β',hi],?_⟩
    have:=hs.apart hi.2
    simp [DS.vw,Lm,DS.drops,hi.1,this]
   .exact .inl (by simp [β',hi])
  .by_cases hi:id∈ids
   .cases ho:s.ho id with
    | none=>exact .inl (by simp [DS.vw,Lm,DS.drops,ho])
    | some o=>
     have:=hs.apart (i:=id) (by rw [ho];rfl)
     exact .inr (by simp [DS.vw,Lm,DS.drops,hi,this])
   .exact .inl (by simp [DS.vw,Lm,DS.drops,hi])
 .obtain ⟨h1,h2⟩:=Pd j b hj
  have:=hs.hh.inj j id b h1 hb
  subst this
  exact h2 ⟨hi,ha⟩
theorem Cm0{f:FuncId}{ds:List DV}{vs:List Value}{K:DS->DV->Prop}(hs:HoldsB C (Us C s.nx) s β a w)(hR:∀ id,C.R id->id<s.nx)(hl:vs.length=ds.length)
  (hr:∀ (j:Nat) (v:Value) (d:DV),vs[j]?=some v->ds[j]?=some d->WV C (Us C s.nx) (s.vw C) β w v d) (hk:eX C.P f ds s K) :
  Calls C.P f vs.toArray w λe w'=>∃ v d s' β',e=.returned v/\K s' d/\(∀ id,C.R id->id<s'.nx)/\HoldsB C (Us C s'.nx) s' β' a w'/\WV C (Us C s'.nx) (s'.vw C) β' w' v d:=by
 rcases hk with ⟨R,K7,Pg,hK⟩ | ⟨fP,R,hm,Pg,hK⟩ | ⟨ids,fP,R,hg,hm,Pg,hK⟩ | N2
 .refine (ug hs hl (λj v d hv hd=>?_) Pg).mono ?_
  .have h0:=K7 d (Au hd)
   exact UG ((hr j v d hv hd).2.1 λid hi=>by rw [h0] at hi;cases hi) h0
  .rintro e w' ⟨v,d,rfl,mJ,h1,h2⟩
   exact ⟨v,d,s,β,rfl,hK d mJ,hR,h1,h2⟩
 .obtain ⟨Wr,K0⟩:=mapM_some hm
  refine (Pg w (frz C w) vs (λb hb=>hb.2) (by omega) (λj v d hv hd=>?_) (λx d hx=>(Cc7 hs x d hx).mono λb hb=>⟨⟨hb.1,hb.2.1⟩,rfl⟩)).mono ?_
  .have hj:j<ds.length:=by have:=(As.1 hd).1;omega
   exact vS hs.hh (λ_ _=>dB) 5 v ds[j] d (hr j v _ hv (Aa hj)) (K0 j _ d (Aa hj) hd)
  .rintro e w' ⟨v,r,rfl,mJ,hb,Ce⟩
   exact ⟨v,r,s,β,rfl,(hK r mJ).2,hR,hs.keep hb,qO (Bo7 Ce (hK r mJ).1)⟩
 .obtain ⟨Wr,K0⟩:=mapM_some hm
  simp only [Cc6,Bo,Bi] at hg
  obtain ⟨Dm,Ft⟩:=hg
  obtain ⟨β',h1,h2,h3⟩:=hs.drops ids
  refine (ug h1 (by omega) (λj v d hv hd=>?_) Pg).mono ?_
  .have hj:j<ds.length:=by have:=(As.1 hd).1;omega
   have hz:=K0 j _ d (Aa hj) hd
   refine Cc5 hs.hh (λ_ _=>dB) (Tf C w β') (λid=>id∈ids) h2 (λid b hi ha hb=>h3 id hi ha b hb) (λid T cs hi ho k hk=>?_) 5 v ds[j] d (λid hi=>?_) (hr j v _ hv (Aa hj)) hz
   .have:=Dm id hi
    rw [ho] at this
    have:=Bi.1 this k hk
    simpa using this
   .have:=Ft id (DV.refsL_mem (Bh hj) hi)
    simpa using this
  .rintro e w' ⟨v,d,rfl,mJ,h4,h5⟩
   exact ⟨v,d,s.drops ids,β',rfl,hK d mJ,hR,h4,h5⟩
 .exact Bh8 hs hR hl hr N2
end
end Go.DD

/- Rounds of a range over a function. -/
namespace Go.DD
open Go.RowKit (Below)
def aV:List Nat->List DV->(Nat->DV)->Nat->DV
 | p::ps,d::ds,f=>aV ps ds (λu=>if p=u then d else f u)
 | _,_,f=>f
theorem Bs9{W:Value->DV->Prop}{nt:Nat} : ∀ (ps:List Nat) (vs:List Value) (ds:List DV) (tmps:Array Value) (f:Nat->DV),vs.length=ps.length->ds.length=ps.length->
  (∀ t∈ps,t<nt)->tmps.size=nt->(∀ (j:Nat) (v:Value) (d:DV),vs[j]?=some v->ds[j]?=some d->W v d)->(∀ t,W (tmps.getD t undef) (f t))->
  ((ps.zip vs).foldl (λ(t:Array Value) (p:Nat×Value)=>t.setIfInBounds p.1 p.2) tmps).size=nt/\∀ t,W (((ps.zip vs).foldl (λ(t:Array Value) (p:Nat×Value)=>t.setIfInBounds p.1 p.2) tmps).getD t undef) (aV ps ds f t)
 | [],_,_,tmps,f,_,_,_,He,_,hr=>⟨He,hr⟩
 | p::ps,[],_,_,_,h,_,_,_,_,_=>by simp at h
 | p::ps,_::_,[],_,_,_,h,_,_,_,_=>by simp at h
 | p::ps,v::vs,d::ds,tmps,f,h1,h2,h3,He,hvd,hr=>by
  simp only [List.zip_cons_cons,List.foldl_cons,aV]
  refine Bs9 ps vs ds _ _ (by simpa using h1) (by simpa using h2) (λt ht=>h3 t (by simp [ht])) (by simpa using He) (λj u e hu he=>hvd (j+1) u e (by simpa using hu) (by simpa using he)) λt=>?_
  by_cases dv:p=t
  .subst dv
   simp only [Ex]
   have Ez:p<tmps.size:=by rw [He];exact h3 p (by simp)
   have:(tmps.setIfInBounds p v).getD p undef=v:=by simp [Ez]
   rw [this];exact hvd 0 v d rfl rfl
  .simp only [dv,Ib]
   have:(tmps.setIfInBounds p v).getD t undef=tmps.getD t undef:=by simp [Gh dv]
   rw [this];exact hr t
def OD(P:Program)(id:Nat)(ds:List DV)(s:DS)(K:DS->DV->Prop):Prop:=
 ∃ lp,s.ho id=some (.loop lp)/\lp.st=.ready/\ds.length=lp.ps.length/\(∀ t∈lp.ps,t<lp.nt)/\∀ (S G:Nat->Prop) (w0:World) (X:Value->DV->Prop) (M:Nat->Prop) (Y:Nat->Option DObj) (R:Nat->Prop) (l:Nat),
  DW ⟨P,S,G,w0,lp.nt,X,M,some l,Y,R⟩ lp.asg (λe s1=>e=.normal/\∃ Tt,s1.ho id=some (.loop Tt)/\Tt.st=.ready/\
   DW ⟨P,S,G,w0,lp.nt,X,M,some l,Y,R⟩ lp.body (λe s2=>∃ Pp,s2.ho id=some (.loop Pp)/\match e with
    | .normal=>K ⟨s.sv,setH s2.ho id (some (.loop { Pp with st:=.ready,pend:=none })),s2.nx⟩ (.v (.bool true))
    | .ret=>K ⟨s.sv,setH s2.ho id (some (.loop { Pp with st:=.done,pend:=some .ret })),s2.nx⟩ (.v (.bool false))
    | .exit i=>K ⟨s.sv,setH s2.ho id (some (.loop { Pp with st:=.done,pend:=some (.exit i) })),s2.nx⟩ (.v (.bool false))
    | _=>False) (s1.lay id (some (.loop { Tt with st:=.busy })))) ⟨aV lp.ps ds lp.sl.get,s.ho,s.nx⟩
section
variable {C:Ctx} {U:Nat->Prop} {s:DS} {β:Nat->Option Nat} {a:Act} {w:World}
theorem HoldsB.mark(hs:HoldsB C U s β a w){id b:Nat}{lp:DLoop}{r:Loop}(hb:β id=some b)(ho:s.ho id=some (.loop lp))(hr:w.heap[b]?=some (.loop r))
  (st:LoopState) (pend:Option Code):HoldsB C U (s.lay id (some (.loop { lp with st:=st,pend:=pend }))) β a (w.putObj b (.loop { r with state:=st,pending:=pend })):=by
 have Ez:b<w.heap.size:=(Bt.1 hr).1
 obtain ⟨b',r',Ht,eA,q1,q2,q3,q4,q5,q6,Ce⟩:=hs.hh.hp id _ (dB ho)
 rw [hb] at Ht;cases Ht
 rw [hr] at eA
 cases eA
 exact (hs.wrote (w':=w.putObj b (.loop { r with state:=st,pending:=pend })) 0 id b (.loop { lp with st:=st,pend:=pend }) hb (by rw [ho];rfl) (λk hk=>World.putObj_heap_other hk) (by simp) rfl rfl rfl
  (λc T hc=>by rw [hr] at hc;cases hc) λSg=>⟨b,_,hb,World.putObj_heap_same Ez,q1,q2,q3,q4,rfl,rfl,λt=>Sg _ _ (Ce t)⟩).1
theorem B47{id b:Nat}{ds:List DV}{vs:List Value}{K:DS->DV->Prop}(hs:HoldsB C (Us C s.nx) s β a w)(hR:∀ id,C.R id->id<s.nx)(hb:β id=some b)(hl:vs.length=ds.length)
  (hr:∀ (j:Nat) (v:Value) (d:DV),vs[j]?=some v->ds[j]?=some d->WV C (Us C s.nx) (s.vw C) β w v d) (hk:OD C.P id ds s K) :
  ∃ fn tmps assign body,(Instr.yield b vs.toArray).run C.P w=.ok (.round b fn tmps assign body) w/\
   RoundIn C.F 0 C.P b fn tmps assign body w λe w'=>∃ v d s' β',e=.returned v/\K s' d/\(∀ id,C.R id->id<s'.nx)/\HoldsB C (Us C s'.nx) s' β' a w'/\WV C (Us C s'.nx) (s'.vw C) β' w' v d:=by
 obtain ⟨lp,ho,If,hlen,Gy,h⟩:=hk
 obtain ⟨b',r,Ht,hrb,q1,q2,q3,q4,q5,q6,Ce⟩:=hs.hh.hp id _ (dB ho)
 rw [hb] at Ht;cases Ht
 have He:vs.toArray.size=r.params.size:=by rw [Ot,hl,hlen,<- q1,Ck]
 refine ⟨r.fn,_,r.assign,r.body,run_yield hrb He,roundIn_of_wpIn trivial ?_⟩
 obtain ⟨S6,tF⟩:=Bs9 (W:=WV C (Us C s.nx) (s.vw C) β w) lp.ps vs ds r.tmps lp.sl.get (by omega) hlen Gy q2 hr Ce
 have cd:(r.params.zip vs.toArray).foldl (λtmps (x:Nat×Value)=>tmps.setIfInBounds x.1 x.2) r.tmps=(lp.ps.zip vs).foldl (λ(t:Array Value) (p:Nat×Value)=>t.setIfInBounds p.1 p.2) r.tmps:=by
  rw [<- Array.foldl_toList,Array.toList_zip,q1]
 obtain ⟨C',Mb⟩:∃ C',C'=C.inner (Us C s.nx) (s.vw C) β a.defers w lp.nt (some b) (λ_=>none) C.R:=⟨_,rfl⟩
 have hY:C'.Y=C.Y:=by rw [Mb];rfl
 have hP:C'.P=C.P:=by rw [Mb];rfl
 have Hk:C'.nt=lp.nt:=by rw [Mb];rfl
 have KR:∀ nx,Us C' nx=Us C nx:=λnx=>by rw [Mb];rfl
 have hvw:∀ s:DS,s.vw C'=s.vw C:=λs=>by unfold DS.vw;rw [hY]
 have hto:∀ {U:Nat->Prop} {V:Nat->Option DObj} {β:Nat->Option Nat} {w:World},HH C U V β w->HH C' U V β w/\∀ x d,WV C' U V β w x d↔WV C U V β w x d:=λh=>HH.ctx (by rw [Mb];rfl) (by rw [Mb];rfl) (by rw [Mb];rfl) (by rw [Mb];rfl) h
 have JT:∀ {U:Nat->Prop} {V:Nat->Option DObj} {β:Nat->Option Nat} {w:World},HH C' U V β w->HH C U V β w/\∀ x d,WV C U V β w x d↔WV C' U V β w x d:=λh=>HH.ctx (by rw [Mb];rfl) (by rw [Mb];rfl) (by rw [Mb];rfl) (by rw [Mb];rfl) h
 have ew:∀ {β:Nat->Option Nat} {w:World} {d:Deferred},Mark C' β w d↔Mark C β w d:=by rw [Mb];exact Da
 have M8:HoldsB C' (Us C' s.nx) ⟨aV lp.ps ds lp.sl.get,s.ho,s.nx⟩ β { tmps:=(lp.ps.zip vs).foldl (λ(t:Array Value) (p:Nat×Value)=>t.setIfInBounds p.1 p.2) r.tmps,defers:=[] } w:=by
  obtain ⟨g1,g2⟩:=hto hs.hh
  have e:(⟨aV lp.ps ds lp.sl.get,s.ho,s.nx⟩:DS).vw C'=s.vw C:=hvw s
  refine ⟨by rw [KR,e];exact g1,⟨List.nodup_nil,(λd hd=>by cases hd),(λD hD=>?_),(λD hD=>by cases hD)⟩,by rw [Hk];exact S6,λt=>by rw [KR,e];exact (g2 _ _).2 (tF t),λx d hx=>?_,by rw [hY];exact hs.yd⟩
  .rw [Mb] at hD
   exact ew.2 (hD.elim (hs.df.out D) hs.df.ownC)
  .rw [KR,e]
   rw [Mb] at hx
   rcases hx with hx | hx
   .exact (g2 _ _).2 hx
   .exact (g2 _ _).2 (hs.gh x d (.inr hx))
 have S8:WV C (Us C s.nx) (s.vw C) β w (.func (.yield b) #[] #[]) (.yl id):=hs.hh.wv (.yl id b hb) λi hi=>by
  obtain rfl:i=id:=by simpa [DV.refs] using hi
  exact lS (by rw [ho];rfl)
 have Qc:C'=⟨C.P,C.S,C.G,C.w0,lp.nt,C'.X,C'.M,some b,C'.Y,C'.R⟩:=by rw [Mb];rfl
 have hX:∀ x d,WV C (Us C s.nx) (s.vw C) β w x d->C'.X x d:=λx d hx=>by rw [Mb];exact hx
 have hRR:C'.R=C.R:=by rw [Mb];rfl
 have Fo:=h C.S C.G C.w0 C'.X C'.M C'.Y C'.R b
 rw [<- Qc] at Fo
 have N6:=Fo r.assign (by rw [hP,Hk];exact q3) _ w ⟨by rw [hRR];exact hR,β,M8⟩
 rw [<- cd] at N6
 have hF:C'.F=C.F.inRound b:=by rw [Mb];rfl
 rw [hF,hP] at N6
 -- the record's block is where it was
 have pF:∀ {s1:DS} {β1:Nat->Option Nat} {a1:Act} {w1:World} {o:DObj},HoldsB C' (Us C' s1.nx) s1 β1 a1 w1->s1.ho id=some o->β1 id=some b:=λ{s1 β1 a1 w1 o} Mz J8=>by
  have h1:=(Mz.gh _ _ (.inl (hX _ _ S8))).2.1 λi hi=>by
   obtain rfl:i=id:=by simpa [DV.refs] using hi
   exact lS (by rw [J8];rfl)
  obtain ⟨b2,e,Ww⟩:=SD h1
  cases e;exact Ww
 refine wpIn_mono (F:=C.F.inRound b) N6 ?_
 rintro e a1 w1 ⟨s1,⟨rfl,Tt,J8,I8,eN⟩,kf,β1,Mz⟩
 have cQ:=pF Mz J8
 obtain ⟨b1',r1,Yh,HX,_,_,_,_,q51,q61,_⟩:=Mz.hh.hp id _ (dB J8)
 rw [cQ] at Yh;cases Yh
 refine ⟨_,run_beginRound HX (by rw [q51,I8]),?_⟩
 have gJ:=Mz.mark cQ J8 HX .busy Tt.pend
 rw [<- q61] at gJ
 have bk:({ Tt with st:=LoopState.busy,pend:=r1.pending } : DLoop) = { Tt with st:=.busy }:=by rw [q61]
 rw [bk] at gJ
 have hbw:=eN r.body (by rw [hP,Hk];exact q4) a1 _ ⟨kf,β1,gJ⟩
 rw [hF,hP] at hbw
 refine wpIn_mono (F:=C.F.inRound b) hbw ?_
 rintro e a2 w2 ⟨s2,⟨Pp,iW,iT⟩,QO,β2,Vd⟩
 have Ww:=pF Vd iW
 obtain ⟨b2',r2,KJ,HW,_⟩:=Vd.hh.hp id _ (dB iW)
 rw [Ww] at KJ;cases KJ
 have fin:∀ (jump:Option Code) ,K ⟨s.sv,setH s2.ho id (some (.loop { Pp with st:=if jump.isNone then .ready else .done,pend:=jump })),s2.nx⟩ (.v (.bool jump.isNone))->
   ∃ v w',(Instr.endRound b jump).run C.P w2=.ok v w'/\∃ v' d s' β',Ending.returned v=.returned v'/\K s' d/\(∀ id,C.R id->id<s'.nx)/\HoldsB C (Us C s'.nx) s' β' a w'/\WV C (Us C s'.nx) (s'.vw C) β' w' v' d:=λjump hK=>by
  have Vc:=Vd.mark Ww iW HW (if jump.isNone then .ready else .done) jump
  obtain ⟨s3,J1⟩:∃ s3,s2.lay id (some (.loop { Pp with st:=if jump.isNone then .ready else .done,pend:=jump }))=s3:=⟨_,rfl⟩
  rw [J1] at Vc
  have fL:s3.nx=s2.nx:=by rw [<- J1];rfl
  have hK':K ⟨s.sv,s3.ho,s3.nx⟩ (.v (.bool jump.isNone)):=by rw [<- J1];exact hK
  obtain ⟨g1,g2⟩:=JT Vc.hh
  have e:s3.vw C'=(⟨s.sv,s3.ho,s3.nx⟩:DS).vw C:=hvw s3
  rw [KR,e] at g1 g2
  have g3:∀ x d,WV C' (Us C' s2.nx) (s3.vw C') β2 _ x d->WV C (Us C s2.nx) ((⟨s.sv,s3.ho,s3.nx⟩:DS).vw C) β2 _ x d:=λx d hx=>by
   rw [KR,e] at hx;exact (g2 x d).2 hx
  refine ⟨_,_,run_endRound jump HW,_,_,⟨s.sv,s3.ho,s3.nx⟩,β2,rfl,hK',λid hid=>by simp only [fL];exact QO id (by rw [hRR];exact hid),?_,WV.v _⟩
  simp only [fL]
  refine ⟨by rw [<- fL];simpa only [fL] using g1,⟨hs.df.nodup,λd hd=>?_,λD hD=>?_,hs.df.apart⟩,hs.sz,λt=>?_,λx d hx=>?_,λi o hy=>?_⟩
  .rcases hs.df.own d hd with ⟨D,e,_⟩ | hq
   .subst e
    exact .inl (ew.1 (Vc.df.out D (by rw [Mb];exact .inr hd)))
   .exact .inr hq
  .exact ew.1 (Vc.df.out D (by rw [Mb];exact .inl hD))
  .have:=g3 _ _ (Vc.gh _ _ (.inl (hX _ _ (hs.sl t))))
   simpa only [fL] using this
  .have:=g3 _ _ (Vc.gh _ _ (.inl (hX _ _ (hs.gh x d hx))))
   simpa only [fL] using this
  .exact Vc.yd i o (by rw [hY];exact hy)
 cases e with
 | normal=>exact fin none iT
 | ret=>exact fin (some .ret) iT
 | exit i=>exact fin (some (.exit i)) iT
 | _=>exact iT.elim
end
end Go.DD
