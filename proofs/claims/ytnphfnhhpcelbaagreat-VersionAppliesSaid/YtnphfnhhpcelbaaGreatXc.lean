/- A part. -/
import Derived.Test.YtnphfnhhpcelbaaGreatXb
namespace Go.DD
open Go.RowKit (Below)
def DS.wanted (s:DS):Option (Nat×Bool)→Option Bool
 | none=>some true
 | some (t,b)=>match s.sv t with
  | .v (.bool c)=>some (c == b)
  | .v (.tuple _)=>some false
  | _=>none
def stepR (P:Program) (r:DR) (s:DS) (K:DS→Prop):Prop:=
 match r.op with
 | .call f args=>Ac7 P f=true∧callK P f (args.map s.rv) s fun s' d=>K (s'.put r.dst d)
 | .cv tb x args=>match (s.ev x).tgt tb with
  | some (f,fr,cs)=>Ac7 P f=true∧callK P f (fr ++ args.map s.rv ++ cs) s fun s' d=>K (s'.put r.dst d)
  | none=>match (s.ev x).tgY tb with
   | some i=>A42 P i (args.map s.rv) s fun s' d=>K (s'.put r.dst d)
   | none=>False
 | .nxm k x=>match nxmL s k x with
  | some l=>∀ p∈l,K ((s.upd s.nx p.2).put r.dst p.1)
  | none=>False
 | op=>match exec s op with
  | some (d,s')=>K (s'.put r.dst d)
  | none=>False
def Al8 (P:Program):List DR→DS→(DS→Prop)→Prop
 | [],s,K=>K s
 | r :: rest,s,K=>match s.wanted r.g with
  | some true=>stepR P r s fun s'=>Al8 P rest s' K
  | some false=>Al8 P rest (s.put r.dst (.v undef)) K
  | none=>False
theorem Ar6 {P:Program} {c:Call} : Aj3 P (.defer c)=none:=rfl
theorem Af1 {P:Program} {f:FuncId} (h:Ac7 P f=true) (vs:Array Value) (w:World):(callFunc f vs).run P w=.ok (.enter f vs) w:=by
 unfold Ac7 at h
 split at h
 ·rename_i fn hf
  simp only [Bool.and_eq_true,bne_iff_ne,ne_eq] at h
  obtain ⟨h1,h2⟩:=h
  have h5:¬ fn.body=none:=by intro hb; rw [hb] at h1; cases h1
  simp [callFunc,hf,h2,h5]
 ·cases h
theorem Av3 {dr:Bool} {C:Ctx} {U:Nat→Prop} {s:DS} {β:Nat→Option Nat} {a:Act} {w:World} {ops:Array Oper} {o:Oper} {r:DR} {b:Bool} (hs:HoldsB C U s β a w) (hr:compR C.P C.nt dr ops o=some r) (hw:s.wanted r.g=some b) :
  Region.wanted o (yielded ops a.tmps)=b:=by
 unfold compR at hr
 split at hr
 rotate_left
 ·cases hr
 split at hr
 rotate_left
 ·cases hr
 rename_i hg
 cases hr
 split at hg
 ·rename_i hgd
  cases hg
  simp [DS.wanted] at hw
  simp [Region.wanted,hgd,← hw]
 ·rename_i j want hgd
  obtain ⟨t,ht,hg⟩:=Option.map_eq_some_iff.1 hg
  cases hg
  simp only [DS.wanted] at hw
  have h0:=hs.sl t
  split at hw
  ·rename_i c hc
   cases hw
   rw [hc] at h0
   have h2:=rel_v (h0.2.1 (fun id hi=>by simp [DV.refs] at hi))
   have h3:a.tmps[t]?=some (.bool c):=by
    cases hq:a.tmps[t]? with
    | none=>simp [hq,undef] at h2
    | some u=>simp [hq] at h2; rw [h2]
   simp [Region.wanted,hgd,yielded,ht,h3]
  ·rename_i vs hc
   cases hw
   rw [hc] at h0
   have h2:=rel_v (h0.2.1 (fun id hi=>by simp [DV.refs] at hi))
   have h3:∀ c,a.tmps[t]?≠some (.bool c):=by
    intro c hq
    simp [hq] at h2
   have h4:yielded ops a.tmps j=none:=by
    simp only [yielded,ht,Option.bind_some]
   simp [Region.wanted,hgd,h4]
  ·cases hw
theorem A09 {P:Program} {nt:Nat} {dr:Bool} {ops:Array Oper} {o:Oper} {r:DR} (h:compR P nt dr ops o=some r):r.dst=o.dst∧(∀ t,r.dst=some t→t < nt)∧r.op=(Aj3 P o.op).getD .bad:=by
 unfold compR at h
 split at h
 ·rename_i hd
  split at h
  ·cases h
   refine ⟨rfl,fun t ht=>?_,rfl⟩
   simp only at ht
   rw [ht] at hd
   simpa [dstOk] using hd
  ·cases h
 ·cases h
theorem Av4 {P:Program} {op:Op} {f:FuncId} {args:List Operand} (h:Aj3 P op=some (.call f args)):∃ c,op=.call c∧c.callee=.value (.func f)∧args=c.args.toList:=by
 unfold Aj3 at h
 split at h
 case h_22 c=>
  split at h
  ·rename_i f' hc; cases h; exact ⟨c,rfl,hc,rfl⟩
  ·cases h
  all_goals (exfalso; (repeat' split at h) <;> first | (cases h; done) | (simp [Option.bind_eq_some_iff] at h; done) | (obtain ⟨z,_,h⟩:=Option.bind_eq_some_iff.1 h; split at h <;> cases h))
 all_goals (exfalso; (repeat' split at h) <;> first | (cases h; done) | (simp [Option.bind_eq_some_iff] at h; done) | (obtain ⟨z,_,h⟩:=Option.bind_eq_some_iff.1 h; split at h <;> cases h))
theorem A43 {P:Program} {op:Op} {tb:Option (List (TypeId×FuncId))} {f:Operand} {args:List Operand} (h:Aj3 P op=some (.cv tb f args)):∃ c,op=.call c∧args=c.args.toList∧((tb=none∧c.callee=.value f)∨∃ name,tb=some (mthT P name)∧c.callee=.invoke f name):=by
 unfold Aj3 at h
 split at h
 case h_22 c=>
  split at h
  ·cases h
  ·rename_i f' _ hc; cases h; exact ⟨c,rfl,rfl,.inl ⟨rfl,hc⟩⟩
  all_goals (exfalso; (repeat' split at h) <;> first | (cases h; done) | (simp [Option.bind_eq_some_iff] at h; done) | (obtain ⟨z,_,h⟩:=Option.bind_eq_some_iff.1 h; split at h <;> cases h))
 all_goals (exfalso; (repeat' split at h) <;> first | (cases h; done) | (simp [Option.bind_eq_some_iff] at h; done) | (obtain ⟨z,_,h⟩:=Option.bind_eq_some_iff.1 h; split at h <;> cases h))
theorem Bi1 {P:Program} {op:Op} {k:Bool} {x:Operand} (h:Aj3 P op=some (.nxm k x)):op=if k then .entry x else .next x false:=by
 unfold Aj3 at h
 split at h
 all_goals (exfalso; (repeat' split at h) <;> first | (cases h; done) | (simp [Option.bind_eq_some_iff] at h; done) | (obtain ⟨z,_,h⟩:=Option.bind_eq_some_iff.1 h; split at h <;> cases h))
theorem Bi2 {P:Program} {w:World} {name:String} {T:TypeId} {f:FuncId} (h:mthF P name T=some f) (v:Value) (k:Nat):(method (k+1) T v name).run P w=.ok (f,v) w:=by
 unfold mthF at h
 split at h
 ·rename_i e hu
  split at h
  ·rename_i i hi
   split at h
   ·rename_i m hm
    split at h
    ·rename_i hp
     split at h
     ·rename_i f' hf
      cases h
      have hpath:m.path.toList=[]:=by
       have:=hp
       simp at this
       rw [this]
      unfold method
      simp only [Sem.run_bind,typeInfo,run_program,hi,Sem.run_pure,Result.andThen_ok,hm,hpath,follow,hf,receiverAt,run_underlying hu,Place.get]
     ·cases h
    ·cases h
   ·cases h
  ·cases h
 ·cases h
theorem B33:∀ {l:List (TypeId×FuncId)} {T:TypeId} {f:FuncId},lkT l T=some f→(T,f)∈l
 | [],_,_,h=>by cases h
 | p :: l,T,f,h=>by
  simp only [lkT] at h
  split at h
  ·rename_i e; cases h; subst e; simp
  ·exact List.mem_cons_of_mem _ (B33 h)
theorem Cc9 {P:Program} {name:String} {T:TypeId} {f:FuncId} (h:lkT (mthT P name) T=some f):mthF P name T=some f:=by
 have:=B33 h
 unfold mthT at this
 obtain ⟨T',_,hT⟩:=List.mem_filterMap.1 this
 obtain ⟨f',hf,e⟩:=Option.map_eq_some_iff.1 hT
 cases e; exact hf
theorem An7 {P:Program} {w:World} {name:String} {T:TypeId} {f:FuncId} (h:lkT (mthT P name) T=some f) (hc:Ac7 P f=true) (v:Value) (args:Array Value):(callMethod (.iface T v) name args).run P w=.ok (.enter f (#[v] ++ args)) w:=by
 have hm:=Bi2 (w:=w) (Cc9 h) v (P.types.size+99)
 have hd:P.types.size+Made.depth=P.types.size+99+1:=rfl
 unfold callMethod
 simp only [Sem.run_bind,run_program,Result.andThen_ok,hd,hm]
 exact Af1 hc _ _
theorem A10 {a:Act} (args:Array Operand):args.map a.eval=(args.toList.map a.eval).toArray:=by apply Array.ext'; simp
structure HoldsS (C:Ctx) (s:DS) (β:Nat→Option Nat) (a:Act) (w:World):Prop where
 b:HoldsB C (Us C s.nx) s β a w
 r:∀ id,C.R id→id < s.nx
theorem Holds.of {C:Ctx} {s:DS} {β:Nat→Option Nat} {a:Act} {w:World} (h:HoldsS C s β a w):Holds C s a w:=⟨h.r,β,h.b⟩
theorem HoldsS.exec {C:Ctx} {s s':DS} {β:Nat→Option Nat} {a:Act} {w:World} {o:Oper} {d:DV} {op:DOp} (hs:HoldsS C s β a w)
  (hc:Aj3 C.P o.op=some op) (he:exec s op=some (d,s')):∃ nx w' β' x,(execOp a.eval o).run C.P w=.ok nx w'∧(nx=.value x∨(nx=.skip∧x=undef))∧HoldsS C s' β' a w'∧WV C (Us C s'.nx) (s'.vw C) β' w' x d:=by
 unfold Go.DD.exec at he
 split at he
 rotate_left
 ·cases he
 rename_i d' u hu
 cases he
 obtain ⟨nx,w',β',x,h1,h2,h3,h4⟩:=A05 hs.b (fun h=>by have:=h.1; omega) hc hu
 have hgrow:∀ id,Ux (Us C s.nx) s.nx u id→Us C (if u.new=true then s.nx+1 else s.nx) id:=fun id hi=>by
  have key:Un (Us C s.nx) s.nx id→Us C (s.nx+1) id:=fun h=>by
   rcases h with h | rfl
   ·exact ⟨by have:=h.1; omega,h.2⟩
   ·exact ⟨by omega,fun hr=>by have:=hs.r _ hr; omega⟩
  cases u <;> simp only [Upd.new,Bool.false_eq_true,if_false,if_true,Ux] at hi ⊢ <;> first | exact hi | exact key hi
 refine ⟨nx,w',β',x,h1,h2,⟨?_,fun id hr=>?_⟩,h4.grow hgrow⟩
 ·obtain ⟨g1,g2,g3,g4,g5,g6⟩:=h3.grow hgrow
  exact ⟨g1,g2,g3,g4,g5,g6⟩
 ·have:=hs.r id hr
  simp only
  split <;> omega
theorem Bx2 {dr:Bool} {C:Ctx} {s:DS} {β:Nat→Option Nat} {a:Act} {w:World} {ops:Array Oper} {o:Oper} {r:DR} {K:DS→Prop} {next:Act→World→Prop} {Q:Exit→Act→World→Prop} (hs:HoldsS C s β a w) (hr:compR C.P C.nt dr ops o=some r)
  (hk:stepR C.P r s K) (hnext:∀ s' β' a' w',HoldsS C s' β' a' w'→K s'→next a' w'):o.wpIn C.F 0 C.P a w next Q:=by
 obtain ⟨hd,hdlt,hop⟩:=A09 hr
 have hnd:∀ c,o.op≠.defer c:=fun c hc=>by
  rw [hc,Ar6] at hop
  simp [stepR,hop,exec,execU] at hk
 have hput:∀ (s':DS) (β':Nat→Option Nat) (w':World) (x:Value) (d:DV),HoldsS C s' β' a w'→WV C (Us C s'.nx) (s'.vw C) β' w' x d→K (s'.put r.dst d)→next (a.put o.dst x) w':=fun s' β' w' x d h1 h2 h3=>by
  rw [← hd]
  exact hnext _ β' _ w' ⟨by rw [DS.nx_put]; exact h1.b.put r.dst hdlt h2,by rw [DS.nx_put]; exact h1.r⟩ h3
 have hcallF:∀ f (vs:List Value) (ds:List DV),vs.length=ds.length→(∀ (j:Nat) (v:Value) (d:DV),vs[j]?=some v→ds[j]?=some d→WV C (Us C s.nx) (s.vw C) β w v d)→Ac7 C.P f=true→
   callK C.P f ds s (fun s' d=>K (s'.put r.dst d))→(execOp a.eval o).run C.P w=.ok (.enter f vs.toArray) w→o.wpIn C.F 0 C.P a w next Q:=by
  intro f vs ds hl hrel hcb hck hrun
  refine ⟨fun _ _=>trivial,?_⟩
  rw [Oper.semAt_plain _ _ _ hnd,hrun,Oper.uponIn_enter]
  refine ⟨fun h=>by simp [Ctx.F,Fence.wide] at h,A06 ((Cc8 hs.b hs.r hl hrel hck).mono ?_)⟩
  rintro e w' ⟨v,d,s',β',rfl,hK,hR',hh,hrel'⟩
  exact hput s' β' w' v d ⟨hh,hR'⟩ hrel' hK
 have hargs:∀ (args:List Operand) (j:Nat) (v:Value) (d:DV),(args.map a.eval)[j]?=some v→(args.map s.rv)[j]?=some d→WV C (Us C s.nx) (s.vw C) β w v d:=by
  intro args j v d hv hd
  simp only [List.getElem?_map,Option.map_eq_some_iff] at hv hd
  obtain ⟨x,hx,rfl⟩:=hv
  obtain ⟨y,hy,rfl⟩:=hd
  rw [hx] at hy; cases hy
  exact hs.b.rvw x
 cases hc:Aj3 C.P o.op with
 | none=>rw [hc] at hop; simp [stepR,hop,exec,execU] at hk
 | some op=>
  rw [hc] at hop
  simp only [Option.getD_some] at hop
  unfold stepR at hk
  rw [hop] at hk
  split at hk
  ·rename_i f args
   obtain ⟨c,ho,hcal,rfl⟩:=Av4 hc
   refine hcallF f (c.args.toList.map a.eval) (c.args.toList.map s.rv) (by simp) (hargs _) hk.1 hk.2 ?_
   simp [execOp,ho,resolve,hcal,Deferred.ofValue,Act.eval,invoke,Af1 hk.1,A10]
  ·rename_i tb x args
   obtain ⟨c,ho,rfl,hcal⟩:=A43 hc
   split at hk
   ·rename_i f fr cs hx0
    rcases hcal with ⟨rfl,hcal⟩ | ⟨name,rfl,hcal⟩
    ·have hx:=Ay1 hx0
     simp only at hx
     have h1:=hs.b.ev x
     rw [hx] at h1
     obtain ⟨us,vs,e1,hl1,hl2,hrel1,hrel2⟩:=A73 h1
     refine hcallF _ (us ++ c.args.toList.map a.eval ++ vs) (fr ++ c.args.toList.map s.rv ++ cs) (by simp [hl1,hl2]) (A98 (by simp [hl1]) (A98 hl1 (fun j v d hv hd=>?_) (hargs _)) fun j v d hv hd=>?_) hk.1 hk.2 ?_
     ·exact hs.b.evp x (hrel1 _ v d hv hd) fun id hi=>by rw [hx,DV.refs,DV.refsL,DV.refs]; exact List.mem_append_left _ (DV.refsL_mem (List.mem_of_getElem? hd) hi)
     ·exact hs.b.evp x (hrel2 _ v d hv hd) fun id hi=>by rw [hx,DV.refs,DV.refsL]; exact List.mem_append_right _ (DV.refsL_mem (List.mem_of_getElem? hd) hi)
     ·have h3:(us.toArray ++ (c.args.map a.eval ++ vs.toArray):Array Value)=(us ++ (c.args.toList.map a.eval ++ vs)).toArray:=by apply Array.ext'; simp
      simp [execOp,ho,resolve,hcal,e1,Deferred.ofValue,invoke]
      rw [h3]
      exact Af1 hk.1 _ _
    ·simp only [DV.tgt] at hx0
     split at hx0
     ·rename_i T e hx
      obtain ⟨f',hlk,hx2⟩:=Option.map_eq_some_iff.1 hx0
      cases hx2
      have h1:=hs.b.ev x
      rw [hx] at h1
      obtain ⟨u,e1,hrel⟩:=Aq4 h1
      refine hcallF _ ([u] ++ c.args.toList.map a.eval) ([e] ++ c.args.toList.map s.rv ++ []) (by simp) (fun j v d hv hd=>?_) hk.1 hk.2 ?_
      ·rw [List.append_nil] at hd
       cases j with
       | zero=>
        simp at hv hd
        subst hv hd
        exact hs.b.evp x hrel fun id hi=>by rw [hx,DV.refs]; exact hi
       | succ j=>exact hargs c.args.toList j v d hv hd
      ·have h3:=An7 (w:=w) hlk hk.1 u (c.args.map a.eval)
       have h4:(#[u] ++ c.args.map a.eval:Array Value)=([u] ++ c.args.toList.map a.eval).toArray:=by apply Array.ext'; simp
       rw [h4] at h3
       have h5:Array.extract (#[a.eval x] ++ c.args.map a.eval) 1 (#[a.eval x] ++ c.args.map a.eval).size=c.args.map a.eval:=by
        apply Array.ext'
        simp [List.extract_eq_take_drop]
        exact List.take_of_length_le (by simp)
       have h6:(#[a.eval x] ++ c.args.map a.eval:Array Value)[0]?=some (.iface T u):=by rw [e1]; first | rfl | simp [Array.getElem?_append]
       simp only [execOp,ho,resolve,hcal,Sem.run_bind,Sem.run_pure,Result.andThen_ok,invoke,h6,h5,h3]
     ·cases hx0
   ·split at hk
    ·rename_i i hi
     have hyl:=(A97 hi).2
     obtain ⟨rfl,_⟩:=A97 hi
     rcases hcal with ⟨_,hcal⟩ | ⟨name,h,_⟩
     rotate_left
     ·cases h
     have h1:=hs.b.ev x
     rw [hyl] at h1
     obtain ⟨b,e1,hb⟩:=A99 h1
     obtain ⟨fn,tmps,assign,body,hy,hround⟩:=Bx1 (vs:=c.args.toList.map a.eval) (ds:=c.args.toList.map s.rv) hs.b hs.r hb (by simp) (hargs _) hk
     refine ⟨fun _ _=>trivial,?_⟩
     have hrun:(execOp a.eval o).run C.P w=.ok (.round b fn tmps assign body) w:=by
      rw [← hy]
      simp [execOp,ho,resolve,hcal,e1,Deferred.ofValue,invoke,A10]
     rw [Oper.semAt_plain _ _ _ hnd,hrun,Oper.uponIn_round]
     refine ⟨fun h=>by simp [Ctx.F,Fence.wide] at h,hround.mono ?_⟩
     rintro e w' ⟨v,d,s',β',rfl,hK,hR',hh,hrel'⟩
     exact hput s' β' w' v d ⟨hh,hR'⟩ hrel' hK
    ·exact hk.elim
  ·rename_i k x
   have ho:=Bi1 hc
   split at hk
   ·rename_i l hl
    obtain ⟨p,hp,nx,w',β',y,h1,h2,h3,h4⟩:=Cl2 (nid:=s.nx) ho hs.b hl
    refine ⟨fun _ _=>trivial,?_⟩
    rw [Oper.semAt_plain _ _ _ hnd,h1]
    have h5:HoldsS C (s.upd s.nx p.2) β' a w':=⟨h3,hs.r⟩
    rcases h2 with rfl | ⟨rfl,rfl⟩
    ·exact hput _ β' w' y p.1 h5 h4 (hk p hp)
    ·exact hput _ β' w' undef p.1 h5 h4 (hk p hp)
   ·exact hk.elim
  ·rename_i hne1 hne2 hne3
   split at hk
   ·rename_i d s' he
    obtain ⟨nx,w',β',x,h1,h2,h3,h4⟩:=hs.exec hc he
    refine ⟨fun _ _=>trivial,?_⟩
    rw [Oper.semAt_plain _ _ _ hnd,h1]
    rcases h2 with rfl | ⟨rfl,rfl⟩
    ·exact hput s' β' w' x d h3 h4 hk
    ·exact hput s' β' w' undef d h3 h4 hk
   ·exact hk.elim
theorem Av5 {dr:Bool} {C:Ctx} {ops:Array Oper} {K:DS→Prop} {Q:Exit→Act→World→Prop} (hQ:∀ s β a w,HoldsS C s β a w→K s→Q .normal a w) :
  ∀ (l:List DR) (i:Nat) (s:DS) (β:Nat→Option Nat) (a:Act) (w:World),(∀ (j:Nat) (r:DR),l[j]?=some r→∃ o,ops[i+j]?=some o∧compR C.P C.nt dr ops o=some r)→
   HoldsS C s β a w→Al8 C.P l s K→wpOpsIn C.F 0 C.P ops Q (List.range' i l.length) a w
 | [],i,s,β,a,w,_,hs,hk=>by simp only [List.length_nil,List.range'_zero,wpOpsIn]; exact hQ s β a w hs hk
 | r :: rest,i,s,β,a,w,hl,hs,hk=>by
  obtain ⟨o,ho,hr⟩:=hl 0 r rfl
  simp only [Nat.add_zero] at ho
  have hrest:∀ (j:Nat) (r':DR),rest[j]?=some r'→∃ o,ops[i+1+j]?=some o∧compR C.P C.nt dr ops o=some r':=fun j r' hj=>by
   have:=hl (j+1) r' (by simpa using hj)
   rwa [show i+(j+1)=i+1+j by omega] at this
  obtain ⟨hd,hdlt,_⟩:=A09 hr
  simp only [Al8] at hk
  simp only [List.length_cons,List.range'_succ,wpOpsIn,ho]
  split at hk
  ·rename_i hw
   rw [if_pos (Av3 hs.b hr hw)]
   exact Bx2 hs hr hk (fun s' β' a' w' h1 h2=>Av5 hQ rest (i+1) s' β' a' w' hrest h1 h2)
  ·rename_i hw
   rw [Av3 hs.b hr hw]
   simp only [Bool.false_eq_true,if_false]
   refine ⟨fun _ _=>trivial,Av5 hQ rest (i+1) _ β _ w hrest ?_ hk⟩
   rw [← hd]
   exact ⟨by rw [DS.nx_put]; exact hs.b.put r.dst hdlt (WV.v undef),by rw [DS.nx_put]; exact hs.r⟩
  ·exact hk.elim
def thenQ (next:DS→Prop) (Q:Exit→DS→Prop):Exit→DS→Prop
 | .normal,s=>next s
 | e,s=>Q e s
def blkQ (id:Nat) (Q:Exit→DS→Prop):Exit→DS→Prop
 | .exit id',s=>if id'=id then Q .normal s else Q (.exit id') s
 | e,s=>Q e s
section rules
variable {C:Ctx} {Q:Exit→DS→Prop} {s:DS}
theorem DW.reg {ops:List DR} {info:RI} (h:Al8 C.P ops s fun s'=>Q .normal s'):DW C (.reg false ops info) Q s:=by
 intro code hc a w ⟨hR,β,hs⟩
 obtain ⟨id,os,rfl,hl,_⟩:=Au1 hc
 obtain ⟨h1,h2⟩:=mapM_some hl
 refine wpIn_region ?_
 have:=Av5 (dr:=false) (ops:=os) (K:=fun s'=>Q .normal s') (Q:=liftQ C Q) (fun s β a w hh hk=>⟨s,hk,.of hh⟩) ops 0 s β a w (fun j r hj=>?_) ⟨hs,hR⟩ h
 ·rw [h1,Array.length_toList,← List.range_eq_range'] at this
  exact this
 ·have hjl:j < os.toList.length:=by have:=(List.getElem?_eq_some_iff.1 hj).1; omega
  have:=h2 j os.toList[j] r (List.getElem?_eq_getElem hjl) hj
  exact ⟨os.toList[j],by simp at hjl ⊢,this⟩
theorem DW.mono {c:DC} {Q':Exit→DS→Prop} (h:DW C c Q s) (hq:∀ e s,Q e s→Q' e s):DW C c Q' s:=
 fun code hc a w hs=>wpIn_mono (h code hc a w hs) fun _ _ _ ⟨s,h1,h2⟩=>⟨s,hq _ _ h1,h2⟩
theorem DW.dfq {t:Nat} {g:FuncId} {cap:List Operand} (hrd:C.rd=none) (h:Q .normal (s.put (some t) (.fn (.func g) (.tup [] :: cap.map s.ev)))):DW C (.dfq t g cap) Q s:=by
 intro code hc a w ⟨hR,β,hs⟩
 obtain ⟨id,os,rfl,hd⟩:=Bj7 hc
 obtain ⟨o,p,first,c,cs,rfl,hop,rfl,hdst,hg,hpop,hpdst,hpg,hcal,hf0,hc0,ht,hq⟩:=Bh1 hd
 have hfe:first = #[]:=Array.eq_empty_of_size_eq_zero hf0
 obtain ⟨nx,w1,β1,x,h1,h2,h3,h4⟩:=B26 hop hs
 rw [hfe] at h4
 have hrun:(execOp a.eval o).run C.P w=.ok (.value (.func (.func g) #[] (cs.map a.eval))) w:=by
  have:first = #[]:=Array.eq_empty_of_size_eq_zero hf0
  simp [execOp,hop,Instr.makeFunc,this]
 rw [hrun] at h1
 cases h1
 have hx:x=.func (.func g) #[] (cs.map a.eval):=by
  rcases h2 with h2 | ⟨h2,_⟩
  ·cases h2; rfl
  ·cases h2
 subst hx
 refine wpIn_region ?_
 have g0:(#[o,p]:Array Oper)[0]?=some o:=rfl
 have g1:(#[o,p]:Array Oper)[1]?=some p:=rfl
 have gw0:∀ y,Region.wanted o y=true:=fun y=>by unfold Region.wanted; rw [hg]
 have gw1:∀ y,Region.wanted p y=true:=fun y=>by unfold Region.wanted; rw [hpg]
 show wpOpsIn C.F 0 C.P #[o,p] (liftQ C Q) [0,1] a w
 simp only [wpOpsIn,g0,g1,gw0,gw1,if_true]
 have hnd:∀ c,o.op≠.defer c:=fun c hc=>by rw [hop] at hc; cases hc
 refine ⟨fun _ _=>trivial,?_⟩
 rw [Oper.semAt_plain _ _ _ hnd,hrun,Oper.uponIn_value,hdst]
 have hp:=h3.put (some t) (fun t' e=>by cases e; exact ht) h4
 have hev:(a.put (some t) (.func (.func g) #[] (cs.map a.eval))).eval (.tmp t)=.func (.func g) #[] (cs.map a.eval):=by
  have:t < a.tmps.size:=by rw [hs.sz]; exact ht
  simp [Act.put,Act.eval,this]
 have hrn:C.F.round=none:=by
  show C.rd=none
  exact hrd
 refine ⟨fun _ _=>trivial,?_⟩
 have hargs:c.args = #[]:=Array.eq_empty_of_size_eq_zero hc0
 have hrun2:(execOp (a.put (some t) (.func (.func g) #[] (cs.map a.eval))).eval p).run C.P w=.ok (.defer { target:=.fn (.func g) (cs.map a.eval),args:=#[] }) w:=by
  simp [execOp,hpop,resolve,hcal,hargs,hev,Deferred.ofValue]
 rw [hrn,Oper.semAt_none,hrun2,Oper.uponIn_defer,hpdst]
 refine ⟨_,h,by rw [DS.nx_put]; exact hR,β1,?_⟩
 rw [DS.nx_put]
 exact ⟨hp.hh,hp.df.quiet ⟨g,_,hq,rfl⟩,hp.sz,hp.sl,hp.gh,hp.yd⟩
theorem DW.skip (h:Q .normal s):DW C .skip Q s:=by
 intro code hc a w hs
 obtain rfl:=Bh2 hc
 exact wpIn_skip ⟨s,h,hs⟩
theorem DW.ret (h:Q .ret s):DW C .ret Q s:=by
 intro code hc a w hs
 obtain rfl:=Bj8 hc
 exact wpIn_ret ⟨s,h,hs⟩
theorem DW.exit {id:Nat} (h:Q (.exit id) s):DW C (.exit id) Q s:=by
 intro code hc a w hs
 obtain rfl:=Bh3 hc
 exact wpIn_exit ⟨s,h,hs⟩
theorem DW.seq {x y:DC} (h:DW C x (thenQ (DW C y Q) Q) s):DW C (.seq x y) Q s:=by
 intro code hc a w hs
 obtain ⟨p,q,rfl,hx,hy⟩:=Bj9 hc
 refine wpIn_seq (wpIn_mono (h p hx a w hs) ?_)
 rintro e a w ⟨s',h1,h2⟩
 cases e <;> first | exact h1 q hy a w h2 | exact ⟨s',h1,h2⟩
theorem DW.cond {x:Operand} {y z:DC} {b:Bool} (hb:s.ev x=.v (.bool b)) (ht:b=true→DW C y Q s) (hf:b=false→DW C z Q s):DW C (.cond x y z) Q s:=by
 intro code hc a w hs
 obtain ⟨p,q,rfl,hy,hz⟩:=Bh4 hc
 have hs0:=hs
 obtain ⟨hR,β,hh⟩:=hs
 have h1:=hh.ev x
 rw [hb] at h1
 exact wpIn_cond_split (rel_v h1) (fun h=>ht h _ hy a w hs0) (fun h=>hf h _ hz a w hs0)
theorem DW.blk {id:Nat} {c:DC} (h:DW C c (blkQ id Q) s):DW C (.blk id c) Q s:=by
 intro code hc a w hs
 obtain ⟨p,rfl,hc'⟩:=Bk0 hc
 refine wpIn_block (wpIn_mono (h _ hc' a w hs) ?_)
 rintro e a w ⟨s',h1,h2⟩
 cases e <;> first | exact ⟨s',h1,h2⟩ | skip
 rename_i id'
 simp only [blkQ] at h1
 simp only [Exit.inBlock]
 split
 ·rename_i he; rw [if_pos he] at h1; exact ⟨s',h1,h2⟩
 ·rename_i he; rw [if_neg he] at h1; exact ⟨s',h1,h2⟩
theorem DW.loop {c:DC} (I:Nat→DS→Prop) (n:Nat) (h0:I n s) (round:∀ n s,I n s→DW C c (thenQ (fun s'=>∃ m,m < n∧I m s') Q) s):DW C (.loop c) Q s:=by
 intro code hc a w hs
 obtain ⟨p,rfl,hc'⟩:=Bh5 hc
 intro b k cs hro hb hr
 have key:∀ (n:Nat) (s:DS),I n s→∀ a w,Holds C s a w→∃ e a' w',liftQ C Q e a' w'∧ArrivesIn (Machine.fenced C.P C.F) C.P (lone (b.atR a (.code p :: .inLoop p :: k)) cs w) b k cs e a' w':=by
  intro n
  induction n using Nat.strongRecOn with
  | _ n ih=>
   intro s hI a w hs
   obtain ⟨e,a₁,w₁,⟨s',h1,h2⟩,harr⟩:=round n s hI _ hc' a w hs b (.inLoop p :: k) cs hro hb hr
   cases e with
   | normal=>
    obtain ⟨m,hm,hI'⟩:=h1
    obtain ⟨e₂,a₂,w₂,hq₂,harr₂⟩:=ih m hm s' hI' a₁ w₁ h2
    exact ⟨e₂,a₂,w₂,hq₂,.of_steps (StepsIn.trans harr (.one (fenced_calm hb hr rfl) stepR_inLoop)) harr₂⟩
   | exit id=>exact ⟨_,a₁,w₁,⟨s',h1,h2⟩,.pass (x:=.inLoop p) rfl (fun _ _=>.inl (by simp)) harr⟩
   | goto l=>exact ⟨_,a₁,w₁,⟨s',h1,h2⟩,.pass (x:=.inLoop p) rfl (fun _ _=>.inl (by simp)) harr⟩
   | ret=>exact ⟨_,a₁,w₁,⟨s',h1,h2⟩,.pass (x:=.inLoop p) rfl (fun _ _=>.inl (by simp)) harr⟩
   | panic ch=>exact ⟨_,a₁,w₁,⟨s',h1,h2⟩,.pass (x:=.inLoop p) rfl (fun _ _=>.inl (by simp)) harr⟩
   | outgrown=>exact ⟨_,a₁,w₁,⟨s',h1,h2⟩,.pass (x:=.inLoop p) rfl (fun _ _=>.inl (by simp)) harr⟩
 obtain ⟨e,a',w',hq,harr⟩:=key n s h0 a w hs
 exact ⟨e,a',w',hq,.of_steps (.one (fenced_calm hb hr rfl) stepR_loop) harr⟩
theorem DW.rng {g:Operand} {ps:List Nat} {x y:DC} {sl:Sl} (hsl:sl.get=s.sv) (hrd:C.rd=none) {f:FuncId} {caps:List DV}
  (hg:(s.ev g).asFn=some (f,caps)) (hcb:Ac7 C.P f=true)
  (h:callI C.P f (.yl s.nx :: caps) { s with ho:=setH s.ho s.nx (some (.loop ⟨C.nt,sl,ps,x,y,.ready,none⟩)),nx:=s.nx+1 } fun s2 _=>∃ lp,s2.ho s.nx=some (.loop lp)∧lp.st≠.busy∧match lp.pend with
   | none=>Q .normal (s2.lay s.nx none)
   | some .ret=>Q .ret (s2.lay s.nx none)
   | some (.exit i)=>Q (.exit i) (s2.lay s.nx none)
   | _=>False):DW C (.rng g ps x y) Q s:=by
 intro code hc a w ⟨hR,β,hs⟩
 obtain ⟨qs,ac,bc,rfl,hqs,hpslt,hx,hy⟩:=Bk1 hc
 refine wpIn_rangeFunc fun fn _=>?_
 have hFr:C.F.round=none:=hrd
 rw [hFr]
 obtain ⟨rec,hrec⟩:∃ rec:Loop,rec = { state:=.ready,pending:=none,fn,tmps:=a.tmps,params:=qs,assign:=ac,body:=bc,defers:=w.heap.size }:=⟨_,rfl⟩
 obtain ⟨w1,hw1⟩:∃ w1,(w.alloc (.deferred (some []))).alloc (.loop rec)=w1:=⟨_,rfl⟩
 have hsz1:w1.heap.size=w.heap.size+2:=by rw [← hw1]; simp
 have hD:w1.heap[w.heap.size]?=some (.deferred (some [])):=by
  rw [← hw1]; exact (Below.heap_alloc _ _ _ (by simp)).trans (World.alloc_heap_new w _)
 have hL:w1.heap[w.heap.size+1]?=some (.loop rec):=by
  rw [← hw1]; have:=World.alloc_heap_new (w.alloc (.deferred (some []))) (.loop rec); rwa [World.size_alloc] at this
 have hbl:Below w.heap.size w w1:=by
  rw [← hw1]; exact ((Below.refl _ w).alloc (Nat.le_refl _) _).alloc (by simp) _
 obtain ⟨id,hid⟩:∃ id,s.nx=id:=⟨_,rfl⟩
 have hfresh:¬ Us C s.nx id:=fun h=>by have:=h.1; omega
 obtain ⟨s1,hs1⟩:∃ s1:DS,{ s with ho:=setH s.ho s.nx (some (.loop ⟨C.nt,sl,ps,x,y,.ready,none⟩)),nx:=s.nx+1 } = s1:=⟨_,rfl⟩
 have hn1:s1.nx=id+1:=by rw [← hs1,← hid]
 have hR1:∀ i,C.R i→i < s1.nx:=fun i hi=>by have:=hR i hi; omega
 have hl1:HoldsB C (Us C s1.nx) s1 (upd β id (some (w.heap.size+1))) a w1:=by
  have ht:=(hs.turned (β':=upd β id (some (w.heap.size+1))) (w':=w1) hfresh none (fun _ h=>by cases h) (.loop ⟨C.nt,sl,ps,x,y,.ready,none⟩) (fun b hb _=>hbl.block b hb) hbl.os hbl.tape hbl.output hbl.size (fun j hj _=>Ae9 β _ hj) (fun _ h=>by cases h)
   (fun b hb=>by rw [upd_same] at hb; cases hb; exact ⟨.inr (by omega),by omega⟩)
   (fun hrel=>by
    subst hrec
    exact ⟨_,_,upd_same _ _ _,hL,hqs,hs.sz,hx,hy,rfl,rfl,fun t=>by rw [hsl]; exact hrel _ _ (hs.sl t)⟩)).1
  have ht':=ht.grow (U':=Us C s1.nx) fun i hi=>by
   rcases hi with hi | rfl
   ·exact ⟨by have:=hi.1; omega,hi.2⟩
   ·exact ⟨by omega,fun hr=>by have:=hR _ hr; omega⟩
  have e:s1.ho=(s.upd id (.mv none (.loop ⟨C.nt,sl,ps,x,y,.ready,none⟩))).ho:=by rw [← hs1,hid]; rfl
  have e2:s1.vw C=(s.upd id (.mv none (.loop ⟨C.nt,sl,ps,x,y,.ready,none⟩))).vw C:=by unfold DS.vw; rw [e]
  have e3:s1.sv=s.sv:=by rw [← hs1]
  obtain ⟨g1,g2,g3,g4,g5,g6⟩:=ht'
  exact ⟨by rw [e2]; exact g1,g2,g3,by rw [e2,e3]; exact g4,by rw [e2]; exact g5,by rw [e]; exact g6⟩
 have hnewD:∀ (d:Deferred) (D:Nat) (β':Nat→Option Nat),Mark C β' w d→d = { target:=.collected D,args:=#[] }→D < w.heap.size:=fun d D β' hm e=>by
  obtain ⟨D',e',h1,_⟩:=hm
  rw [e] at e'
  simp only [Deferred.mk.injEq,Target.collected.injEq,and_true] at e'
  subst e'
  exact (Array.getElem?_eq_some_iff.1 h1).1
 have hs':HoldsB C (Us C s1.nx) s1 (upd β id (some (w.heap.size+1))) { a with defers:=[{ target:=.collected w.heap.size,args:=#[] }] ++ a.defers } w1:=by
  refine ⟨hl1.hh,⟨?_,fun d hd=>?_,hl1.df.out,fun D hD' hM=>?_⟩,hl1.sz,hl1.sl,hl1.gh,hl1.yd⟩
  ·rw [List.singleton_append,List.filter_cons_of_pos (by rfl),List.nodup_cons]
   exact ⟨fun hm=>by have:=hnewD _ _ _ (hs.df.ownC (List.mem_filter.1 hm).1) rfl; omega,hs.df.nodup⟩
  ·rcases List.mem_cons.1 hd with rfl | hd
   ·refine .inl ⟨_,rfl,hD,hs.hh.bel.size,fun j hj=>?_⟩
    by_cases hji:j=id
    ·subst hji; rw [upd_same] at hj; simp at hj
    ·rw [Ae9 β _ hji] at hj; have:=hs.hh.lt hj; omega
   ·exact hl1.df.own d hd
  ·rcases List.mem_cons.1 hD' with e | hD'
   ·simp only [Deferred.mk.injEq,Target.collected.injEq,and_true] at e
    subst e
    have:=hnewD _ _ _ (hs.df.out _ hM) rfl
    omega
   ·exact hs.df.apart D hD' hM
 have hge:=hs.ev g
 have hg':=Bk2 hg
 simp only at hg'
 rw [hg'] at hge
 obtain ⟨us,vs,e1,hus,hl,_,hrel⟩:=A73 hge
 have hus':us=[]:=List.eq_nil_of_length_eq_zero (by simpa using hus)
 subst hus'
 have e1':a.eval g=.func (.func f) #[] vs.toArray:=by rw [← e1]
 -- what was captured is as it was
 have hcap:∀ (j:Nat) (v:Value) (d:DV),vs[j]?=some v→caps[j]?=some d→WV C (Us C s1.nx) (s1.vw C) (upd β id (some (w.heap.size+1))) w1 v d:=fun j v d hv hd=>by
  have h1:=hs.evp g (hrel j v d hv hd) fun i hi=>by rw [hg',DV.refs,DV.refsL]; exact List.mem_append_right _ (DV.refsL_mem (List.mem_of_getElem? hd) hi)
  have ht:=(hs.turned (β':=upd β id (some (w.heap.size+1))) (w':=w1) hfresh none (fun _ h=>by cases h) (.loop ⟨C.nt,sl,ps,x,y,.ready,none⟩) (fun b hb _=>hbl.block b hb) hbl.os hbl.tape hbl.output hbl.size (fun j hj _=>Ae9 β _ hj) (fun _ h=>by cases h)
   (fun b hb=>by rw [upd_same] at hb; cases hb; exact ⟨.inr (by omega),by omega⟩)
   (fun hrel=>by
    subst hrec
    exact ⟨_,_,upd_same _ _ _,hL,hqs,hs.sz,hx,hy,rfl,rfl,fun t=>by rw [hsl]; exact hrel _ _ (hs.sl t)⟩)).2 _ _ h1
  have e2:s1.vw C=(s.upd id (.mv none (.loop ⟨C.nt,sl,ps,x,y,.ready,none⟩))).vw C:=by rw [← hs1,hid]; rfl
  rw [e2]
  refine ht.grow fun i hi=>?_
  rcases hi with hi | rfl
  ·exact ⟨by have:=hi.1; omega,hi.2⟩
  ·exact ⟨by omega,fun hr=>by have:=hR _ hr; omega⟩
 have hho1:s1.ho id=some (.loop ⟨C.nt,sl,ps,x,y,.ready,none⟩):=by rw [← hs1,hid]; simp
 have hyl:WV C (Us C s1.nx) (s1.vw C) (upd β id (some (w.heap.size+1))) w1 (.func (.yield (w.heap.size+1)) #[] #[]) (.yl id):=
  hl1.hh.wv (.yl id _ (upd_same _ _ _)) fun i hi=>by
   obtain rfl:i=id:=by simpa [DV.refs] using hi
   exact Af4 (by rw [hho1]; rfl)
 rw [hs1,hid] at h
 refine ⟨w.heap.size+1,[{ target:=.collected w.heap.size,args:=#[] }],w1,{ target:=.fn (.func f) vs.toArray,args:=#[.func (.yield (w.heap.size+1)) #[] #[]] },w1,f,
  #[.func (.yield (w.heap.size+1)) #[] #[]] ++ vs.toArray,w1,?_,?_,fun _ _=>trivial,?_,fun h=>by simp [Ctx.F,Fence.wide] at h,?_⟩
 ·rw [← hw1,hrec]; exact run_enterLoop_outer _ _ _ _ _
 ·simp only [resolve,e1']
  simp [go_sem]
 ·simp [invoke,Af1 hcb]
 ·refine A06 ?_
  have hk':callI C.P f (.yl id :: caps) s1 fun s2 _=>∃ lp,s2.ho id=some (.loop lp)∧lp.st≠.busy∧match lp.pend with
   | none=>Q .normal (s2.lay id none)
   | some .ret=>Q .ret (s2.lay id none)
   | some (.exit i)=>Q (.exit i) (s2.lay id none)
   | _=>False:=h
  have hX':=hs'
  -- the yield's record goes on lying where it lies: others hold it
  obtain ⟨C2,hC2⟩:∃ C2:Ctx,C2 = { C with X:=fun x d=>C.X x d∨(x=.func (.yield (w.heap.size+1)) #[] #[]∧d=.yl id) }:=⟨_,rfl⟩
  have hsX:HoldsB C2 (Us C2 s1.nx) s1 (upd β id (some (w.heap.size+1))) { a with defers:=[{ target:=.collected w.heap.size,args:=#[] }] ++ a.defers } w1:=by
   obtain ⟨g1,g2,g3,g4,g5,g6⟩:=hs'
   obtain ⟨q1,q2⟩:=HH.ctx (C:=C) (C':=C2) (by rw [hC2]) (by rw [hC2]) (by rw [hC2]) (by rw [hC2]) g1
   have eU:Us C2 s1.nx=Us C s1.nx:=by rw [hC2]; rfl
   have eV:s1.vw C2=s1.vw C:=by rw [hC2]; rfl
   refine ⟨by rw [eU,eV]; exact q1,⟨g2.nodup,fun d hd=>?_,fun D hD=>?_,fun D hD=>?_⟩,by rw [hC2]; exact g3,fun t=>by rw [eU,eV]; exact (q2 _ _).2 (g4 t),fun v d hx=>?_,by rw [hC2]; exact g6⟩
   ·have:=g2.own d hd; rw [hC2]; exact this
   ·rw [hC2] at hD ⊢; exact g2.out D hD
   ·rw [hC2]; exact g2.apart D hD
   ·rw [eU,eV,q2]
    rw [hC2] at hx
    rcases hx with (hx | ⟨rfl,rfl⟩) | hx
    ·exact g5 _ _ (.inl hx)
    ·exact hyl
    ·exact g5 _ _ (.inr hx)
  have hP2:C2.P=C.P:=by rw [hC2]
  have hcall:=Bb0 (C:=C2) (vs:=.func (.yield (w.heap.size+1)) #[] #[] :: vs) (ds:=.yl id :: caps) hsX (by rw [hC2]; exact hR1) (by simp [hl]) (fun j v d hv hd=>by
   have e:∀ v d,WV C2 (Us C2 s1.nx) (s1.vw C2) (upd β id (some (w.heap.size+1))) w1 v d↔WV C (Us C s1.nx) (s1.vw C) (upd β id (some (w.heap.size+1))) w1 v d:=fun v d=>by rw [hC2]; exact Iff.rfl
   rw [e]
   cases j with
   | zero=>simp at hv hd; subst hv hd; exact hyl
   | succ j=>exact hcap j v d (by simpa using hv) (by simpa using hd)) (by rw [hP2]; exact hk')
  rw [hP2] at hcall
  have hargs:(Value.func (.yield (w.heap.size+1)) #[] #[] :: vs).toArray = #[.func (.yield (w.heap.size+1)) #[] #[]] ++ vs.toArray:=by simp
  rw [hargs] at hcall
  refine hcall.mono ?_
  rintro e w3 ⟨v,d,s2,β2,rfl,⟨lp,ho2,hst,hpend⟩,hR2,hs2X,_⟩
  have hb2:β2 id=some (w.heap.size+1):=by
   have h1:=(hs2X.gh (.func (.yield (w.heap.size+1)) #[] #[]) (.yl id) (.inl (by rw [hC2]; exact .inr ⟨rfl,rfl⟩))).2.1 fun i hi=>by
    obtain rfl:i=id:=by simpa [DV.refs] using hi
    exact Af4 (by rw [ho2]; rfl)
   obtain ⟨b2,e,hb2⟩:=A99 h1
   cases e; exact hb2
  have hs2:HoldsB C (Us C s2.nx) s2 β2 { a with defers:=[{ target:=.collected w.heap.size,args:=#[] }] ++ a.defers } w3:=by
   obtain ⟨g1,g2,g3,g4,g5,g6⟩:=hs2X
   obtain ⟨q1,q2⟩:=HH.ctx (C:=C2) (C':=C) (by rw [hC2]) (by rw [hC2]) (by rw [hC2]) (by rw [hC2]) g1
   have eU:Us C2 s2.nx=Us C s2.nx:=by rw [hC2]; rfl
   have eV:s2.vw C2=s2.vw C:=by rw [hC2]; rfl
   rw [eU,eV] at q1 q2
   refine ⟨q1,⟨g2.nodup,fun d hd=>?_,fun D hD=>?_,fun D hD=>?_⟩,by rw [hC2] at g3; exact g3,fun t=>(q2 _ _).2 (by have:=g4 t; rwa [eU,eV] at this),fun v d hx=>(q2 _ _).2 (by have:=g5 v d (hx.imp (fun hx=>by rw [hC2]; exact .inl hx) (fun h=>h)); rwa [eU,eV] at this),by rw [hC2] at g6; exact g6⟩
   ·have:=g2.own d hd; rw [hC2] at this; exact this
   ·have:=g2.out D (by rw [hC2]; exact hD); rw [hC2] at this; exact this
   ·have:=g2.apart D hD; rw [hC2] at this; exact this
  obtain ⟨b',r2,hb',hr2,_,_,_,_,q5,q6,_⟩:=hs2.hh.hp id _ (Ag7 ho2)
  rw [hb2] at hb'; cases hb'
  have hlt2:=(Array.getElem?_eq_some_iff.1 hr2).1
  have hend:=run_endLoop (P:=C.P) hr2 (by rw [q5]; exact hst)
  have hs3:Holds C (s2.lay id none) { a with defers:=[{ target:=.collected w.heap.size,args:=#[] }] ++ a.defers } (w3.putObj (w.heap.size+1) (.loop { r2 with state:=.exhausted })):=by
   -- first the record is written,then it is forgotten
   have hm:=hs2.mark hb2 ho2 hr2 .exhausted r2.pending
   have hless:=hm.hh.less (U':=Us C s2.nx) (V':=(s2.lay id none).vw C) (β':=upd β2 id none) (fun _ h=>h) (fun i=>?_) (fun i=>?_)
   ·refine ⟨by rw [hC2] at hR2; exact hR2,_,hm.carry (s':=s2.lay id none) rfl (fun i o hy=>?_) hless⟩
    by_cases hi:i=id
    ·subst hi; simp
    ·rw [DS.ho_lay_other _ _ hi]; have:=hs2.yd i o hy; exact this
   ·by_cases hi:i=id
    ·subst hi
     refine .inr ⟨upd_same _ _ _,?_⟩
     have:=hs2.apart (i:=i) (by rw [ho2]; rfl)
     simp [DS.vw,vwF,DS.lay,this]
    ·exact .inl (Ae9 _ _ hi)
   ·by_cases hi:i=id
    ·subst hi
     have:=hs2.apart (i:=i) (by rw [ho2]; rfl)
     exact .inr (by simp [DS.vw,vwF,DS.lay,this])
    ·exact .inl (by simp [DS.vw,vwF,DS.lay,setH,hi])
  obtain ⟨w4,hw4⟩:∃ w4,w3.putObj (w.heap.size+1) (.loop { r2 with state:=.exhausted })=w4:=⟨_,rfl⟩
  rw [hw4] at hend hs3
  refine ⟨r2.pending,w4,hend,?_⟩
  rw [q6]
  split at hpend
  ·rename_i hp; rw [hp]; exact ⟨_,hpend,hs3⟩
  ·rename_i hp; rw [hp]; exact wpIn_ret ⟨_,hpend,hs3⟩
  ·rename_i i hp; rw [hp]; exact wpIn_exit ⟨_,hpend,hs3⟩
  ·exact hpend.elim
end rules
end Go.DD

/- Regions that draw their order: one run in the text's order serves every order. The operations that write, and the calls, stand in one order by their edges; what is only made lies by itself; all others read the same at every moment at which they may come. -/
namespace Go.DD
open Go.RowKit (Below)
structure Agree (op:DOp) (s s':DS):Prop where
 ev:∀ x∈op.opnds,s'.ev x=s.ev x
 rv:∀ x∈op.opnds,s'.rv x=s.rv x
 ho:op.rdC=true→∀ x∈op.opnds,∀ id∈(s.ev x).refs,s'.ho id=s.ho id
theorem Ay5 {s s':DS} {dflt:Int} {x:Option Operand} (h:∀ y∈x.toList,s'.ev y=s.ev y):bndD s' dflt x=bndD s dflt x:=by
 cases x with
 | none=>rfl
 | some y=>simp [bndD,h y (by simp)]
theorem Ak6 {nid:Nat} {s s':DS} {op:DOp} (h:Agree op s s'):execU nid s' op=execU nid s op:=by
 obtain ⟨h1,h1',h2⟩:=h
 cases op with
 | bld z ps=>
  have:ps.map (fun p=>(p.1,p.2.1,s'.ev p.2.2))=ps.map fun p=>(p.1,p.2.1,s.ev p.2.2):=
   List.map_congr_left fun p hp=>by rw [h1 p.2.2 (by simp only [DOp.opnds,List.mem_map]; exact ⟨p,hp,rfl⟩)]
  simp only [execU,this]
 | bsl T n es z ps=>
  have:ps.map (fun p=>(p.1,p.2.1,s'.ev p.2.2))=ps.map fun p=>(p.1,p.2.1,s.ev p.2.2):=
   List.map_congr_left fun p hp=>by rw [h1 p.2.2 (by simp only [DOp.opnds,List.mem_map]; exact ⟨p,hp,rfl⟩)]
  simp only [execU,this]
 | mkf f fst cap=>
  have e1:fst.map s'.ev=fst.map s.ev:=List.map_congr_left fun x hx=>h1 x (by simp [DOp.opnds,hx])
  have e2:cap.map s'.ev=cap.map s.ev:=List.map_congr_left fun x hx=>h1 x (by simp [DOp.opnds,hx])
  simp only [execU,e1,e2]
 | sli es x lo hi=>
  have hx:=h1 x (by simp [DOp.opnds])
  have hlo:∀ d,bndD s' d lo=bndD s d lo:=fun d=>Ay5 fun y hy=>h1 y (by simp [DOp.opnds]; exact .inr (.inl (by simpa using hy)))
  have hhi:∀ d,bndD s' d hi=bndD s d hi:=fun d=>Ay5 fun y hy=>h1 y (by simp [DOp.opnds]; exact .inr (.inr (by simpa using hy)))
  simp only [execU,hx,hlo,hhi]
 | sls=>rfl
 | ld k x=>
  have hx:=h1 x (by simp [DOp.opnds])
  have hh:=h2 rfl x (by simp [DOp.opnds])
  simp only [execU,hx]
  split
  ·rfl
  ·rename_i id off e
   rw [hh id (by rw [e]; simp [DV.refs])]
  ·rfl
 | st n p x=>
  have hp:=h1 p (by simp [DOp.opnds])
  have hx:=h1 x (by simp [DOp.opnds])
  have hh:=h2 rfl p (by simp [DOp.opnds])
  simp only [execU,hp,hx]
  split
  ·rename_i id off e
   rw [hh id (by rw [e]; simp [DV.refs])]
  ·rfl
 | app T es bytes d x=>
  have hd:=h1 d (by simp [DOp.opnds])
  have hx:=h1 x (by simp [DOp.opnds])
  have hhd:=h2 rfl d (by simp [DOp.opnds])
  have hhx:=h2 rfl x (by simp [DOp.opnds])
  have e1:dstD s' T es (s.ev d)=dstD s T es (s.ev d):=by
   unfold dstD
   split
   ·rfl
   ·rename_i id n es' e
    rw [hhd id (by rw [e]; simp [DV.refs])]
   ·rfl
  have e2:srcD s' T es (s.ev x)=srcD s T es (s.ev x):=by
   unfold srcD
   split
   ·rfl
   ·rfl
   ·rfl
   ·rename_i id off n es' e
    rw [hhx id (by rw [e]; simp [DV.refs])]
   ·rfl
  simp only [execU,hd,hx,e1,e2]
 | mkm=>rfl
 | lkp kd z x k ok=>
  have hx:=h1 x (by simp [DOp.opnds])
  have hh:=h2 rfl x (by simp [DOp.opnds])
  simp only [execU,hx,h1 k (by simp [DOp.opnds])]
  split
  ·split
   ·split
    ·rfl
    ·rename_i id e
     rw [hh id (by rw [e]; simp [DV.refs])]
    ·rfl
   ·rfl
  ·rfl
 | men=>rfl
 | mes=>rfl
 | rgm=>rfl
 | nxm=>rfl
 | rgs x=>simp only [execU,h1 x (by simp [DOp.opnds])]
 | nxs x=>
  have hx:=h1 x (by simp [DOp.opnds])
  have hh:=h2 rfl x (by simp [DOp.opnds])
  simp only [execU,hx]
  split
  ·rename_i id e
   rw [hh id (by rw [e]; simp [DV.refs])]
  ·rfl
 | mki=>rfl
 | tas=>rfl
 | sla=>rfl
 | cpy es x y=>
  have hx:=h1 x (by simp [DOp.opnds])
  have hy:=h1 y (by simp [DOp.opnds])
  have hhx:=h2 rfl x (by simp [DOp.opnds])
  have hhy:=h2 rfl y (by simp [DOp.opnds])
  have e2:srcC s' es (s.ev y)=srcC s es (s.ev y):=by
   unfold srcC
   split
   ·rfl
   ·rfl
   ·rename_i id off n es' e
    rw [hhy id (by rw [e]; simp [DV.refs])]
   ·rfl
  simp only [execU,hx,hy,e2]
  split
  ·rename_i id off n es' news m e _
   rw [hhx id (by rw [e]; simp [DV.refs])]
  ·rfl
 | mup kd x k y=>
  have hx:=h1 x (by simp [DOp.opnds])
  have hh:=h2 rfl x (by simp [DOp.opnds])
  simp only [execU,hx,h1 k (by simp [DOp.opnds]),h1 y (by simp [DOp.opnds])]
  split
  ·split
   ·split
    ·rename_i id e
     rw [hh id (by rw [e]; simp [DV.refs])]
    ·rfl
   ·rfl
  ·rfl
 | lnm x=>
  have hx:=h1 x (by simp [DOp.opnds])
  have hh:=h2 rfl x (by simp [DOp.opnds])
  simp only [execU,hx]
  split
  ·rfl
  ·rename_i id e
   rw [hh id (by rw [e]; simp [DV.refs])]
  ·rfl
 | mv x=>simp only [execU,h1' x (by simp [DOp.opnds])]
 | pick c p q=>simp only [execU,h1 c (by simp [DOp.opnds]),h1' p (by simp [DOp.opnds]),h1' q (by simp [DOp.opnds])]
 | al T z=>rfl
 | bx T x=>simp only [execU,h1 x (by simp [DOp.opnds])]
 | nck x=>simp only [execU,h1 x (by simp [DOp.opnds])]
 | bin o x y=>simp only [execU,h1 x (by simp [DOp.opnds]),h1 y (by simp [DOp.opnds])]
 | bb o x y=>simp only [execU,h1 x (by simp [DOp.opnds]),h1 y (by simp [DOp.opnds])]
 | eqs o k x y=>simp only [execU,h1 x (by simp [DOp.opnds]),h1 y (by simp [DOp.opnds])]
 | nilq o k x y=>simp only [execU,h1 x (by simp [DOp.opnds]),h1 y (by simp [DOp.opnds])]
 | un o x=>simp only [execU,h1 x (by simp [DOp.opnds])]
 | cvi o x=>simp only [execU,h1 x (by simp [DOp.opnds])]
 | fa o x=>simp only [execU,h1 x (by simp [DOp.opnds])]
 | fld o k x=>simp only [execU,h1 x (by simp [DOp.opnds])]
 | ia es x i=>simp only [execU,h1 x (by simp [DOp.opnds]),h1 i (by simp [DOp.opnds])]
 | ixs x i=>simp only [execU,h1 x (by simp [DOp.opnds]),h1 i (by simp [DOp.opnds])]
 | len x=>simp only [execU,h1 x (by simp [DOp.opnds])]
 | lns x=>simp only [execU,h1 x (by simp [DOp.opnds])]
 | fx n es x i=>simp only [execU,h1 x (by simp [DOp.opnds]),h1 i (by simp [DOp.opnds])]
 | s2b x=>simp only [execU,h1 x (by simp [DOp.opnds])]
 | b2s x=>
  have hx:=h1 x (by simp [DOp.opnds])
  have hhx:=h2 rfl x (by simp [DOp.opnds])
  have e2:srcC s' 1 (s.ev x)=srcC s 1 (s.ev x):=by
   unfold srcC
   split
   ·rfl
   ·rfl
   ·rename_i id off m es' e
    rw [hhx id (by rw [e]; simp [DV.refs])]
   ·rfl
  simp only [execU,hx,e2]
 | frz=>rfl
 | mks T es b z l c=>simp only [execU,h1 l (by simp [DOp.opnds]),h1 c (by simp [DOp.opnds])]
 | ext x i=>simp only [execU,h1 x (by simp [DOp.opnds]),h1' x (by simp [DOp.opnds])]
 | mm o x y=>simp only [execU,h1 x (by simp [DOp.opnds]),h1 y (by simp [DOp.opnds])]
 | call f args=>rfl
 | cv tb f args=>rfl
 | bad=>rfl
theorem As5:∀ (rs:List DR) (acc:List (List Nat)),(ancs rs acc).length=acc.length+rs.length
 | [],acc=>by simp [ancs]
 | r :: rs,acc=>by simp [ancs,As5 rs]; omega
theorem Al9:∀ (rs:List DR) (acc:List (List Nat)) (k:Nat),k < acc.length→(ancs rs acc)[k]?=acc[k]?
 | [],acc,k,_=>rfl
 | r :: rs,acc,k,h=>by
  simp only [ancs]
  rw [Al9 rs _ k (by simp; omega),List.getElem?_append_left h]
theorem A11:∀ (rs:List DR) (acc:List (List Nat)) (k:Nat) (r:DR) (l:List Nat),rs[k]?=some r→(∀ (k:Nat) (r:DR),rs[k]?=some r→∀ j∈r.pre,j < acc.length+k)→(ancs rs acc)[acc.length+k]?=some l→
  ∀ x∈l,x∈r.pre∨∃ j∈r.pre,∃ l',(ancs rs acc)[j]?=some l'∧x∈l'
 | [],acc,k,r,l,h,_,_=>by simp at h
 | r0 :: rs,acc,0,r,l,h,hb,hl=>by
  simp at h; subst h
  intro x hx
  have hl':l=(r0.pre ++ r0.pre.flatMap fun j=>(acc[j]?).getD []).eraseDups:=by
   simp only [ancs] at hl
   rw [Al9 rs _ _ (by simp)] at hl
   simpa using hl.symm
  rw [hl',List.mem_eraseDups,List.mem_append] at hx
  rcases hx with hx | hx
  ·exact .inl hx
  ·obtain ⟨j,hj,hx⟩:=List.mem_flatMap.1 hx
   have hjl:j < acc.length:=hb 0 r0 rfl j hj
   refine .inr ⟨j,hj,acc[j],?_,by simpa [List.getElem?_eq_getElem hjl] using hx⟩
   simp only [ancs]
   rw [Al9 rs _ j (by simp; omega),List.getElem?_append_left hjl,List.getElem?_eq_getElem hjl]
 | r0 :: rs,acc,k+1,r,l,h,hb,hl=>by
  have key:=A11 rs (acc ++ [(r0.pre ++ r0.pre.flatMap fun j=>(acc[j]?).getD []).eraseDups]) k r l (by simpa using h)
   (fun k' r' hr' j hj=>by have:=hb (k'+1) r' (by simpa using hr') j hj; simp; omega)
   (by simp only [ancs] at hl; rw [← hl]; congr 1; simp; omega)
  simpa only [ancs] using key
def unl:List Bool→Nat
 | []=>0
 | b :: bs=>(if b then 0 else 1)+unl bs
theorem Bl6:∀ (l:List Bool) (i:Nat),l[i]?=some false→unl (l.set i true)+1=unl l
 | [],i,h=>by simp at h
 | b :: bs,0,h=>by simp at h; subst h; simp [unl]; omega
 | b :: bs,i+1,h=>by
  have:=Bl6 bs i (by simpa using h)
  simp only [List.set_cons_succ,unl]
  omega
theorem Bb1:∀ (l:List Bool),unl l=0→∀ b∈l,b=true
 | [],_,b,hb=>by cases hb
 | c :: bs,h,b,hb=>by
  simp only [unl] at h
  rcases List.mem_cons.1 hb with rfl | hb
  ·cases b
   ·simp at h
   ·rfl
  ·exact Bb1 bs (by omega) b hb
theorem A77 {rs:List DR} {L:List Bool} (hpre:∀ (k:Nat) (r:DR),rs[k]?=some r→∀ j∈r.pre,j < k) (hcl:∀ (i:Nat) (r:DR),L[i]?=some true→rs[i]?=some r→∀ j∈r.pre,L[j]?=some true) :
  ∀ (i:Nat) (r:DR) (l:List Nat),rs[i]?=some r→(∀ j∈r.pre,L[j]?=some true)→(ancs rs [])[i]?=some l→∀ x∈l,L[x]?=some true:=by
 intro i
 induction i using Nat.strongRecOn with
 | _ i ih=>
  intro r l hr hp hl x hx
  rcases A11 rs [] i r l hr (fun k r' hk j hj=>by have:=hpre k r' hk j hj; simp; omega) (by simpa using hl) x hx with h | ⟨j,hj,l',hl',hx'⟩
  ·exact hp x h
  ·have hji:=hpre i r hr j hj
   have hil:i < rs.length:=(List.getElem?_eq_some_iff.1 hr).1
   have hrj:rs[j]?=some rs[j]:=List.getElem?_eq_getElem (by omega)
   exact ih j hji rs[j] l' hrj (hcl j rs[j] (hp j hj) hrj) hl' x hx'
structure RG where
 d:Nat→DV
 lay:Nat→Option DObj
 tgt:Nat→Option Nat
 ob:Nat→DObj
 main:List Nat
 H:Nat→Nat→Option DObj
 N:Nat→Nat
section
variable (rs:List DR) (s0:DS) (D:RG)
def anR (i:Nat):List Nat:=((ancs rs [])[i]?).getD []
def anB (i j:Nat):Bool:=(anR rs i).contains j
def RG.pr (k j:Nat):Bool:=(D.main.take k).any fun q=>anB rs q j
def RG.unp (k id:Nat):Option Nat:=if s0.nx≤id∧id < s0.nx+rs.length∧(D.lay (id - s0.nx)).isSome=true∧D.pr rs k (id - s0.nx)=false then some (id - s0.nx) else none
def lastW (tgt:Nat→Option Nat) (L:Nat→Bool) (j:Nat):Nat→Option Nat
 | 0=>none
 | n+1=>if tgt n=some j∧L n=true then some n else lastW tgt L j n
def RG.cur (L:Nat→Bool) (j:Nat):Option DObj:=match lastW D.tgt L j rs.length with
 | some w=>some (D.ob w)
 | none=>D.lay j
def RG.full (L:Nat→Bool) (k:Nat):Nat→Option DObj:=fun id=>match D.unp rs s0 k id with
 | some j=>if L j then D.cur rs L j else none
 | none=>D.H k id
def RG.sv (L:Nat→Bool):Nat→DV:=fun t=>match rs.findIdx? (fun r=>r.dst == some t) with
 | some p=>if L p then D.d p else s0.sv t
 | none=>s0.sv t
def RG.at_ (L:Nat→Bool) (k:Nat):DS:=⟨D.sv rs s0 L,D.full rs s0 L k,D.N k⟩
def RG.st (i k:Nat):DS:=D.at_ rs s0 (anB rs i) k
def liveR (s:DS) (r:DR):Prop:=∀ t,.tmp t∈r.op.opnds→s.live (s.sv t)=true
def RG.may (i k:Nat):Prop:=k≤D.main.length∧(∀ (q j:Nat),q < k→D.main[q]?=some j→anB rs j i=false)∧(∀ (q j:Nat),k≤q→D.main[q]?=some j→anB rs i j=false)
def DS.hasU (s:DS):Upd→Bool
 | .wr id _=>(s.ho id).isSome
 | .mv (some id) _=>(s.ho id).isSome
 | _=>true
def callM (P:Program) (f:FuncId) (ds:List DV) (s:DS) (d:DV) (H':Nat→Option DObj) (n':Nat):Prop:=
 Ac7 P f=true∧(callI P f ds s (fun s' d'=>d'=d∧s'.ho=H'∧s'.nx=n')∨(H'=s.ho∧n'=s.nx∧(∀ x∈ds,x.refs=[])∧DCall P f ds fun d'=>d'=d))
def RG.ev (P:Program) (i:Nat) (r:DR):Prop:=
 match (D.st rs s0 i 0).wanted r.g with
 | none=>False
 | some false=>D.d i=.v undef∧D.lay i=none∧D.tgt i=none∧i∉D.main
 | some true=>match r.op with
  | .call f args=>∃ k,D.main[k]?=some i∧liveR (D.st rs s0 i k) r∧callM P f (args.map (D.st rs s0 i k).rv) (D.st rs s0 i k) (D.d i) (D.H (k+1)) (D.N (k+1))
  | .cv tb x args=>∃ k f fr cs,D.main[k]?=some i∧liveR (D.st rs s0 i k) r∧((D.st rs s0 i k).ev x).tgt tb=some (f,fr,cs)∧callM P f (fr ++ args.map (D.st rs s0 i k).rv ++ cs) (D.st rs s0 i k) (D.d i) (D.H (k+1)) (D.N (k+1))
  | op=>(∃ k u,D.main[k]?=some i∧liveR (D.st rs s0 i k) r∧(D.st rs s0 i k).hasU u=true∧execU (D.N k) (D.st rs s0 i k) op=some (D.d i,u)∧D.H (k+1)=u.app (D.N k) (D.st rs s0 i k).ho∧D.N (k+1)=if u.new then D.N k+1 else D.N k)∨
    (i∉D.main∧∀ k,D.may rs i k→liveR (D.st rs s0 i k) r∧∃ u,execU (s0.nx+i) (D.st rs s0 i k) op=some (D.d i,u)∧match u with
     | .keep=>D.lay i=none∧D.tgt i=none
     | .lay o=>D.lay i=some o∧D.tgt i=none
     | .wr id o=>∃ j,D.unp rs s0 k id=some j∧anB rs i j=true∧D.tgt i=some j∧D.ob i=o∧D.lay i=none
     | _=>False)
structure RG.OKs:Prop where
 pre:∀ (k:Nat) (r:DR),rs[k]?=some r→∀ j∈r.pre,j < k
 dst:∀ (i j:Nat) (r r':DR) (t:Nat),rs[i]?=some r→rs[j]?=some r'→r.dst=some t→r'.dst=some t→i=j
 rd:∀ (i:Nat) (r:DR) (t p:Nat),rs[i]?=some r→t∈r.tmps→rs.findIdx? (fun r=>r.dst == some t)=some p→anB rs i p=true∨anB rs p i=true∨p=i
 chain:∀ (a b i j:Nat),D.main[a]?=some i→D.main[b]?=some j→a < b→anB rs j i=true
 mlt:∀ (a i:Nat),D.main[a]?=some i→i < rs.length∧D.lay i=none∧D.tgt i=none
 wr1:∀ (w j:Nat),D.tgt w=some j→anB rs w j=true
 wr2:∀ (i j w:Nat),i < rs.length→w < rs.length→anB rs i j=true→D.tgt w=some j→anB rs i w=true∨anB rs w i=true∨w=i
 h0:D.H 0=s0.ho
 n0:D.N 0=s0.nx+rs.length
 mono:∀ k,D.N k≤D.N (k+1)
structure RG.OK (P:Program):Prop extends RG.OKs rs s0 D where
 ev:∀ (i:Nat) (r:DR),rs[i]?=some r→D.ev rs s0 P i r
end
end Go.DD

/- Regions that draw their order, second part: the theorem. -/
namespace Go.DD
open Go.RowKit (Below)
theorem HoldsB.congr {C:Ctx} {U:Nat→Prop} {s s':DS} {β:Nat→Option Nat} {a:Act} {w:World} (h:HoldsB C U s β a w) (h1:s'.sv=s.sv) (h2:s'.ho=s.ho):HoldsB C U s' β a w:=by
 have e:s'.vw C=s.vw C:=by unfold DS.vw; rw [h2]
 obtain ⟨g1,g2,g3,g4,g5,g6⟩:=h
 exact ⟨by rw [e]; exact g1,g2,g3,by rw [e,h1]; exact g4,by rw [e]; exact g5,by rw [h2]; exact g6⟩
section
variable {C:Ctx} {rs:List DR} {s0:DS} {D:RG} {L L':Nat→Bool} {i k:Nat} {r:DR}
theorem A44 (hOK:D.OKs rs s0) {i j:Nat} (hi:i < rs.length) (h:anB rs i j=true):j < i:=by
 have key:∀ (i:Nat),i < rs.length→∀ j∈anR rs i,j < i:=by
  intro i
  induction i using Nat.strongRecOn with
  | _ i ih=>
   intro hi j hj
   have hil:i < (ancs rs []).length:=by rw [As5]; simpa using hi
   have hr:rs[i]?=some rs[i]:=List.getElem?_eq_getElem hi
   have hl:(ancs rs [])[i]?=some (anR rs i):=by simp [anR,List.getElem?_eq_getElem hil]
   rcases A11 rs [] i rs[i] _ hr (fun k r' hk j hj=>by have:=hOK.pre k r' hk j hj; simp; omega) (by simpa using hl) j hj with h | ⟨x,hx,l',hl',hjx⟩
   ·exact hOK.pre i _ hr j h
   ·have h1:=hOK.pre i _ hr x hx
    have:=ih x h1 (by omega) j (by simp only [anR,hl',Option.getD_some]; exact hjx)
    omega
 exact key i hi j (by simpa [anB] using h)
theorem Ay6 {tgt:Nat→Option Nat} {L:Nat→Bool} {j:Nat} : ∀ {n w:Nat},lastW tgt L j n=some w→w < n∧tgt w=some j∧L w=true
 | 0,w,h=>by cases h
 | n+1,w,h=>by
  simp only [lastW] at h
  split at h
  ·rename_i hc; cases h; exact ⟨by omega,hc.1,hc.2⟩
  ·have:=Ay6 h; exact ⟨by omega,this.2⟩
theorem Ai7 {tgt:Nat→Option Nat} {L L':Nat→Bool} {j:Nat} : ∀ {n:Nat},(∀ w,w < n→tgt w=some j→L' w=L w)→lastW tgt L' j n=lastW tgt L j n
 | 0,h=>rfl
 | n+1,h=>by
  simp only [lastW]
  rw [Ai7 (n:=n) fun w hw=>h w (by omega)]
  by_cases ht:tgt n=some j
  ·rw [h n (by omega) ht]
  ·simp [ht]
theorem A45 {tgt:Nat→Option Nat} {L:Nat→Bool} {j i:Nat} (ht:tgt i=some j) (hL:L i=true):∀ {n:Nat},i < n→(∀ w,w < n→i < w→tgt w=some j→L w=false)→lastW tgt L j n=some i
 | 0,h,_=>by omega
 | n+1,h,hl=>by
  simp only [lastW]
  by_cases hn:i=n
  ·subst hn; rw [if_pos ⟨ht,hL⟩]
  ·have hc:¬ (tgt n=some j∧L n=true):=fun ⟨h1,h2⟩=>by rw [hl n (by omega) (by omega) h1] at h2; cases h2
   rw [if_neg hc]
   exact A45 ht hL (by omega) fun w hw=>hl w (by omega)
theorem Bb2 {L:Nat→Bool} {j:Nat} (h:(D.lay j).isSome=true):(D.cur rs L j).isSome=true:=by
 unfold RG.cur
 split
 ·rfl
 ·exact h
structure Done (rs:List DR) (D:RG) (L:Nat→Bool) (k:Nat):Prop where
 cl:∀ i,i < rs.length→L i=true→∀ j,anB rs i j=true→L j=true
 le:k≤D.main.length
 mn:∀ (q j:Nat),D.main[q]?=some j→(L j=true↔q < k)
variable (hOK:D.OKs rs s0) (hD:Done rs D L k) (hr:rs[i]?=some r) (hi:L i=false) (han:∀ j,anB rs i j=true→L j=true)
include hOK hr
omit hOK in
theorem ri_lt:i < rs.length:=(List.getElem?_eq_some_iff.1 hr).1
include hD hi han
omit hr in
theorem A12:D.may rs i k:=by
 refine ⟨hD.le,fun q j hq hj=>?_,fun q j hq hj=>?_⟩
 ·cases h:anB rs j i with
  | false=>rfl
  | true=>have:=hD.cl j (hOK.mlt q j hj).1 ((hD.mn q j hj).2 hq) i h; rw [hi] at this; cases this
 ·cases h:anB rs i j with
  | false=>rfl
  | true=>have:=(hD.mn q j hj).1 (han j h); omega
omit hr in
theorem As6 {k0:Nat} (h:D.main[k0]?=some i):k0=k:=by
 have h1:¬ k0 < k:=fun hlt=>by have:=(hD.mn k0 i h).2 hlt; rw [hi] at this; cases this
 rcases Nat.lt_or_ge k k0 with hlt | hge
 ·have hk:k < D.main.length:=by have:=(List.getElem?_eq_some_iff.1 h).1; omega
  have hm:D.main[k]?=some D.main[k]:=List.getElem?_eq_getElem hk
  have:=(hD.mn k _ hm).1 (han _ (hOK.chain k k0 _ _ hm h hlt))
  omega
 ·omega
theorem Bb3 (t:Nat) (ht:t∈r.tmps):D.sv rs s0 L t=D.sv rs s0 (anB rs i) t:=by
 unfold RG.sv
 cases hp:rs.findIdx? (fun r=>r.dst == some t) with
 | none=>rfl
 | some p=>
  simp only
  have hpl:p < rs.length:=(List.findIdx?_eq_some_iff_findIdx_eq.1 hp).1
  rcases hOK.rd i r t p hr ht hp with h | h | rfl
  ·rw [if_pos (han p h),if_pos h]
  ·have h1:anB rs i p=false:=by
    cases hx:anB rs i p with
    | false=>rfl
    | true=>
     have h2:=A44 hOK (ri_lt hr) hx
     have h3:=A44 hOK hpl h
     omega
   have h2:L p=false:=by
    cases hx:L p with
    | false=>rfl
    | true=>have:=hD.cl p hpl hx i h; rw [hi] at this; cases this
   rw [h1,h2]
  ·have h1:anB rs p p=false:=by
    cases hx:anB rs p p with
    | false=>rfl
    | true=>have:=A44 hOK (ri_lt hr) hx; omega
   rw [h1,hi]
theorem Bb4 {j:Nat} (ha:anB rs i j=true):D.cur rs (anB rs i) j=D.cur rs L j:=by
 unfold RG.cur
 rw [Ai7 (L:=L) (L':=anB rs i) fun w hw ht=>?_]
 rcases hOK.wr2 i j w (ri_lt hr) hw ha ht with h | h | rfl
 ·rw [h,han w h]
 ·have h1:L w=false:=by
   cases hx:L w with
   | false=>rfl
   | true=>have:=hD.cl w hw hx i h; rw [hi] at this; cases this
  have h2:anB rs i w=false:=by
   cases hx:anB rs i w with
   | false=>rfl
   | true=>have:=han w hx; rw [h1] at this; cases this
  rw [h1,h2]
 ·have h2:anB rs w w=false:=by
   cases hx:anB rs w w with
   | false=>rfl
   | true=>have:=A44 hOK hw hx; omega
  rw [h2,hi]
theorem Bb5 {id:Nat} {o:DObj} (h:D.full rs s0 (anB rs i) k id=some o):D.full rs s0 L k id=some o:=by
 unfold RG.full at h ⊢
 split at h
 ·rename_i j hj
  split at h
  ·rename_i ha; rw [if_pos (han j ha),← Bb4 hOK hD hr hi han ha]; exact h
  ·cases h
 ·exact h
theorem Bi3:(D.at_ rs s0 L k).wanted r.g=(D.st rs s0 i 0).wanted r.g:=by
 unfold DS.wanted
 cases hg:r.g with
 | none=>rfl
 | some p=>
  obtain ⟨t,b⟩:=p
  have:=Bb3 hOK hD hr hi han t (by simp [DR.tmps,hg])
  simp only [RG.st,RG.at_,this]
theorem Ap4 (hl:liveR (D.st rs s0 i k) r):Agree r.op (D.st rs s0 i k) (D.at_ rs s0 L k):=by
 have hev:∀ x∈r.op.opnds,(D.at_ rs s0 L k).ev x=(D.st rs s0 i k).ev x:=fun x hx=>by
  cases x with
  | tmp t=>
   have h1:D.sv rs s0 L t=D.sv rs s0 (anB rs i) t:=Bb3 hOK hD hr hi han t (by
    simp only [DR.tmps,List.mem_append,List.mem_filterMap]
    exact .inl ⟨_,hx,rfl⟩)
   have h2:=hl t hx
   have h3:(D.at_ rs s0 L k).live ((D.at_ rs s0 L k).sv t)=true:=by
    have e:(D.at_ rs s0 L k).sv t=(D.st rs s0 i k).sv t:=h1
    rw [e]
    refine List.all_eq_true.2 fun id hid=>?_
    have h4:=List.all_eq_true.1 h2 id hid
    obtain ⟨o,ho⟩:=Option.isSome_iff_exists.1 h4
    have:=Bb5 hOK hD hr hi han (id:=id) (o:=o) ho
    show (D.full rs s0 L k id).isSome=true
    rw [this]; rfl
   simp only [DS.ev]
   rw [if_pos h3,if_pos h2]
   exact h1
  | _=>rfl
 have hrv:∀ x∈r.op.opnds,(D.at_ rs s0 L k).rv x=(D.st rs s0 i k).rv x:=fun x hx=>by
  cases x with
  | tmp t=>exact Bb3 hOK hD hr hi han t (by
    simp only [DR.tmps,List.mem_append,List.mem_filterMap]
    exact .inl ⟨_,hx,rfl⟩)
  | _=>rfl
 refine ⟨hev,hrv,fun _ x hx id hid=>?_⟩
 have h4:=HoldsB.eva (s:=D.st rs s0 i k) x id hid
 obtain ⟨o,ho⟩:=Option.isSome_iff_exists.1 h4
 have:=Bb5 hOK hD hr hi han (id:=id) (o:=o) ho
 exact this.trans ho.symm
omit hD hi han in
theorem Bl7 (hL':∀ j,L' j=(j == i || L j)) (k':Nat) (s:DS) (hs:s.sv=D.sv rs s0 L) (hh:s.ho=D.full rs s0 L' k'):(D.at_ rs s0 L' k').sv=(s.put r.dst (D.d i)).sv∧(D.at_ rs s0 L' k').ho=(s.put r.dst (D.d i)).ho:=by
 refine ⟨?_,by rw [DS.ho_put,hh]; rfl⟩
 funext t
 show D.sv rs s0 L' t=_
 have hdst:∀ p,rs.findIdx? (fun r=>r.dst == some t)=some p→∃ r',rs[p]?=some r'∧r'.dst=some t:=fun p hp=>by
  obtain ⟨h1,h2⟩:=List.findIdx?_eq_some_iff_findIdx_eq.1 hp
  have h3:=List.findIdx_getElem (xs:=rs) (p:=fun r=>r.dst == some t) (w:=by omega)
  subst h2
  exact ⟨_,List.getElem?_eq_getElem h1,by simpa using h3⟩
 have hother:r.dst≠some t→D.sv rs s0 L' t=D.sv rs s0 L t:=fun hne=>by
  unfold RG.sv
  cases hp:rs.findIdx? (fun r=>r.dst == some t) with
  | none=>rfl
  | some p=>
   obtain ⟨r',h1,h2⟩:=hdst p hp
   have hpi:p≠i:=fun e=>by subst e; rw [hr] at h1; cases h1; exact hne h2
   simp [hL',hpi]
 cases hd:r.dst with
 | none=>
  rw [hother (by rw [hd]; simp)]
  show _=s.sv t
  rw [hs]
 | some u=>
  by_cases hu:u=t
  ·subst hu
   rw [DS.sv_put_same]
   unfold RG.sv
   cases hp:rs.findIdx? (fun r=>r.dst == some u) with
   | none=>
    have:=List.findIdx?_eq_none_iff.1 hp r (List.mem_of_getElem? hr)
    simp [hd] at this
   | some p=>
    obtain ⟨r',h1,h2⟩:=hdst p hp
    have:p=i:=hOK.dst p i r' r u h1 hr h2 hd
    subst this
    simp [hL']
  ·rw [DS.sv_put_other _ _ hu,hother (by rw [hd]; simpa using hu),hs]
omit hr hi han in
theorem A78 {j:Nat} (hj:D.lay j≠none) (hjl:j < rs.length) (hLj:L j=false):D.unp rs s0 k (s0.nx+j)=some j:=by
 unfold RG.unp
 have e:s0.nx+j - s0.nx=j:=by omega
 rw [e]
 rw [if_pos]
 refine ⟨by omega,by omega,Option.isSome_iff_ne_none.2 hj,?_⟩
 cases h:D.pr rs k j with
 | false=>rfl
 | true=>
  unfold RG.pr at h
  obtain ⟨q,hq,hqa⟩:=List.any_eq_true.1 h
  obtain ⟨p,hp,rfl⟩:=List.mem_iff_getElem.1 hq
  have hpk:p < k∧p < D.main.length:=by rw [List.length_take] at hp; omega
  have hm:D.main[p]?=some (D.main.take k)[p]:=by
   rw [List.getElem_take]; exact List.getElem?_eq_getElem hpk.2
  have:=hD.cl _ (hOK.mlt p _ hm).1 ((hD.mn p _ hm).2 hpk.1) j hqa
  rw [hLj] at this; cases this
omit hOK hD hr hi han in
theorem Ag2 {id j:Nat} (h:D.unp rs s0 k id=some j):id=s0.nx+j∧j < rs.length∧(D.lay j).isSome=true∧D.pr rs k j=false:=by
 unfold RG.unp at h
 split at h
 ·rename_i hc
  cases h
  exact ⟨by omega,by omega,hc.2.2.1,hc.2.2.2⟩
 ·cases h
omit hOK hD hr hi han in
theorem As7 (hL':∀ j,L' j=(j == i || L j)) {j:Nat} (ht:D.tgt i≠some j):D.cur rs L' j=D.cur rs L j:=by
 unfold RG.cur
 rw [Ai7 (L:=L) (L':=L') fun w _ hw=>by
  have hwi:w≠i:=fun e=>ht (by rw [← e]; exact hw)
  rw [hL',beq_eq_false_iff_ne.2 hwi,Bool.false_or]]
omit han in
theorem Bb6 (hL':∀ j,L' j=(j == i || L j)) {o:DObj} (ho:D.lay i=some o) (ht:D.tgt i=none):D.full rs s0 L' k=setH (D.full rs s0 L k) (s0.nx+i) (some o):=by
 funext id
 by_cases hid:id=s0.nx+i
 ·subst hid
  rw [setH_same]
  unfold RG.full
  rw [A78 hOK hD (by rw [ho]; simp) (ri_lt hr) hi]
  have hc:D.cur rs L' i=some o:=by
   unfold RG.cur
   cases hl:lastW D.tgt L' i rs.length with
   | none=>exact ho
   | some w=>
    exfalso
    obtain ⟨h1,h2,h3⟩:=Ay6 hl
    have hwi:w≠i:=fun e=>by rw [e,ht] at h2; cases h2
    rw [hL',beq_eq_false_iff_ne.2 hwi,Bool.false_or] at h3
    have:=hD.cl w h1 h3 i (hOK.wr1 w i h2)
    rw [hi] at this; cases this
  simp [hL',hc]
 ·rw [Ae2 _ _ hid]
  unfold RG.full
  cases hu:D.unp rs s0 k id with
  | none=>rfl
  | some j=>
   have hji:j≠i:=fun e=>hid (by rw [(Ag2 hu).1,e])
   simp only [As7 hL' (j:=j) (by rw [ht]; simp)]
   simp [hL',hji]
theorem Bl8 (hL':∀ j,L' j=(j == i || L j)) {id0 j:Nat} (hu0:D.unp rs s0 k id0=some j) (ha:anB rs i j=true) (ht:D.tgt i=some j) (hlay:D.lay i=none):D.full rs s0 L' k=setH (D.full rs s0 L k) id0 (some (D.ob i)):=by
 funext id
 by_cases hid:id=id0
 ·subst hid
  rw [setH_same]
  unfold RG.full
  rw [hu0]
  have hLj:L' j=true:=by rw [hL',han j ha]; simp
  have hc:D.cur rs L' j=some (D.ob i):=by
   unfold RG.cur
   rw [A45 ht (by rw [hL']; simp) (ri_lt hr) fun w hw hiw hwt=>?_]
   rw [hL',beq_eq_false_iff_ne.2 (by omega),Bool.false_or]
   cases hx:L w with
   | false=>rfl
   | true=>
    rcases hOK.wr2 i j w (ri_lt hr) hw ha hwt with h | h | h
    ·have:=A44 hOK (ri_lt hr) h; omega
    ·have:=hD.cl w hw hx i h; rw [hi] at this; cases this
    ·omega
  simp [hLj,hc]
 ·rw [Ae2 _ _ hid]
  unfold RG.full
  cases hu:D.unp rs s0 k id with
  | none=>rfl
  | some j'=>
   have hjj:j'≠j:=fun e=>hid (by rw [(Ag2 hu).1,(Ag2 hu0).1,e])
   have hji:j'≠i:=fun e=>by have:=(Ag2 hu).2.2.1; rw [e,hlay] at this; cases this
   simp only [As7 hL' (j:=j') (by rw [ht]; simpa using fun e=>hjj e.symm)]
   simp [hL',hji]
omit hOK hD hr hi han in
theorem Ap5 (hL':∀ j,L' j=(j == i || L j)) (ho:D.lay i=none) (ht:D.tgt i=none):D.full rs s0 L' k=D.full rs s0 L k:=by
 funext id
 unfold RG.full
 cases hu:D.unp rs s0 k id with
 | none=>rfl
 | some j=>
  have hji:j≠i:=fun e=>by have:=(Ag2 hu).2.2.1; rw [e,ho] at this; cases this
  simp only [As7 hL' (j:=j) (by rw [ht]; simp)]
  simp [hL',hji]
omit hOK hD hr hi han in
theorem Av6 (hm:D.main[k]?=some i) (j:Nat):D.pr rs (k+1) j=(D.pr rs k j || anB rs i j):=by
 unfold RG.pr
 rw [List.take_add_one,hm]
 simp
omit hOK hD hr hi han in
theorem Av7 (hL':∀ j,L' j=(j == i || L j)) (hm:D.main[k]?=some i) (hlay:D.lay i=none) (ht:D.tgt i=none) (id:Nat):D.full rs s0 L' (k+1) id=match D.unp rs s0 k id with
  | some j=>if anB rs i j then D.H (k+1) id else if L j then D.cur rs L j else none
  | none=>D.H (k+1) id:=by
 cases hu:D.unp rs s0 k id with
 | none=>
  have:D.unp rs s0 (k+1) id=none:=by
   cases h:D.unp rs s0 (k+1) id with
   | none=>rfl
   | some j=>
    obtain ⟨e1,e2,e3,e4⟩:=Ag2 h
    rw [Av6 hm,Bool.or_eq_false_iff] at e4
    have:D.unp rs s0 k id=some j:=by
     unfold RG.unp
     have e:id - s0.nx=j:=by omega
     rw [e,if_pos ⟨by omega,by omega,e3,e4.1⟩]
    rw [hu] at this; cases this
  unfold RG.full
  rw [this]
 | some j=>
  obtain ⟨e1,e2,e3,e4⟩:=Ag2 hu
  have e:id - s0.nx=j:=by omega
  simp only
  by_cases ha:anB rs i j=true
  ·rw [if_pos ha]
   have:D.unp rs s0 (k+1) id=none:=by
    unfold RG.unp
    rw [e,if_neg (fun hc=>by rw [Av6 hm,ha] at hc; simp at hc)]
   unfold RG.full
   rw [this]
  ·rw [if_neg ha]
   have:D.unp rs s0 (k+1) id=some j:=by
    unfold RG.unp
    rw [e,if_pos ⟨by omega,by omega,e3,by rw [Av6 hm,e4]; simpa using ha⟩]
   unfold RG.full
   rw [this]
   have hji:j≠i:=fun e=>by rw [e,hlay] at e3; cases e3
   simp only [As7 hL' (j:=j) (by rw [ht]; simp)]
   simp [hL',hji]
theorem Av8 (id:Nat):D.full rs s0 (anB rs i) k id=match D.unp rs s0 k id with
  | some j=>if anB rs i j then D.full rs s0 L k id else none
  | none=>D.full rs s0 L k id:=by
 unfold RG.full
 cases hu:D.unp rs s0 k id with
 | none=>rfl
 | some j=>
  simp only
  by_cases ha:anB rs i j=true
  ·rw [if_pos ha,if_pos ha,if_pos (han j ha),Bb4 hOK hD hr hi han ha]
  ·rw [if_neg ha,if_neg ha]
theorem Bb7 (hL':∀ j,L' j=(j == i || L j)) (hm:D.main[k]?=some i) (hlay:D.lay i=none) (ht:D.tgt i=none) {u:Upd} (hN:s0.nx+rs.length≤D.N k) (hU:(D.st rs s0 i k).hasU u=true)
  (hH:D.H (k+1)=u.app (D.N k) (D.st rs s0 i k).ho):D.full rs s0 L' (k+1)=u.app (D.N k) (D.full rs s0 L k):=by
 have hunpN:D.unp rs s0 k (D.N k)=none:=by
  unfold RG.unp
  rw [if_neg]
  intro hc; omega
 have hview:=Av8 (D:=D) (rs:=rs) (s0:=s0) (L:=L) (k:=k) hOK hD hr hi han
 have hst:(D.st rs s0 i k).ho=D.full rs s0 (anB rs i) k:=rfl
 rw [hst] at hH
 funext id
 rw [Av7 hL' hm hlay ht]
 have hbase:∀ id,(match D.unp rs s0 k id with
  | some j=>if anB rs i j then D.full rs s0 (anB rs i) k id else if L j then D.cur rs L j else none
  | none=>D.full rs s0 (anB rs i) k id)=D.full rs s0 L k id:=fun id=>by
  rw [hview id]
  cases hu:D.unp rs s0 k id with
  | none=>rfl
  | some j=>
   simp only
   by_cases ha:anB rs i j=true
   ·rw [if_pos ha,if_pos ha]
   ·rw [if_neg ha]; unfold RG.full; rw [hu]
 have hseen:∀ id0,(D.full rs s0 (anB rs i) k id0).isSome=true→∀ j,D.unp rs s0 k id0=some j→anB rs i j=true:=fun id0 h j hj=>by
  rw [hview,hj] at h
  simp only at h
  split at h
  ·assumption
  ·cases h
 -- a change at one number
 have hset:∀ (ho ho':Nat→Option DObj) (id0:Nat) (x:Option DObj),(∀ j,D.unp rs s0 k id0=some j→anB rs i j=true)→
   (∀ id,(match D.unp rs s0 k id with
    | some j=>if anB rs i j then ho id else if L j then D.cur rs L j else none
    | none=>ho id)=ho' id)→
   ∀ id,(match D.unp rs s0 k id with
    | some j=>if anB rs i j then setH ho id0 x id else if L j then D.cur rs L j else none
    | none=>setH ho id0 x id)=setH ho' id0 x id:=fun ho ho' id0 x h1 h2 id=>by
  by_cases he:id=id0
  ·subst he
   rw [setH_same,setH_same]
   cases hu:D.unp rs s0 k id with
   | none=>rfl
   | some j=>simp only; rw [if_pos (h1 j hu)]
  ·rw [Ae2 _ _ he,Ae2 _ _ he]; exact h2 id
 rw [hH]
 cases u with
 | keep=>exact hbase id
 | lay o=>exact hset _ _ _ _ (fun j hj=>by rw [hunpN] at hj; cases hj) hbase id
 | wr id0 o=>exact hset _ _ _ _ (hseen id0 hU) hbase id
 | mv old o=>
  cases old with
  | none=>exact hset _ _ _ _ (fun j hj=>by rw [hunpN] at hj; cases hj) hbase id
  | some id0=>exact hset _ _ _ _ (fun j hj=>by rw [hunpN] at hj; cases hj) (hset _ _ _ _ (hseen id0 hU) hbase) id
end
def Ur (C:Ctx) (rs:List DR) (s0:DS) (D:RG) (L:Nat→Bool) (k id:Nat):Prop:=id < D.N k∧¬ (C.R id∨(s0.nx≤id∧id < s0.nx+rs.length∧L (id - s0.nx)=false))
theorem N_ge {rs:List DR} {s0:DS} {D:RG} (hOK:D.OKs rs s0):∀ k,s0.nx+rs.length≤D.N k
 | 0=>by rw [hOK.n0]; omega
 | k+1=>Nat.le_trans (N_ge hOK k) (hOK.mono k)
theorem A46 {C:Ctx} {U:Nat→Prop} {a:Act} {w:World} {o:Oper} {d:DV} {s':DS} {next:Act→World→Prop} {Q:Exit→Act→World→Prop} (hnd:∀ c,o.op≠.defer c) (h:OpOk C U a w o d s')
  (hnext:∀ β' w' x,HoldsB C U s' β' a w'→WV C U (s'.vw C) β' w' x d→next (a.put o.dst x) w'):o.wpIn C.F 0 C.P a w next Q:=by
 obtain ⟨nx,w',β',x,h1,h2,h3,h4⟩:=h
 refine ⟨fun _ _=>trivial,?_⟩
 rw [Oper.semAt_plain _ _ _ hnd,h1]
 rcases h2 with rfl | ⟨rfl,rfl⟩
 ·exact hnext β' w' x h3 h4
 ·exact hnext β' w' undef h3 h4
theorem A47 {C:Ctx} {a:Act} {w:World} {o:Oper} {f:FuncId} {vs:Array Value} {R:Ending→World→Prop} {next:Act→World→Prop} {Q:Exit→Act→World→Prop} (hnd:∀ c,o.op≠.defer c)
  (hrun:(execOp a.eval o).run C.P w=.ok (.enter f vs) w) (hc:Calls C.P f vs w R) (hnext:∀ e w',R e w'→∃ v,e=.returned v∧next (a.put o.dst v) w'):o.wpIn C.F 0 C.P a w next Q:=by
 refine ⟨fun _ _=>trivial,?_⟩
 rw [Oper.semAt_plain _ _ _ hnd,hrun,Oper.uponIn_enter]
 refine ⟨fun h=>by simp [Ctx.F,Fence.wide] at h,A06 (hc.mono ?_)⟩
 intro e w' h
 obtain ⟨v,rfl,hn⟩:=hnext e w' h
 exact hn
theorem Bx3 {C:Ctx} {rs:List DR} {s0:DS} {D:RG} {L L':Nat→Bool} {i k:Nat} {r:DR} {ops:Array Oper} {o:Oper} {a:Act} {w:World} {β:Nat→Option Nat} {next:Act→World→Prop} {Q:Exit→Act→World→Prop}
  (hOK1:D.OK rs s0 C.P) (hD:Done rs D L k) (hr:rs[i]?=some r) (hi:L i=false) (han:∀ j,anB rs i j=true→L j=true) (hL':∀ j,L' j=(j == i || L j)) (hR:∀ id,C.R id→id < s0.nx)
  (hc:compR C.P C.nt true ops o=some r) (hs:HoldsB C (Ur C rs s0 D L k) (D.at_ rs s0 L k) β a w)
  (hnext:∀ k' β' a' w',Done rs D L' k'→HoldsB C (Ur C rs s0 D L' k') (D.at_ rs s0 L' k') β' a' w'→next a' w') :
  ∃ b,Region.wanted o (yielded ops a.tmps)=b∧(b=true→o.wpIn C.F 0 C.P a w next Q)∧(b=false→next (a.put o.dst undef) w):=by
 obtain ⟨hd,hdlt,hop⟩:=A09 hc
 have hOK:=hOK1.toOKs
 have hev:=hOK1.ev i r hr
 unfold RG.ev at hev
 rw [← Bi3 hOK hD hr hi han (k:=k)] at hev
 have hUgrow:∀ k',D.N k≤D.N k'→∀ id,Ur C rs s0 D L k id→Ur C rs s0 D L' k' id:=fun k' hk id ⟨h1,h2⟩=>by
  refine ⟨by omega,fun h=>h2 ?_⟩
  rcases h with h | ⟨g1,g2,g3⟩
  ·exact .inl h
  ·refine .inr ⟨g1,g2,?_⟩
   rw [hL'] at g3
   exact (Bool.or_eq_false_iff.1 g3).2
 have hDfree:i∉D.main→Done rs D L' k:=fun hn=>by
  refine ⟨fun j hj hLj x hx=>?_,hD.le,fun q j hq=>?_⟩
  ·rw [hL'] at hLj ⊢
   rcases Bool.or_eq_true_iff.1 hLj with h | h
   ·have:j=i:=by simpa using h
    subst this
    rw [han x hx]; simp
   ·rw [hD.cl j hj h x hx]; simp
  ·have hji:j≠i:=fun e=>hn (by rw [← e]; exact List.mem_of_getElem? hq)
   rw [hL']; simp only [beq_eq_false_iff_ne.2 hji,Bool.false_or]
   exact hD.mn q j hq
 have hDmain:D.main[k]?=some i→Done rs D L' (k+1):=fun hm=>by
  refine ⟨fun j hj hLj x hx=>?_,by have:=(List.getElem?_eq_some_iff.1 hm).1; omega,fun q j hq=>?_⟩
  ·rw [hL'] at hLj ⊢
   rcases Bool.or_eq_true_iff.1 hLj with h | h
   ·have:j=i:=by simpa using h
    subst this
    rw [han x hx]; simp
   ·rw [hD.cl j hj h x hx]; simp
  ·rw [hL']
   by_cases hji:j=i
   ·subst hji
    have:q=k:=As6 hOK hD hi han hq
    simp; omega
   ·simp only [beq_eq_false_iff_ne.2 hji,Bool.false_or]
    rw [hD.mn q j hq]
    have:q≠k:=fun e=>hji (by rw [e,hm] at hq; exact (Option.some.inj hq).symm)
    omega
 -- what the next state is
 have hput:∀ (k':Nat) (s':DS) (β':Nat→Option Nat) (w':World) (x:Value),Done rs D L' k'→s'.sv=D.sv rs s0 L→s'.ho=D.full rs s0 L' k'→HoldsB C (Ur C rs s0 D L' k') s' β' a w'→WV C (Ur C rs s0 D L' k') (s'.vw C) β' w' x (D.d i)→next (a.put o.dst x) w':=
  fun k' s' β' w' x h1 h2 h3 h4 h5=>by
   rw [← hd]
   obtain ⟨e1,e2⟩:=Bl7 hOK hr hL' k' s' h2 h3
   exact hnext k' β' _ w' h1 ((h4.put r.dst hdlt h5).congr e1 e2)
 cases hw:(D.at_ rs s0 L k).wanted r.g with
 | none=>rw [hw] at hev; exact hev.elim
 | some b=>
  refine ⟨b,Av3 hs hc hw,fun hb=>?_,fun hb=>?_⟩
  ·subst hb
   rw [hw] at hev
   simp only at hev
   have hnd:∀ c,o.op≠.defer c:=fun c hcd=>by
    rw [hcd,Ar6] at hop
    simp only [Option.getD_none] at hop
    rw [hop] at hev
    simp only [execU] at hev
    rcases hev with ⟨k,u,h⟩ | ⟨h1,h2⟩
    ·simp at h
    ·obtain ⟨_,u,h,_⟩:=h2 k (A12 hOK hD hi han)
     cases h
   -- calls
   have hcallM:∀ (f:FuncId) (vs:List Value) (ds:List DV),D.main[k]?=some i→vs.length=ds.length→(∀ (j:Nat) (v:Value) (d:DV),vs[j]?=some v→ds[j]?=some d→WV C (Ur C rs s0 D L k) ((D.at_ rs s0 L k).vw C) β w v d)→
     callM C.P f ds (D.st rs s0 i k) (D.d i) (D.H (k+1)) (D.N (k+1))→(Ac7 C.P f=true→(execOp a.eval o).run C.P w=.ok (.enter f vs.toArray) w)→o.wpIn C.F 0 C.P a w next Q:=by
    intro f vs ds hm hl hrel ⟨hcb,hcm⟩ hrun
    have hlay:=(hOK.mlt k i hm).2.1
    have hta:=(hOK.mlt k i hm).2.2
    rcases hcm with hcm | ⟨hH,hN,himm,hcall⟩
    ·
     let hid:Nat→Option DObj:=fun id=>match D.unp rs s0 k id with
      | some j=>if L j=true∧anB rs i j=false then D.cur rs L j else none
      | none=>none
     have hsplit:(D.at_ rs s0 L k).ho=vwF hid (D.full rs s0 (anB rs i) k):=by
      funext id
      show D.full rs s0 L k id=_
      unfold vwF
      rw [Av8 (L:=L) hOK hD hr hi han]
      simp only [hid]
      cases hu:D.unp rs s0 k id with
      | none=>simp only; cases D.full rs s0 L k id <;> rfl
      | some j=>
       simp only
       by_cases ha:anB rs i j=true
       ·rw [if_pos ha]
        have:D.full rs s0 L k id=D.cur rs L j:=by unfold RG.full; rw [hu]; simp [han j ha]
        rw [this]
        obtain ⟨o',ho'⟩:=Option.isSome_iff_exists.1 (Bb2 (rs:=rs) (L:=L) (Ag2 hu).2.2.1)
        rw [ho']
       ·rw [if_neg ha]
        simp only
        unfold RG.full; rw [hu]
        have ha':anB rs i j=false:=by simpa using ha
        simp [ha']
     have hdis:∀ id o,hid id=some o→D.full rs s0 (anB rs i) k id=none:=fun id o' h=>by
      simp only [hid] at h
      split at h
      ·rename_i j hu
       split at h
       ·rename_i hc'
        unfold RG.full; rw [hu]; simp [hc'.2]
       ·cases h
      ·cases h
     have hcl:=Ba8 (vis:=D.full rs s0 (anB rs i) k) (hid:=hid) (R:=fun id=>C.R id∨(s0.nx≤id∧id < s0.nx+rs.length∧L (id - s0.nx)=false)) (K:=fun s' d'=>d'=D.d i∧s'.ho=D.H (k+1)∧s'.nx=D.N (k+1)) (f:=f) (ds:=ds) (vs:=vs)
      hs (fun _=>Iff.rfl) (fun id h=>by
       have:=N_ge hOK k
       show id < D.N k
       rcases h with h | h
       ·have:=hR id h; omega
       ·omega) hsplit hdis hl hrel hcm
     refine A47 hnd (hrun hcb) hcl ?_
     rintro e w' ⟨v,d,ho',nx',β',rfl,⟨rfl,hho,hnx⟩,hhid,_,hh,hv⟩
     simp only at hho hnx
     subst hho hnx
     refine ⟨v,rfl,?_⟩
     have hg:∀ id,(id < D.N (k+1)∧¬ (C.R id∨(s0.nx≤id∧id < s0.nx+rs.length∧L (id - s0.nx)=false)))→Ur C rs s0 D L' (k+1) id:=fun id ⟨h1,h2⟩=>
      ⟨h1,fun h=>h2 (h.imp_right fun ⟨g1,g2,g3⟩=>⟨g1,g2,by rw [hL'] at g3; exact (Bool.or_eq_false_iff.1 g3).2⟩)⟩
     refine hput (k+1) ⟨D.sv rs s0 L,vwF hid (D.H (k+1)),D.N (k+1)⟩ β' w' v (hDmain hm) rfl ?_ (hh.grow hg) (hv.grow hg)
     funext id
     rw [Av7 hL' hm hlay hta]
     show vwF hid (D.H (k+1)) id=_
     unfold vwF
     cases hu:D.unp rs s0 k id with
     | none=>
      have:hid id=none:=by simp only [hid,hu]
      rw [this]; simp only; cases D.H (k+1) id <;> rfl
     | some j=>
      simp only
      by_cases ha:anB rs i j=true
      ·rw [if_pos ha]
       have:hid id=none:=by simp only [hid,hu,ha]; simp
       rw [this]; cases D.H (k+1) id <;> rfl
      ·have ha':anB rs i j=false:=by simpa using ha
       have hidv:hid id=if L j=true then D.cur rs L j else none:=by simp only [hid,hu,ha',and_true]
       rw [if_neg ha,hidv]
       by_cases hLj:L j=true
       ·obtain ⟨o',ho'⟩:=Option.isSome_iff_exists.1 (Bb2 (rs:=rs) (L:=L) (Ag2 hu).2.2.1)
        have:=hhid id o' (by rw [hidv,if_pos hLj,ho'])
        rw [this]
       ·have hnone:(⟨D.sv rs s0 L,vwF hid (D.H (k+1)),D.N (k+1)⟩:DS).vw C id=none:=hh.hh.fr id fun h=>h.2 (.inr ⟨by have:=(Ag2 hu).1; omega,by have:=Ag2 hu; omega,by
         have e:id - s0.nx=j:=by have:=(Ag2 hu).1; omega
         rw [e]; simpa using hLj⟩)
        have:D.H (k+1) id=none:=by
         simp only [DS.vw,vwF] at hnone
         cases hx:D.H (k+1) id with
         | none=>rfl
         | some y=>rw [hx] at hnone; cases hnone
        rw [this]
    ·
     refine A47 hnd (hrun hcb) (A76 (R:=fun d'=>d'=D.d i) hs hl (fun j v d hv hd=>?_) hcall) ?_
     ·have h0:=himm d (List.mem_of_getElem? hd)
      exact A08 ((hrel j v d hv hd).2.1 fun id hid=>by rw [h0] at hid; cases hid) h0
     ·rintro e w' ⟨v,d,rfl,rfl,hh,hv⟩
      refine ⟨v,rfl,?_⟩
      have hN':D.N k≤D.N (k+1):=hOK.mono k
      have hf:=Bb7 (L:=L) (L':=L') (u:=.keep) hOK hD hr hi han hL' hm hlay hta (N_ge hOK k) rfl hH
      exact hput (k+1) (D.at_ rs s0 L k) β w' v (hDmain hm) rfl hf.symm (hh.grow (hUgrow _ hN')) (hv.grow (hUgrow _ hN'))
   have hargs:∀ (args:List Operand),(∀ x∈args,x∈r.op.opnds)→liveR (D.st rs s0 i k) r→∀ (j:Nat) (v:Value) (d:DV),(args.map a.eval)[j]?=some v→(args.map (D.st rs s0 i k).rv)[j]?=some d→WV C (Ur C rs s0 D L k) ((D.at_ rs s0 L k).vw C) β w v d:=by
    intro args hsub hlv j v d hv hdd
    simp only [List.getElem?_map,Option.map_eq_some_iff] at hv hdd
    obtain ⟨x,hx,rfl⟩:=hv
    obtain ⟨y,hy,rfl⟩:=hdd
    rw [hx] at hy; cases hy
    rw [← (Ap4 hOK hD hr hi han hlv).rv x (hsub x (List.mem_of_getElem? hx))]
    exact hs.rvw x
   cases hcc:Aj3 C.P o.op with
   | none=>
    exfalso
    rw [hcc] at hop
    simp only [Option.getD_none] at hop
    rw [hop] at hev
    rcases hev with ⟨k,u,h⟩ | ⟨h1,h2⟩
    ·simp [execU] at h
    ·obtain ⟨_,u,h,_⟩:=h2 k (A12 hOK hD hi han)
     cases h
   | some op=>
    rw [hcc] at hop
    simp only [Option.getD_some] at hop
    -- operations that are no calls
    have hsimple:((∃ k u,D.main[k]?=some i∧liveR (D.st rs s0 i k) r∧(D.st rs s0 i k).hasU u=true∧execU (D.N k) (D.st rs s0 i k) op=some (D.d i,u)∧D.H (k+1)=u.app (D.N k) (D.st rs s0 i k).ho∧D.N (k+1)=if u.new then D.N k+1 else D.N k)∨
      (i∉D.main∧∀ k,D.may rs i k→liveR (D.st rs s0 i k) r∧∃ u,execU (s0.nx+i) (D.st rs s0 i k) op=some (D.d i,u)∧match u with
       | .keep=>D.lay i=none∧D.tgt i=none
       | .lay o=>D.lay i=some o∧D.tgt i=none
       | .wr id o=>∃ j,D.unp rs s0 k id=some j∧anB rs i j=true∧D.tgt i=some j∧D.ob i=o∧D.lay i=none
       | _=>False))→o.wpIn C.F 0 C.P a w next Q:=by
     rintro (⟨k0,u,hm,hlv,hU,hex,hH,hN⟩ | ⟨hnm,hall⟩)
     ·obtain rfl:=As6 hOK hD hi han hm
      have hag:=Ap4 hOK hD hr hi han hlv
      rw [hop] at hag
      have hex':execU (D.N k0) (D.at_ rs s0 L k0) op=some (D.d i,u):=by rw [Ak6 hag]; exact hex
      have hok:=A05 hs (nid:=D.N k0) (fun h=>by have:=h.1; omega) hcc hex'
      have hlay:=(hOK.mlt k0 i hm).2.1
      have hta:=(hOK.mlt k0 i hm).2.2
      refine A46 hnd hok fun β' w' x h1 h2=>?_
      have hg:∀ id,Ux (Ur C rs s0 D L k0) (D.N k0) u id→Ur C rs s0 D L' (k0+1) id:=fun id h=>by
       have hle:=hOK.mono k0
       have key:Un (Ur C rs s0 D L k0) (D.N k0) id→D.N (k0+1)=D.N k0+1→Ur C rs s0 D L' (k0+1) id:=fun h hN'=>by
        rcases h with h | rfl
        ·exact hUgrow (k0+1) hle id h
        ·have hge:=N_ge hOK k0
         refine ⟨by omega,fun h=>?_⟩
         rcases h with h | h
         ·have:=hR _ h; omega
         ·omega
       cases u with
       | keep=>exact hUgrow (k0+1) hle id h
       | wr _ _=>exact hUgrow (k0+1) hle id h
       | lay _=>exact key h (by rw [hN]; rfl)
       | mv _ _=>exact key h (by rw [hN]; rfl)
      exact hput (k0+1) _ β' w' x (hDmain hm) rfl (Bb7 (L:=L) (L':=L') hOK hD hr hi han hL' hm hlay hta (N_ge hOK k0) hU hH).symm (h1.grow hg) (h2.grow hg)
     ·obtain ⟨hlv,u,hex,hu⟩:=hall k (A12 hOK hD hi han)
      have hag:=Ap4 hOK hD hr hi han hlv
      rw [hop] at hag
      have hex':execU (s0.nx+i) (D.at_ rs s0 L k) op=some (D.d i,u):=by rw [Ak6 hag]; exact hex
      have hfresh:¬ Ur C rs s0 D L k (s0.nx+i):=fun h=>h.2 (.inr ⟨by omega,by have:=ri_lt hr; omega,by
       have e:s0.nx+i - s0.nx=i:=by omega
       rw [e]; exact hi⟩)
      have hok:=A05 hs (nid:=s0.nx+i) hfresh hcc hex'
      refine A46 hnd hok fun β' w' x h1 h2=>?_
      cases u with
      | keep=>exact hput k _ β' w' x (hDfree hnm) rfl (Ap5 hL' hu.1 hu.2).symm (h1.grow (hUgrow k (Nat.le_refl _))) (h2.grow (hUgrow k (Nat.le_refl _)))
      | lay ob=>
       have hg:∀ id,Ux (Ur C rs s0 D L k) (s0.nx+i) (.lay ob) id→Ur C rs s0 D L' k id:=fun id h=>by
        rcases h with h | rfl
        ·exact hUgrow k (Nat.le_refl _) id h
        ·have hge:=N_ge hOK k
         have:=ri_lt hr
         refine ⟨by omega,fun h=>?_⟩
         rcases h with h | h
         ·have:=hR _ h; omega
         ·have e:s0.nx+i - s0.nx=i:=by omega
          have:=h.2.2
          rw [e,hL'] at this
          simp at this
       exact hput k _ β' w' x (hDfree hnm) rfl (Bb6 hOK hD hr hi hL' hu.1 hu.2).symm (h1.grow hg) (h2.grow hg)
      | wr id ob=>
       obtain ⟨j,g1,g2,g3,rfl,g5⟩:=hu
       exact hput k _ β' w' x (hDfree hnm) rfl (Bl8 hOK hD hr hi han hL' g1 g2 g3 g5).symm (h1.grow (hUgrow k (Nat.le_refl _))) (h2.grow (hUgrow k (Nat.le_refl _)))
      | mv _ _=>exact hu.elim
    rw [hop] at hev
    split at hev
    ·rename_i f args
     obtain ⟨k0,hm,hlv,hcm⟩:=hev
     obtain rfl:=As6 hOK hD hi han hm
     obtain ⟨c,ho,hcal,rfl⟩:=Av4 hcc
     refine hcallM f (c.args.toList.map a.eval) (c.args.toList.map (D.st rs s0 i k0).rv) hm (by simp) (hargs _ (fun x hx=>by rw [hop]; exact hx) hlv) hcm fun hcb=>?_
     simp [execOp,ho,resolve,hcal,Deferred.ofValue,Act.eval,invoke,Af1 hcb,A10]
    ·rename_i tb x args
     obtain ⟨k0,f,fr,cs,hm,hlv,hfn,hcm⟩:=hev
     obtain rfl:=As6 hOK hD hi han hm
     obtain ⟨c,ho,rfl,hcal⟩:=A43 hcc
     have hag:=Ap4 hOK hD hr hi han hlv
     rw [← hag.ev x (by rw [hop]; simp [DOp.opnds])] at hfn
     rcases hcal with ⟨rfl,hcal⟩ | ⟨name,rfl,hcal⟩
     ·have hx:=Ay1 hfn
      simp only at hx
      have h1:=hs.ev x
      rw [hx] at h1
      obtain ⟨us,vs,e1,hl1,hl2,hrel1,hrel2⟩:=A73 h1
      refine hcallM _ (us ++ c.args.toList.map a.eval ++ vs) (fr ++ c.args.toList.map (D.st rs s0 i k0).rv ++ cs) hm (by simp [hl1,hl2]) (A98 (by simp [hl1]) (A98 hl1 (fun j v d hv hdd=>?_) (hargs _ (fun y hy=>by rw [hop]; simp [DOp.opnds,hy]) hlv)) fun j v d hv hdd=>?_) hcm fun hcb=>?_
      ·exact hs.evp x (hrel1 _ v d hv hdd) fun id hid=>by rw [hx,DV.refs,DV.refsL,DV.refs]; exact List.mem_append_left _ (DV.refsL_mem (List.mem_of_getElem? hdd) hid)
      ·exact hs.evp x (hrel2 _ v d hv hdd) fun id hid=>by rw [hx,DV.refs,DV.refsL]; exact List.mem_append_right _ (DV.refsL_mem (List.mem_of_getElem? hdd) hid)
      ·have h3:(us.toArray ++ (c.args.map a.eval ++ vs.toArray):Array Value)=(us ++ (c.args.toList.map a.eval ++ vs)).toArray:=by apply Array.ext'; simp
       simp [execOp,ho,resolve,hcal,e1,Deferred.ofValue,invoke]
       rw [h3]
       exact Af1 hcb _ _
     ·simp only [DV.tgt] at hfn
      split at hfn
      ·rename_i T e hx
       obtain ⟨f',hlk,hx2⟩:=Option.map_eq_some_iff.1 hfn
       cases hx2
       have h1:=hs.ev x
       rw [hx] at h1
       obtain ⟨u,e1,hrel⟩:=Aq4 h1
       refine hcallM _ ([u] ++ c.args.toList.map a.eval) ([e] ++ c.args.toList.map (D.st rs s0 i k0).rv ++ []) hm (by simp) (fun j v d hv hdd=>?_) hcm fun hcb=>?_
       ·rw [List.append_nil] at hdd
        cases j with
        | zero=>
         simp at hv hdd
         subst hv hdd
         exact hs.evp x hrel fun id hid=>by rw [hx,DV.refs]; exact hid
        | succ j=>exact hargs c.args.toList (fun y hy=>by rw [hop]; simp [DOp.opnds]; exact .inr (by simpa using hy)) hlv j v d hv hdd
       ·have h3:=An7 (w:=w) hlk hcb u (c.args.map a.eval)
        have h4:(#[u] ++ c.args.map a.eval:Array Value)=([u] ++ c.args.toList.map a.eval).toArray:=by apply Array.ext'; simp
        rw [h4] at h3
        have h5:Array.extract (#[a.eval x] ++ c.args.map a.eval) 1 (#[a.eval x] ++ c.args.map a.eval).size=c.args.map a.eval:=by
         apply Array.ext'
         simp [List.extract_eq_take_drop]
         exact List.take_of_length_le (by simp)
        have h6:(#[a.eval x] ++ c.args.map a.eval:Array Value)[0]?=some (.iface T u):=by rw [e1]; first | rfl | simp [Array.getElem?_append]
        simp only [execOp,ho,resolve,hcal,Sem.run_bind,Sem.run_pure,Result.andThen_ok,invoke,h6,h5,h3]
      ·cases hfn
    ·exact hsimple hev
  ·subst hb
   rw [hw] at hev
   simp only at hev
   obtain ⟨h1,h2,h2',h3⟩:=hev
   exact hput k (D.at_ rs s0 L k) β w undef (hDfree h3) rfl (Ap5 hL' h2 h2').symm (hs.grow (hUgrow k (Nat.le_refl _))) (by rw [h1]; exact WV.v undef)
end Go.DD

/- Regions that draw their order, third part: every order. -/
namespace Go.DD
open Go.RowKit (Below)
def Lf (L:Array Bool) (j:Nat):Bool:=(L.toList[j]?).getD false
theorem Bx4 {C:Ctx} {ops:Array Oper} {rs:List DR} {s0:DS} {D:RG} {Q:Exit→DS→Prop} (hrs:ops.toList.mapM (compR C.P C.nt true ops)=some rs) (hOK1:D.OK rs s0 C.P) (hR:∀ id,C.R id→id < s0.nx)
  (hQ:Q .normal (D.at_ rs s0 (fun _=>true) D.main.length)) :
  ∀ (fuel:Nat) (L:Array Bool) (k:Nat) (a:Act) (w:World) (β:Nat→Option Nat),L.size=ops.size→unl L.toList=fuel→
   (∀ (i:Nat) (r:DR),L.toList[i]?=some true→rs[i]?=some r→∀ j∈r.pre,L.toList[j]?=some true)→Done rs D (Lf L) k→HoldsB C (Ur C rs s0 D (Lf L) k) (D.at_ rs s0 (Lf L) k) β a w→wpAnyIn C.F 0 C.P .any ops (liftQ C Q) fuel L a w:=by
 have hOK:=hOK1.toOKs
 obtain ⟨hlen,hget⟩:=mapM_some hrs
 replace hlen:rs.length=ops.size:=by rw [hlen]; exact Array.length_toList
 have hpre:=hOK.pre
 have hdone:∀ (L:Array Bool) (k:Nat) (a:Act) (w:World) (β:Nat→Option Nat),L.size=ops.size→(∀ b∈L.toList,b=true)→Done rs D (Lf L) k→HoldsB C (Ur C rs s0 D (Lf L) k) (D.at_ rs s0 (Lf L) k) β a w→liftQ C Q .normal a w:=by
  intro L k a w β hL hall hD hs
  have hLt:∀ j,j < rs.length→Lf L j=true:=fun j hj=>by
   have hjl:j < L.toList.length:=by simp; omega
   simp only [Lf,List.getElem?_eq_getElem hjl,Option.getD_some]
   exact hall _ (List.getElem_mem _)
  have hk:k=D.main.length:=by
   rcases Nat.lt_or_ge k D.main.length with h | h
   ·have hm:D.main[k]?=some D.main[k]:=List.getElem?_eq_getElem h
    have:=(hD.mn k _ hm).1 (hLt _ (hOK.mlt k _ hm).1)
    omega
   ·have:=hD.le; omega
  subst hk
  have e1:(D.at_ rs s0 (fun _=>true) D.main.length).sv=(D.at_ rs s0 (Lf L) D.main.length).sv:=by
   funext t
   show D.sv rs s0 (fun _=>true) t=D.sv rs s0 (Lf L) t
   unfold RG.sv
   cases hp:rs.findIdx? (fun r=>r.dst == some t) with
   | none=>rfl
   | some p=>simp [hLt p (List.findIdx?_eq_some_iff_findIdx_eq.1 hp).1]
  have e2:(D.at_ rs s0 (fun _=>true) D.main.length).ho=(D.at_ rs s0 (Lf L) D.main.length).ho:=by
   funext id
   show D.full rs s0 (fun _=>true) D.main.length id=D.full rs s0 (Lf L) D.main.length id
   unfold RG.full
   cases hu:D.unp rs s0 D.main.length id with
   | none=>rfl
   | some j=>
    have hc:D.cur rs (fun _=>true) j=D.cur rs (Lf L) j:=by
     unfold RG.cur
     rw [Ai7 (L:=Lf L) (L':=fun _=>true) fun w hw _=>(hLt w hw).symm]
    simp [hLt j (Ag2 hu).2.1,hc]
  have hge:=N_ge hOK D.main.length
  refine ⟨_,hQ,fun id h=>by have:=hR id h; show id < D.N D.main.length; omega,β,(hs.congr e1 e2).grow fun id ⟨h1,h2⟩=>⟨h1,fun h=>h2 (.inl h)⟩⟩
 have hready:∀ (L:Array Bool),L.size=ops.size→Region.ready .any ops L=[]→∀ b∈L.toList,b=true:=by
  intro L hL hr
  have key:∀ i,i < L.size→L.toList[i]?=some true:=by
   intro i
   induction i using Nat.strongRecOn with
   | _ i ih=>
    intro hi
    rw [List.getElem?_eq_getElem (by simpa using hi)]
    cases hb:L.toList[i]'(by simpa using hi) with
    | true=>rfl
    | false=>
     exfalso
     have hmem:i∈Region.ready .any ops L:=by
      unfold Region.ready
      rw [List.mem_filter]
      refine ⟨by simp; omega,?_⟩
      have ho:ops[i]?=some ops[i]:=Array.getElem?_eq_getElem (by omega)
      simp only [ho,Option.map_some,Option.getD_some,Bool.and_eq_true]
      refine ⟨?_,?_⟩
      ·have:L[i]?=some false:=by rw [← Array.getElem?_toList,List.getElem?_eq_getElem (by simpa using hi),hb]
       simp [Array.getD_eq_getD_getElem?,this]
      ·rw [Array.all_eq_true']
       intro e he
       rw [Bool.or_eq_true]
       by_cases hbd:Region.binds .any e=true
       ·refine .inr ?_
        have hr':=hget i (ops[i]) (rs[i]'(by omega)) (by rw [Array.getElem?_toList]; exact ho) (List.getElem?_eq_getElem (by omega))
        have hpre':e.on∈(rs[i]'(by omega)).pre:=by
         unfold compR at hr'
         split at hr'
         ·split at hr'
          ·rw [← Option.some.inj hr']
           simp only [if_true]
           rw [List.mem_eraseDups,List.mem_filterMap]
           exact ⟨e,by simpa using he,by simp [hbd]⟩
          ·cases hr'
         ·cases hr'
        have hlt:=hpre i _ (List.getElem?_eq_getElem (by omega)) e.on hpre'
        have:=ih e.on hlt (by omega)
        rw [Array.getElem?_toList] at this
        simp [Array.getD_eq_getD_getElem?,this]
       ·simp [hbd]
     rw [hr] at hmem; cases hmem
  intro b hb
  obtain ⟨i,hi,rfl⟩:=List.mem_iff_getElem.1 hb
  have:=key i (by simpa using hi)
  rw [List.getElem?_eq_getElem hi] at this
  exact Option.some.inj this
 intro fuel
 induction fuel with
 | zero=>
  intro L k a w β hL hu hcl hD hs
  have hall:=Bb1 _ hu
  refine ⟨?_,hdone L k a w β hL hall hD hs⟩
  unfold Region.ready
  rw [List.filter_eq_nil_iff]
  intro i hi
  have hil:i < L.size:=by simp at hi; omega
  have:L[i]?=some true:=by rw [← Array.getElem?_toList,List.getElem?_eq_getElem (by simpa using hil),hall _ (List.getElem_mem _)]
  simp [Array.getD_eq_getD_getElem?,this]
 | succ fuel ih=>
  intro L k a w β hL hu hcl hD hs
  refine ⟨fun hr=>hdone L k a w β hL (hready L hL hr) hD hs,fun i hi=>?_⟩
  unfold Region.ready at hi
  rw [List.mem_filter] at hi
  obtain ⟨hi1,hi2⟩:=hi
  have hin:i < ops.size:=by simpa using hi1
  have ho:ops[i]?=some ops[i]:=Array.getElem?_eq_getElem hin
  simp only [ho,Option.map_some,Option.getD_some,Bool.and_eq_true] at hi2
  obtain ⟨hiL,hiE⟩:=hi2
  have hLi:L.toList[i]?=some false:=by
   have hlt:i < L.size:=by omega
   rw [Array.getElem?_toList,Array.getElem?_eq_getElem hlt]
   simp [Array.getD_eq_getD_getElem?,Array.getElem?_eq_getElem hlt] at hiL
   simp [hiL]
  have hri:rs[i]?=some (rs[i]'(by omega)):=List.getElem?_eq_getElem (by omega)
  generalize (rs[i]'(by omega))=r at hri
  have hcr:=hget i ops[i] r (by rw [Array.getElem?_toList]; exact ho) hri
  have hprei:∀ j∈r.pre,L.toList[j]?=some true:=by
   intro j hj
   have:∃ ed∈ops[i].after,Region.binds .any ed=true∧ed.on=j:=by
    unfold compR at hcr
    split at hcr
    ·split at hcr
     ·cases hcr
      simp only [if_true] at hj
      rw [List.mem_eraseDups,List.mem_filterMap] at hj
      obtain ⟨ed,h1,h2⟩:=hj
      split at h2
      ·rename_i hbd; cases h2; exact ⟨ed,by simpa using h1,hbd,rfl⟩
      ·cases h2
     ·cases hcr
    ·cases hcr
   obtain ⟨ed,h1,h2,rfl⟩:=this
   rw [Array.all_eq_true'] at hiE
   have:=hiE ed h1
   rw [h2] at this
   simp only [Bool.not_true,Bool.false_or] at this
   rw [Array.getElem?_toList]
   cases hq:L[ed.on]? with
   | none=>simp [Array.getD_eq_getD_getElem?,hq] at this
   | some b=>simp [Array.getD_eq_getD_getElem?,hq] at this; simp [this]
  have han:∀ j,anB rs i j=true→Lf L j=true:=by
   intro j hj
   have hil:i < (ancs rs []).length:=by rw [As5]; simp; omega
   have hl:(ancs rs [])[i]?=some (anR rs i):=by simp [anR,List.getElem?_eq_getElem hil]
   have:=A77 hpre hcl i r _ hri hprei hl j (by simpa [anB] using hj)
   simp [Lf,this]
  have hLset:∀ j,Lf (L.setIfInBounds i true) j=(j == i || Lf L j):=fun j=>by
   simp only [Lf,Array.toList_setIfInBounds,List.getElem?_set]
   by_cases hij:i=j
   ·subst hij
    have:i < L.size:=by omega
    simp [this]
   ·simp [hij,Ne.symm hij]
  obtain ⟨b,hw,ht,hf⟩:=Bx3 (Q:=liftQ C Q) (next:=fun a' w'=>wpAnyIn C.F 0 C.P .any ops (liftQ C Q) fuel (L.setIfInBounds i true) a' w') hOK1 hD hri (by simp [Lf,hLi]) han hLset hR hcr hs (fun k' β' a' w' hD' hh=>by
   refine ih (L.setIfInBounds i true) k' a' w' β' (by simpa using hL) ?_ ?_ hD' hh
   ·rw [Array.toList_setIfInBounds]
    have:=Bl6 L.toList i hLi
    omega
   ·intro k rk hk hrk j hj
    rw [Array.toList_setIfInBounds] at hk ⊢
    rw [List.getElem?_set] at hk ⊢
    have hprek:L.toList[j]?=some true:=by
     by_cases hik:i=k
     ·subst hik; rw [hri] at hrk; cases hrk; exact hprei j hj
     ·rw [if_neg hik] at hk; exact hcl k rk hk hrk j hj
    by_cases hij:i=j
    ·subst hij; rw [hLi] at hprek; cases hprek
    ·rw [if_neg hij]; exact hprek)
  unfold wpOpIn
  rw [ho]
  simp only
  rw [hw]
  cases b with
  | true=>simp only [if_true]; exact ht rfl
  | false=>
   simp only [Bool.false_eq_true,if_false]
   exact ⟨fun _ _=>trivial,hf rfl⟩
theorem DW.regd {C:Ctx} {Q:Exit→DS→Prop} {s:DS} {rs:List DR} {info:RI} (D:RG) (hm:C.P.follows .mixedOrders=true) (hOK:D.OK rs s C.P) (h:Q .normal (D.at_ rs s (fun _=>true) D.main.length)):DW C (.reg true rs info) Q s:=by
 intro code hc a w ⟨hR,β,hs⟩
 obtain ⟨id,os,rfl,hl,_⟩:=Au1 hc
 refine wpIn_region_any hm ?_
 have hs':HoldsB C (Us C s.nx) s β a { w with drawn:=w.drawn+1 }:=hs.keep ⟨rfl,rfl,rfl,Nat.le_refl _,fun _ _=>rfl⟩
 have hL0:∀ j,Lf (Array.replicate os.size false) j=false:=fun j=>by
  simp only [Lf,Array.toList_replicate,List.getElem?_replicate]
  split <;> rfl
 refine Bx4 hl hOK hR h os.size _ 0 a _ β (by simp) ?_ (fun i r hi=>?_) ⟨fun i _ hi=>(by rw [hL0] at hi; cases hi),Nat.zero_le _,fun q j _=>(by rw [hL0]; simp)⟩ ?_
 ·simp only [Array.toList_replicate]
  generalize os.size=n
  induction n with
  | zero=>rfl
  | succ n ih=>simp [List.replicate_succ,unl,ih]; omega
 ·rw [Array.toList_replicate,List.getElem?_replicate] at hi
  split at hi <;> simp at hi
 ·refine (hs'.grow fun id hi=>?_).congr ?_ ?_
  ·refine ⟨by have:=hi.1; rw [hOK.n0]; omega,fun h=>?_⟩
   rcases h with h | h
   ·exact hi.2 h
   ·have:=hi.1; omega
  ·funext t
   show D.sv rs s _ t=s.sv t
   unfold RG.sv
   split
   ·rw [hL0]; rfl
   ·rfl
  ·funext id
   show D.full rs s _ 0 id=s.ho id
   unfold RG.full
   cases hu:D.unp rs s 0 id with
   | none=>simp only; rw [hOK.h0]
   | some j=>
    simp only
    rw [hL0]
    have h1:s.vw C id=none:=hs.hh.fr id fun h=>by have:=(Ag2 hu).1; have:=h.1; omega
    have:s.ho id=none:=by
     cases hx:s.ho id with
     | none=>rfl
     | some o=>rw [Ag7 hx] at h1; cases h1
    rw [this]; rfl
end Go.DD

/- An evaluator of deep code on closed states, laid out so that the kernel runs it: slots by paths, operations as functions, integers forced. -/
namespace Go.DD
inductive Pa where
 | o
 | l (p:Pa)
 | r (p:Pa)
def pthF:Nat→Nat→Pa
 | 0,_=>.o
 | f+1,k=>match k with
  | 0=>.o
  | k+1=>if k % 2=0 then .l (pthF f (k / 2)) else .r (pthF f (k / 2))
def pth (k:Nat):Pa:=pthF k k
noncomputable def gP {α:Type} (p:Pa):Tr α→Option α:=
 Pa.rec (motive:=fun _=>Tr α→Option α) (fun t=>Tr.rec (motive:=fun _=>Option α) none (fun _ v _ _ _=>v) t)
  (fun _ ih t=>Tr.rec (motive:=fun _=>Option α) none (fun l _ _ _ _=>ih l) t) (fun _ ih t=>Tr.rec (motive:=fun _=>Option α) none (fun _ _ r _ _=>ih r) t) p
noncomputable def sP {α:Type} (p:Pa) (v:Option α):Tr α→Tr α:=
 Pa.rec (motive:=fun _=>Tr α→Tr α) (fun t=>Tr.rec (motive:=fun _=>Tr α) (.n .e v .e) (fun l _ r _ _=>.n l v r) t)
  (fun _ ih t=>Tr.rec (motive:=fun _=>Tr α) (.n (ih .e) none .e) (fun l x r _ _=>.n (ih l) x r) t) (fun _ ih t=>Tr.rec (motive:=fun _=>Tr α) (.n .e none (ih .e)) (fun l x r _ _=>.n l x (ih r)) t) p
noncomputable def gN {α:Type} (t:Tr α):Nat→Option α:=
 Tr.rec (motive:=fun _=>Nat→Option α) (fun _=>none) (fun _ v _ il ir k=>Nat.rec (motive:=fun _=>Option α) v (fun j _=>Bool.rec (motive:=fun _=>Option α) (ir (Nat.div j 2)) (il (Nat.div j 2)) (Nat.beq (Nat.mod j 2) 0)) k) t
noncomputable def sN {α:Type} (f:Nat) (v:Option α):Tr α→Nat→Tr α:=
 Nat.rec (motive:=fun _=>Tr α→Nat→Tr α) (fun t _=>Tr.rec (motive:=fun _=>Tr α) (.n .e v .e) (fun l _ r _ _=>.n l v r) t)
  (fun _ ih t k=>Nat.rec (motive:=fun _=>Tr α) (Tr.rec (motive:=fun _=>Tr α) (.n .e v .e) (fun l _ r _ _=>.n l v r) t)
   (fun j _=>Bool.rec (motive:=fun _=>Tr α) (Tr.rec (motive:=fun _=>Tr α) (.n .e none (ih .e (Nat.div j 2))) (fun l x r _ _=>.n l x (ih r (Nat.div j 2))) t)
    (Tr.rec (motive:=fun _=>Tr α) (.n (ih .e (Nat.div j 2)) none .e) (fun l x r _ _=>.n (ih l (Nat.div j 2)) x r) t) (Nat.beq (Nat.mod j 2) 0)) k) f
noncomputable def setN {α:Type} (t:Tr α) (k:Nat) (v:Option α):Tr α:=sN k v t k
structure ES where
 sl:Tr DV
 hp:Tr DObj
 nx:Nat
 deriving Inhabited
def ES.ds (es:ES):DS:=⟨fun t=>(es.sl.get t).getD .any,es.hp.get,es.nx⟩
inductive EO where
 | t (p:Pa)
 | c (d:DV)
def EO.of:Operand→EO
 | .tmp u=>.t (pth u)
 | .const x=>.c (ofV x)
 | .func f=>.c (.fn (.func f) [.tup []])
 | .global g=>.c (gvD g)
noncomputable def rawE (es:ES) (x:EO):DV:=EO.rec (motive:=fun _=>DV) (fun p=>Option.rec (motive:=fun _=>DV) .any (fun d=>d) (gP p es.sl)) (fun d=>d) x
noncomputable def someB {α:Type} (x:Option α):Bool:=Option.rec (motive:=fun _=>Bool) false (fun _=>true) x
noncomputable def refsE (d:DV):List Nat:=DV.casesOn (motive_1:=fun _=>List Nat) d [] (fun _=>[]) (fun cs=>DV.refsL cs) (fun cs=>DV.refsL cs) (fun _ _=>[]) (fun _=>[]) (fun _ cs=>DV.refsL cs) (fun _ d=>DV.refs d)
 (fun id _ _ _=>[id]) (fun id _=>[id]) (fun id=>[id]) (fun id=>[id])
noncomputable def allL {α:Type} (l:List α) (f:α→Bool):Bool:=List.rec (motive:=fun _=>Bool) true (fun a _ ih=>Bool.rec (motive:=fun _=>Bool) false ih (f a)) l
noncomputable def iteB {α:Type} (b:Bool) (x y:α):α:=Bool.rec (motive:=fun _=>α) y x b
noncomputable def liveE (hp:Tr DObj) (d:DV):DV:=iteB (allL (refsE d) fun id=>someB (gN hp id)) d .any
noncomputable def evE (es:ES) (x:EO):DV:=EO.rec (motive:=fun _=>DV) (fun p=>liveE es.hp (Option.rec (motive:=fun _=>DV) .any (fun d=>d) (gP p es.sl))) (fun d=>d) x
noncomputable def Af5 {α:Type} (n:Nat) (k:Nat→α):α:=Nat.rec (motive:=fun _=>α) (k 0) (fun m _=>k (m+1)) n
noncomputable def Bl9 {α:Type} (n:Int) (k:Int→α):α:=Int.rec (motive:=fun _=>α) (fun m=>Af5 m fun m=>k (.ofNat m)) (fun m=>Af5 m fun m=>k (.negSucc m)) n
noncomputable def cV {α:Type} (d:DV) (f:Value→α) (e:α):α:=DV.casesOn (motive_1:=fun _=>α) d e f (fun _=>e) (fun _=>e) (fun _ _=>e) (fun _=>e) (fun _ _=>e) (fun _ _=>e) (fun _ _ _ _=>e) (fun _ _=>e) (fun _=>e) (fun _=>e)
noncomputable def cVal {α:Type} (x:Value) (fb:Bool→α) (fi:IntKind→Int→α) (fs:ByteArray→α) (e:α):α:=
 Value.casesOn (motive_1:=fun _=>α) x fb fi (fun _ _=>e) (fun _ _ _=>e) fs (fun _=>e) (fun _ _ _=>e) (fun _=>e) (fun _=>e) (fun _ _ _=>e) e (fun _ _=>e) e (fun _=>e) (fun _=>e)
noncomputable def outV (x:Option Value):Option DV:=Option.rec (motive:=fun _=>Option DV) none (fun v=>cVal v (fun b=>Bool.rec (motive:=fun _=>Option DV) (some (.v (.bool false))) (some (.v (.bool true))) b) (fun k n=>Bl9 n fun n=>some (.v (.int k n))) (fun s=>some (.v (.string s))) (some (.v v))) x
abbrev XP:Type:=ES→Option DV
abbrev XU:Type:=ES→Nat→Option (DV×Upd)
noncomputable def xBin (op:BinOp) (x y:EO):XP:=fun es=>cV (rawE es x) (fun v=>cV (rawE es y) (fun w=>
 cVal v (fun _=>none) (fun k a=>cVal w (fun _=>none) (fun k' b=>outV (iteB (isSh op) (shI op k a b) (iteB (Nat.beq k.ctorIdx k'.ctorIdx) (binI op k a b) none))) (fun _=>none) none) (fun s=>cVal w (fun _=>none) (fun _ _=>none) (fun s'=>outV (binS op s s')) none) none) none) none
noncomputable def xPick (c x y:EO):XP:=fun es=>cV (rawE es c) (fun v=>cVal v (fun b=>some (iteB b (rawE es x) (rawE es y))) (fun _ _=>none) (fun _=>none) none) none
noncomputable def xUn (op:UnOp) (x:EO):XP:=fun es=>cV (rawE es x) (fun v=>outV (unV op (.v v))) none
noncomputable def cRow {α:Type} (hp:Tr DObj) (id:Nat) (f:TypeId→List DV→α) (e:α):α:=
 Option.rec (motive:=fun _=>α) e (fun o=>DObj.casesOn (motive:=fun _=>α) o f (fun _ _=>e) (fun _=>e) (fun _ _=>e) (fun _ _ _ _=>e)) (gN hp id)
noncomputable def dropL {α:Type} (n:Nat) (l:List α):List α:=Nat.rec (motive:=fun _=>List α→List α) (fun l=>l) (fun _ ih l=>List.rec (motive:=fun _=>List α) [] (fun _ t _=>ih t) l) n l
noncomputable def takeL {α:Type} (n:Nat) (l:List α):List α:=Nat.rec (motive:=fun _=>List α→List α) (fun _=>[]) (fun _ ih l=>List.rec (motive:=fun _=>List α) [] (fun a t _=>a :: ih t) l) n l
noncomputable def partE (k:Option Nat) (cs:List DV):Option DV:=Option.rec (motive:=fun _=>Option DV) (List.rec (motive:=fun _=>Option DV) none (fun c _ _=>some c) cs) (fun n=>iteB (Nat.ble n cs.length) (some (.agg (takeL n cs))) none) k
noncomputable def cAdr {α:Type} (d:DV) (fi:List DV→α) (fp:Nat→Nat→α) (e:α):α:=DV.casesOn (motive_1:=fun _=>α) d e (fun _=>e) (fun _=>e) (fun _=>e) (fun _ _=>e) fi (fun _ _=>e) (fun _ _=>e) (fun _ _ _ _=>e) fp (fun _=>e) (fun _=>e)
noncomputable def xLd (k:Option Nat) (x:EO):XP:=fun es=>cAdr (rawE es x) (fun cs=>partE k cs) (fun id off=>cRow es.hp id (fun _ cs=>partE k (dropL off cs)) none) none
noncomputable def xFa (off:Nat) (x:EO):XP:=fun es=>cAdr (rawE es x) (fun cs=>some (.ia (dropL off cs))) (fun id o=>iteB (someB (gN es.hp id)) (Af5 (o+off) fun n=>some (.pt id n)) none) none
noncomputable def cSl {α:Type} (d:DV) (fv:Value→α) (fs:List DV→Nat→α) (fm:Nat→Nat→Nat→Nat→α) (e:α):α:=DV.casesOn (motive_1:=fun _=>α) d e fv (fun _=>e) (fun _=>e) fs (fun _=>e) (fun _ _=>e) (fun _ _=>e) fm (fun _ _=>e) (fun _=>e) (fun _=>e)
noncomputable def cI {α:Type} (d:DV) (f:Int→α) (e:α):α:=cV d (fun v=>cVal v (fun _=>e) (fun _ n=>f n) (fun _=>e) e) e
noncomputable def cIx {α:Type} (j:Int) (n:Nat) (f:Nat→α) (e:α):α:=Int.rec (motive:=fun _=>α) (fun m=>iteB (Nat.blt m n) (f m) e) (fun _=>e) j
noncomputable def xIa (es':Nat) (x i:EO):XP:=fun es=>cI (rawE es i) (fun j=>cSl (rawE es x) (fun _=>none) (fun cs n=>cIx j n (fun m=>some (.ia (dropL (m*es') cs))) none)
 (fun id off n _=>iteB (someB (gN es.hp id)) (cIx j n (fun m=>Af5 (off+m*es') fun o=>some (.pt id o)) none) none) none) none
noncomputable def xFx (n es':Nat) (x i:EO):XP:=fun es=>cI (rawE es i) (fun j=>cAdr (rawE es x) (fun cs=>cIx j n (fun m=>some (.ia (dropL (m*es') cs))) none)
 (fun id off=>iteB (someB (gN es.hp id)) (cIx j n (fun m=>Af5 (off+m*es') fun o=>some (.pt id o)) none) none) none) none
noncomputable def lenV (v:Value):Option DV:=Value.casesOn (motive_1:=fun _=>Option DV) v (fun _=>none) (fun _ _=>none) (fun _ _=>none) (fun _ _ _=>none) (fun _=>none) (fun _=>none)
 (fun a n _=>Option.rec (motive:=fun _=>Option DV) (some (.v (.int .i64 n))) (fun _=>none) a) (fun _=>none) (fun _=>none) (fun _ _ _=>none) none (fun _ _=>none) none (fun _=>none) (fun _=>none)
noncomputable def xLen (x:EO):XP:=fun es=>cSl (rawE es x) lenV (fun _ n=>Af5 n fun n=>some (.v (.int .i64 (.ofNat n)))) (fun id _ n _=>iteB (someB (gN es.hp id)) (Af5 n fun n=>some (.v (.int .i64 (.ofNat n)))) none) none
noncomputable def cTup {α:Type} (d:DV) (f:List DV→α) (e:α):α:=DV.casesOn (motive_1:=fun _=>α) d e (fun _=>e) (fun _=>e) f (fun _ _=>e) (fun _=>e) (fun _ _=>e) (fun _ _=>e) (fun _ _ _ _=>e) (fun _ _=>e) (fun _=>e) (fun _=>e)
noncomputable def nthL {α:Type} (n:Nat) (l:List α):Option α:=List.rec (motive:=fun _=>Option α) none (fun a _ _=>some a) (dropL n l)
noncomputable def vD {α:Type} (d:DV) (f:Value→α) (e:α):α:=DV.casesOn (motive_1:=fun _=>α) d e f (fun _=>e) (fun _=>e) (fun _ _=>e) (fun _=>e) (fun _ _=>e) (fun _ _=>e) (fun _ _ _ _=>e) (fun _ _=>e) (fun _=>e) (fun _=>e)
noncomputable def xExt (x:EO) (i:Nat):XP:=fun es=>cTup (rawE es x) (fun ds=>Option.rec (motive:=fun _=>Option DV) none (fun d=>vD d (fun v=>some (.v v)) (cTup (evE es x) (fun ds=>nthL i ds) none)) (nthL i ds)) none
noncomputable def xAny (o:DOp):XU:=fun es nid=>execU nid es.ds o
noncomputable def Ar7 {β α:Type} (l:List β) (k:List β→α):α:=List.rec (motive:=fun _=>(List β→α)→α) (fun k=>k []) (fun a _ ih k=>ih fun t=>k (a :: t)) l k
noncomputable def appL {α:Type} (a b:List α):List α:=List.rec (motive:=fun _=>List α) b (fun x _ ih=>x :: ih) a
noncomputable def Ay7 (d:DV):List DV:=DV.casesOn (motive_1:=fun _=>List DV) d [d] (fun _=>[d]) (fun cs=>cs) (fun _=>[d]) (fun _ _=>[d]) (fun _=>[d]) (fun _ _=>[d]) (fun _ _=>[d]) (fun _ _ _ _=>[d]) (fun _ _=>[d]) (fun _=>[d]) (fun _=>[d])
noncomputable def okE (d:DV):Bool:=DV.casesOn (motive_1:=fun _=>Bool) d false (fun x=>x.oneCell') (fun _=>true) (fun _=>false) (fun _ _=>true) (fun _=>true) (fun _ _=>true) (fun _ _=>true) (fun _ _ _ _=>true) (fun _ _=>true) (fun _=>true) (fun _=>true)
noncomputable def xSt (n:Nat) (a x:EO):XU:=fun es _=>cAdr (rawE es a) (fun _=>none) (fun id off=>cRow es.hp id (fun T cs=>
 iteB (okE (evE es x)) (iteB (Nat.beq (Ay7 (evE es x)).length n) (iteB (Nat.ble (off+n) cs.length) (Ar7 (appL (takeL off cs) (appL (Ay7 (evE es x)) (dropL (off+n) cs))) fun l=>some (.any,.wr id (.row T l))) none) none) none) none) none
noncomputable def xBx (T:TypeId) (x:EO):XU:=fun es nid=>iteB (okE (evE es x)) (some (.pt nid 0,.lay (.row T (Ay7 (evE es x))))) none
noncomputable def mapL {α β:Type} (f:α→β) (l:List α):List β:=List.rec (motive:=fun _=>List β) [] (fun a _ ih=>f a :: ih) l
noncomputable def xAl (T:TypeId) (z:List DV):XU:=fun _ nid=>some (.pt nid 0,.lay (.row T z))
inductive Tg where
 | fn (f:Nat)
 | yl (id:Nat)
def CallT:Type:=Tg→List DV→Tr DObj→Nat→Option (DV×Tr DObj×Nat)
noncomputable def ES.cs {α:Type} (es:ES) (f:Tr DV→Tr DObj→Nat→α):α:=ES.rec (motive:=fun _=>α) f es
noncomputable def ES.putE (es:ES) (dst:Option Pa) (d:DV):ES:=ES.rec (motive:=fun _=>ES) (fun sl hp nx=>Option.rec (motive:=fun _=>ES) ⟨sl,hp,nx⟩ (fun p=>⟨sP p (some d) sl,hp,nx⟩) dst) es
noncomputable def updE (hp:Tr DObj) (nid:Nat) (u:Upd):Tr DObj:=Upd.casesOn (motive:=fun _=>Tr DObj) u hp (fun o=>setN hp nid (some o)) (fun id o=>setN hp id (some o))
 (fun old o=>Option.rec (motive:=fun _=>Tr DObj) (setN hp nid (some o)) (fun i=>setN (setN hp i none) nid (some o)) old)
abbrev Stp:Type:=CallT→ES→Option ES
noncomputable def sM (dst:Option Pa) (x:EO):Stp:=fun _ es=>some (es.putE dst (rawE es x))
noncomputable def sX (dst:Option Pa) (x:XP):Stp:=fun _ es=>Option.rec (motive:=fun _=>Option ES) none (fun d=>some (es.putE dst d)) (x es)
noncomputable def sU (dst:Option Pa) (x:XU):Stp:=fun _ es=>Option.rec (motive:=fun _=>Option ES) none (fun p=>Prod.rec (motive:=fun _=>Option ES) (fun d u=>
 es.cs fun sl hp nx=>iteB u.new (Af5 (nx+1) fun n=>some ((ES.mk sl (updE hp nx u) n).putE dst d)) (some ((ES.mk sl (updE hp nx u) nx).putE dst d))) p) (x es es.nx)
noncomputable def Ai8 (tg:Tg) (ds:List DV) (dst:Option Pa):Stp:=fun call es=>Option.rec (motive:=fun _=>Option ES) none (fun p=>Prod.rec (motive:=fun _=>Option ES) (fun d q=>Prod.rec (motive:=fun _=>Option ES) (fun hp nx=>es.cs fun sl _ _=>some ((ES.mk sl hp nx).putE dst d)) q) p) (call tg ds es.hp es.nx)
noncomputable def evL (es:ES) (args:List EO):List DV:=mapL (rawE es) args
noncomputable def sCall (f:Nat) (args:List EO) (dst:Option Pa):Stp:=fun call es=>Ai8 (.fn f) (evL es args) dst call es
noncomputable def sCv (tb:Option (List (TypeId×FuncId))) (x:EO) (args:List EO) (dst:Option Pa):Stp:=fun call es=>
 Option.rec (motive:=fun _=>Option ES) (Option.rec (motive:=fun _=>Option ES) none (fun i=>Ai8 (.yl i) (evL es args) dst call es) ((evE es x).tgY tb)) (fun p=>Ai8 (.fn p.1) (appL p.2.1 (appL (evL es args) p.2.2)) dst call es) ((evE es x).tgt tb)
noncomputable def sNx (k:Bool) (x:Operand) (dst:Option Pa):Stp:=fun _ es=>match nxmL es.ds k x with
 | some [p]=>if p.2.new then none else some ((ES.mk es.sl (updE es.hp es.nx p.2) es.nx).putE dst p.1)
 | _=>none
noncomputable def xopP:DOp→Option XP
 | .bin op x y=>some (xBin op (.of x) (.of y))
 | .pick c x y=>some (xPick (.of c) (.of x) (.of y))
 | .un op x=>some (xUn op (.of x))
 | .ld k x=>some (xLd k (.of x))
 | .fa off x=>some (xFa off (.of x))
 | .ia es x i=>some (xIa es (.of x) (.of i))
 | .fx n es x i=>some (xFx n es (.of x) (.of i))
 | .len x=>some (xLen (.of x))
 | .ext x i=>some (xExt (.of x) i)
 | _=>none
noncomputable def xopU:DOp→XU
 | .st n a x=>xSt n (.of a) (.of x)
 | .bx T x=>xBx T (.of x)
 | .al T z=>xAl T (z.map .v)
 | o=>xAny o
noncomputable def stepE (dst:Option Pa) (o:DOp):Stp:=match o with
 | .mv x=>sM dst (.of x)
 | .call f args=>sCall f (args.map EO.of) dst
 | .cv tb x args=>sCv tb (.of x) (args.map EO.of) dst
 | .nxm k x=>sNx k x dst
 | o=>match xopP o with
  | some x=>sX dst x
  | none=>sU dst (xopU o)
noncomputable def sCf (tb:Option (List (TypeId×FuncId))) (x:EO) (args:List EO) (dst:Option Pa):Stp:=fun call es=>
 Option.rec (motive:=fun _=>Option ES) none (fun p=>Ai8 (.fn p.1) (appL p.2.1 (appL (evL es args) p.2.2)) dst call es) ((evE es x).tgt tb)
noncomputable def stepF (dst:Option Pa) (o:DOp):Stp:=match o with
 | .cv tb x args=>sCf tb (.of x) (args.map EO.of) dst
 | .nxm _ _=>fun _ _=>none
 | o=>stepE dst o
noncomputable def wantE (es:ES) (p:Pa) (b:Bool):Option Bool:=cV (rawE es (.t p)) (fun v=>Value.casesOn (motive_1:=fun _=>Option Bool) v (fun c=>some (c == b)) (fun _ _=>none) (fun _ _=>none) (fun _ _ _=>none) (fun _=>none) (fun _=>none) (fun _ _ _=>none) (fun _=>none) (fun _=>none) (fun _ _ _=>none) none (fun _ _=>none) none (fun _=>none) (fun _=>some false)) none
noncomputable def sG (p:Pa) (b:Bool) (dst:Option Pa) (s:Stp):Stp:=fun call es=>Option.rec (motive:=fun _=>Option ES) none (fun c=>Bool.rec (motive:=fun _=>Option ES) (some (es.putE dst (.v undef))) (s call es) c) (wantE es p b)
noncomputable def sq (s k:Stp):Stp:=fun call es=>Option.rec (motive:=fun _=>Option ES) none (fun es'=>es'.cs fun sl hp nx=>k call ⟨sl,hp,nx⟩) (s call es)
noncomputable def sEnd:Stp:=fun _ es=>some es
noncomputable def sL (l:List Stp):Stp:=List.rec (motive:=fun _=>Stp) sEnd (fun s _ ih=>sq s ih) l
def pthO:Option Nat→Option Pa
 | some t=>some (pth t)
 | none=>none
noncomputable def stpR (r:DR):Stp:=match r.g with
 | none=>stepE (pthO r.dst) r.op
 | some (t,b)=>sG (pth t) b (pthO r.dst) (stepE (pthO r.dst) r.op)
noncomputable def runE:List DR→Stp
 | []=>sEnd
 | r :: rest=>sq (stpR r) (runE rest)
def sameV:Value→Value→Bool
 | .bool a,.bool b=>a == b
 | .int k a,.int k' b=>k == k' && a == b
 | .string a,.string b=>a.data.toList == b.data.toList
 | .pointer none,.pointer none=>true
 | .slice none a b,.slice none c d=>a == c && b == d
 | .map none,.map none=>true
 | .nilFunc,.nilFunc=>true
 | .nilIface,.nilIface=>true
 | _,_=>false
def sameL (f:DV→DV→Bool):List DV→List DV→Bool
 | [],[]=>true
 | a :: as,b :: bs=>f a b && sameL f as bs
 | _,_=>false
def Bm0:Fn→Fn→Bool
 | .func f,.func g=>f == g
 | _,_=>false
def Ab1:Nat→DV→DV→Bool
 | 0,_,_=>false
 | n+1,a,b=>match a,b with
  | .any,.any=>true
  | .v x,.v y=>sameV x y
  | .agg a,.agg b=>sameL (Ab1 n) a b
  | .tup a,.tup b=>sameL (Ab1 n) a b
  | .sl a m,.sl b m'=>m == m' && sameL (Ab1 n) a b
  | .ia a,.ia b=>sameL (Ab1 n) a b
  | .fn f a,.fn g b=>Bm0 f g && sameL (Ab1 n) a b
  | .ifc T a,.ifc T' b=>T == T' && Ab1 n a b
  | .ms i o k e,.ms i' o' k' e'=>i == i' && o == o' && k == k' && e == e'
  | .pt i o,.pt i' o'=>i == i' && o == o'
  | .mp i,.mp j=>i == j
  | .yl i,.yl j=>i == j
  | _,_=>false
def Bm1:Value→Value→Bool
 | .agg a,.agg b=>sameL (fun x y=>match x,y with | .v x,.v y=>sameV x y | _,_=>false) (a.toList.map .v) (b.toList.map .v)
 | a,b=>sameV a b
def sameM (n:Nat):List ME→List ME→Bool
 | [],[]=>true
 | a :: as,b :: bs=>Bm1 a.k b.k && Ab1 n a.v b.v && a.b == b.b && sameM n as bs
 | _,_=>false
def Ay8:List Nat→List Nat→Bool
 | [],[]=>true
 | a :: as,b :: bs=>a == b && Ay8 as bs
 | _,_=>false
def sameO:DObj→DObj→Bool
 | .row T a,.row T' b=>T == T' && sameL (Ab1 6) a b
 | .mapo c a,.mapo d b=>c == d && sameM 6 a b
 | .miter m c s l,.miter m' c' s' l'=>Ab1 2 m m' && c == c' && Ay8 s s' && l == l'
 | _,_=>false
structure Look where
 i:Nat
 an:List Nat
 id:Nat
 own:Bool
 c:Bool
structure Past where
 q:Nat
 an:List Nat
 a:Tr DObj
 b:Tr DObj
def sameAt (a b:Tr DObj) (id:Nat):Bool:=match a.get id,b.get id with
 | some x,some y=>sameO x y
 | _,_=>false
def Av9 (a b:Tr DObj) (id:Nat):Bool:=(a.get id).isSome == (b.get id).isSome
def Ag3 (n0 m:Nat) (ws:List Look) (ps:List Past):Bool:=ws.all fun w=>ps.all fun p=>w.an.contains p.q || p.an.contains w.i ||
 (if Nat.blt w.id n0 || Nat.ble (n0+m) w.id then (if w.c then sameAt p.a p.b w.id else Av9 p.a p.b w.id) else w.own && !p.an.contains (w.id - n0))
noncomputable def okRef (n0 m:Nat) (an:List Nat) (hp:Tr DObj) (id:Nat):Bool:=iteB (someB (gN hp id)) (iteB (Nat.blt id n0) true (iteB (Nat.ble (n0+m) id) true (an.contains (id - n0)))) false
noncomputable def refsL (es:ES) (ps:List Pa):List Nat:=List.rec (motive:=fun _=>List Nat) [] (fun p _ ih=>appL (refsE (rawE es (.t p))) ih) ps
structure DSt where
 es:ES
 lo:List Nat
 ws:List Look
 ps:List Past
def Ao1 (n0:Nat) (hp:Tr DObj):List Nat→Tr DObj
 | []=>hp
 | j :: js=>Ao1 n0 (hp.set (n0+j) none) js
def backL (n0:Nat) (old hp:Tr DObj):List Nat→Tr DObj
 | []=>hp
 | j :: js=>backL n0 old (hp.set (n0+j) (old.get (n0+j))) js
abbrev DStp:Type:=CallT→Nat→Nat→DSt→Option DSt
noncomputable def DSt.cs {α:Type} (d:DSt) (f:ES→List Nat→List Look→List Past→α):α:=DSt.rec (motive:=fun _=>α) f d
noncomputable def dMain (i:Nat) (an:List Nat) (s:Stp):DStp:=fun call n0 _ d=>
 d.cs fun es lo ws ps=>es.cs fun sl hp nx=>Ar7 (lo.filter fun j=>!an.contains j) fun hid=>
 Option.rec (motive:=fun _=>Option DSt) none (fun es'=>es'.cs fun sl' hp' nx'=>iteB (Nat.ble nx nx') (some ⟨⟨sl',backL n0 hp hp' hid,nx'⟩,hid,ws,⟨i,an,hp,backL n0 hp hp' hid⟩ :: ps⟩) none) (s call ⟨sl,Ao1 n0 hp hid,nx⟩)
noncomputable def lookE (i:Nat) (an:List Nat) (wide c:Bool) (refs:List Nat) (n0:Nat) (lo:List Nat) (ws:List Look):List Look:=iteB wide (appL (mapL (fun id=>⟨i,an,id,lo.contains (id - n0),c⟩) refs) ws) ws
noncomputable def dRead (i:Nat) (an:List Nat) (wide c:Bool) (dst:Option Pa) (x:Nat→XP) (ps:List Pa):DStp:=fun _ n0 _ d=>
 d.cs fun es lo ws pp=>Option.rec (motive:=fun _=>Option DSt) none (fun v=>some ⟨es.putE dst v,lo,lookE i an wide c (refsL es ps) n0 lo ws,pp⟩) (x (n0+i) es)
noncomputable def xKeep (x:XU):Nat→XP:=fun nid es=>Option.rec (motive:=fun _=>Option DV) none (fun p=>Upd.casesOn (motive:=fun _=>Option DV) p.2 (some p.1) (fun _=>none) (fun _ _=>none) (fun _ _=>none)) (x es nid)
noncomputable def dLay (i:Nat) (an:List Nat) (wide c:Bool) (dst:Option Pa) (x:XU) (ps:List Pa):DStp:=fun _ n0 _ d=>
 d.cs fun es lo ws pp=>es.cs fun sl hp nx=>Af5 (n0+i) fun nid=>Option.rec (motive:=fun _=>Option DSt) none (fun p=>Upd.casesOn (motive:=fun _=>Option DSt) p.2 none
  (fun o=>some ⟨(ES.mk sl (setN hp nid (some o)) nx).putE dst p.1,i :: lo,lookE i an wide c (refsL es ps) n0 lo ws,pp⟩) (fun _ _=>none) (fun _ _=>none)) (x es nid)
noncomputable def dWr (i:Nat) (an:List Nat) (tgt:Nat) (dst:Option Pa) (x:XU) (ps:List Pa):DStp:=fun _ n0 _ d=>
 d.cs fun es lo ws pp=>es.cs fun sl hp nx=>Option.rec (motive:=fun _=>Option DSt) none (fun p=>Upd.casesOn (motive:=fun _=>Option DSt) p.2 none (fun _=>none)
  (fun id o=>iteB (Nat.beq id (n0+tgt) && lo.contains tgt && an.contains tgt && allL (refsL es ps) (fun r=>Nat.beq r (n0+tgt))) (some ⟨(ES.mk sl (setN hp id (some o)) nx).putE dst p.1,lo,ws,pp⟩) none) (fun _ _=>none)) (x es (n0+i))
noncomputable def dChk (an:List Nat) (ps:List Pa) (s:DStp):DStp:=fun call n0 m d=>iteB (allL (refsL d.es ps) fun id=>okRef n0 m an d.es.hp id) (s call n0 m d) none
noncomputable def dX (an:List Nat) (ps:List Pa) (i:Nat) (dst:Option Pa) (x:XP):DStp:=dChk an ps (dRead i an false false dst (fun _=>x) ps)
noncomputable def dY (an:List Nat) (ps:List Pa) (i:Nat) (dst:Option Pa) (x:XP):DStp:=dChk an ps (dRead i an false true dst (fun _=>x) ps)
noncomputable def dP (an:List Nat) (i:Nat) (dst:Option Pa) (p:Pa):DStp:=dChk an [p] (dRead i an false false dst (fun _ es=>some (rawE es (.t p))) [p])
noncomputable def dG (p:Pa) (b:Bool) (dst:Option Pa) (s:DStp):DStp:=fun call n0 m d=>Option.rec (motive:=fun _=>Option DSt) none (fun c=>Bool.rec (motive:=fun _=>Option DSt) (d.cs fun es lo ws pp=>some ⟨es.putE dst (.v undef),lo,ws,pp⟩) (s call n0 m d) c) (wantE d.es p b)
noncomputable def dq (s k:DStp):DStp:=fun call n0 m d=>Option.rec (motive:=fun _=>Option DSt) none (fun d'=>d'.cs fun es lo ws pp=>es.cs fun sl hp nx=>k call n0 m ⟨⟨sl,hp,nx⟩,lo,ws,pp⟩) (s call n0 m d)
noncomputable def dEnd:DStp:=fun _ _ _ d=>some d
noncomputable def dL (l:List DStp):DStp:=List.rec (motive:=fun _=>DStp) dEnd (fun s _ ih=>dq s ih) l
def Ai9 (o:DOp):List Nat:=o.opnds.filterMap fun | .tmp t=>some t | _=>none
noncomputable def dstp (i:Nat) (r:DR) (o:OI):DStp:=
 dChk o.an ((Ai9 r.op).map pth) (match o.cls with
  | 2=>dMain i o.an (stepF (pthO r.dst) r.op)
  | 0=>dRead i o.an o.wide r.op.rdC (pthO r.dst) (match r.op with
   | .mv x=>fun _ es=>some (rawE es (.of x))
   | op=>match xopP op with
    | some x=>fun _=>x
    | none=>xKeep (xopU op)) ((Ai9 r.op).map pth)
  | 1=>dLay i o.an o.wide r.op.rdC (pthO r.dst) (xopU r.op) ((Ai9 r.op).map pth)
  | _=>dWr i o.an o.tgt (pthO r.dst) (xopU r.op) ((Ai9 r.op).map pth))
noncomputable def dstpG (i:Nat) (r:DR) (o:OI):DStp:=match r.g with
 | none=>dstp i r o
 | some (t,b)=>dG (pth t) b (pthO r.dst) (dstp i r o)
noncomputable def rundE:List DR→List OI→Nat→DStp
 | r :: rs,o :: os,i=>dq (dstpG i r o) (rundE rs os (i+1))
 | _,_,_=>dEnd
noncomputable def regE (m:Nat) (s:DStp):Stp:=fun call es=>Option.rec (motive:=fun _=>Option ES) none (fun d=>iteB (Ag3 es.nx m d.ws d.ps) (some d.es) none) (es.cs fun sl hp nx=>Af5 (nx+m) fun n=>s call nx m ⟨⟨sl,hp,n⟩,[],[],[]⟩)
abbrev CE:Type:=CallT→ES→Option (Exit×ES)
noncomputable def cN (s:Stp):CE:=fun call es=>Option.rec (motive:=fun _=>Option (Exit×ES)) none (fun es'=>some (.normal,es')) (s call es)
noncomputable def cE (e:Exit):CE:=fun _ es=>
 some (e,es)
noncomputable def cS (a b:CE):CE:=fun call es=>Option.rec (motive:=fun _=>Option (Exit×ES)) none (fun p=>Prod.rec (motive:=fun _=>Option (Exit×ES)) (fun e es'=>Exit.casesOn (motive:=fun _=>Option (Exit×ES)) e (b call es') (fun _=>some (e,es')) (fun _=>some (e,es')) (some (e,es')) (fun _=>some (e,es')) (some (e,es'))) p) (a call es)
noncomputable def cT (l:List Stp) (c:CE):CE:=cS (cN (sL l)) c
noncomputable def cC (x:EO) (a b:CE):CE:=fun call es=>cV (rawE es x) (fun v=>cVal v (fun t=>Bool.rec (motive:=fun _=>Option (Exit×ES)) (b call es) (a call es) t) (fun _ _=>none) (fun _=>none) none) none
noncomputable def cB (id:Nat) (c:CE):CE:=fun call es=>Option.rec (motive:=fun _=>Option (Exit×ES)) none (fun p=>Prod.rec (motive:=fun _=>Option (Exit×ES)) (fun e es'=>Exit.casesOn (motive:=fun _=>Option (Exit×ES)) e (some (e,es')) (fun i=>iteB (Nat.beq i id) (some (.normal,es')) (some (e,es'))) (fun _=>some (e,es')) (some (e,es')) (fun _=>some (e,es')) (some (e,es'))) p) (c call es)
noncomputable def cL (n:Nat) (c:CE):CE:=Nat.rec (motive:=fun _=>CE) (fun _ _=>none) (fun _ ih=>cS c ih) n
noncomputable def cR (nt:Nat) (rd:Bool) (g:EO) (ps:List Nat) (a b:DC):CE:=fun call es=>if rd then none else match (evE es g).asFn with
 | some (f,cs)=>match call (.fn f) (.yl es.nx :: cs) (es.hp.set es.nx (some (.loop ⟨nt,.t es.sl,ps,a,b,.ready,none⟩))) (es.nx+1) with
  | some (_,hp,nx)=>match hp.get es.nx with
   | some (.loop lp)=>match lp.st with
    | .busy=>none
    | _=>match lp.pend with
     | none=>some (.normal,⟨es.sl,hp.set es.nx none,nx⟩)
     | some .ret=>some (.ret,⟨es.sl,hp.set es.nx none,nx⟩)
     | some (.exit i)=>some (.exit i,⟨es.sl,hp.set es.nx none,nx⟩)
     | _=>none
   | _=>none
  | none=>none
 | none=>none
noncomputable def evalE (n nt:Nat) (rd:Bool):DC→CE
 | .skip=>cE .normal
 | .ret=>cE .ret
 | .exit id=>cE (.exit id)
 | .seq a b=>cS (evalE n nt rd a) (evalE n nt rd b)
 | .cond x a b=>cC (.of x) (evalE n nt rd a) (evalE n nt rd b)
 | .blk id c=>cB id (evalE n nt rd c)
 | .loop c=>cL n (evalE n nt rd c)
 | .reg draw ops info=>match draw with
  | false=>cN (runE ops)
  | true=>match info.ok with
   | true=>cN (regE ops.length (rundE ops info.l 0))
   | false=>fun _ _=>none
 | .rng g ps a b=>cR nt rd (.of g) ps a b
 | .dfq t g cap=>match rd with
  | true=>fun _ _=>none
  | false=>cN (stepE (some (pth t)) (.mkf (.func g) [] cap))
 | .bad=>fun _ _=>none
noncomputable def argT (ds:List DV):Tr DV:=List.rec (motive:=fun _=>Nat→Tr DV→Tr DV) (fun _ t=>t) (fun d _ ih i t=>ih (i+1) (sP (pth i) (some d) t)) ds 0 .e
noncomputable def zipT (ps:List Nat) (ds:List DV):Tr DV→Tr DV:=List.rec (motive:=fun _=>List DV→Tr DV→Tr DV) (fun _ t=>t) (fun p _ ih ds t=>List.rec (motive:=fun _=>Tr DV) t (fun d ds' _=>ih ds' (sP (pth p) (some d) t)) ds) ps ds
structure FE where
 run:CE
 res:List (Nat×Option (Option Nat))
 nt:Nat
noncomputable def xLp (k:Option Nat) (x:EO):XP:=fun es=>cAdr (rawE es x) (fun _=>none) (fun id off=>cRow es.hp id (fun _ cs=>partE k (dropL off cs)) none) none
noncomputable def resE (es:ES) (q:Nat×Option (Option Nat)):Option DV:=Prod.rec (motive:=fun _=>Option DV) (fun t k=>Option.rec (motive:=fun _=>Option DV) (some (evE es (.t (pth t)))) (fun k=>xLp k (.t (pth t)) es) k) q
def resVE (ds:Option (List DV)):Option DV:=match ds with
 | some [d]=>some d
 | some ds=>some (.tup ds)
 | none=>none
noncomputable def finE (res:List (Nat×Option (Option Nat))) (es:ES):Option (DV×Tr DObj×Nat):=match resVE (res.mapM (resE es)) with
 | some d=>some (d,es.hp,es.nx)
 | none=>none
noncomputable def stepC (tb:Nat→Option FE) (n:Nat) (call:CallT):CallT:=fun tg ds hp nx=>match tg with
  | .fn f=>match tb f with
   | some fe=>if ds.length≤fe.nt then match fe.run (call) ⟨argT ds,hp,nx⟩ with
     | some (.normal,es)=>finE fe.res es
     | some (.ret,es)=>finE fe.res es
     | _=>none
    else none
   | none=>none
  | .yl id=>match hp.get id with
   | some (.loop lp)=>match lp.st,lp.sl with
    | .ready,.t sl=>if ds.length=lp.ps.length∧lp.ps.all (fun t=>Nat.blt t lp.nt)=true then
      match evalE n lp.nt true lp.asg (call) ⟨zipT lp.ps ds sl,hp,nx⟩ with
      | some (.normal,es1)=>match es1.hp.get id with
       | some (.loop lp1)=>match lp1.st with
        | .ready=>match evalE n lp.nt true lp.body (call) { es1 with hp:=es1.hp.set id (some (.loop { lp1 with st:=.busy })) } with
         | some (e,es2)=>match es2.hp.get id with
          | some (.loop lp2)=>match e with
           | .normal=>some (.v (.bool true),es2.hp.set id (some (.loop { lp2 with st:=.ready,pend:=none })),es2.nx)
           | .ret=>some (.v (.bool false),es2.hp.set id (some (.loop { lp2 with st:=.done,pend:=some .ret })),es2.nx)
           | .exit i=>some (.v (.bool false),es2.hp.set id (some (.loop { lp2 with st:=.done,pend:=some (.exit i) })),es2.nx)
           | _=>none
          | _=>none
         | none=>none
        | _=>none
       | _=>none
      | _=>none
     else none
    | _,_=>none
   | _=>none
noncomputable def callE (tb:Nat→Option FE) (n:Nat):Nat→CallT
 | 0=>fun _ _ _ _=>none
 | k+1=>stepC tb n (callE tb n k)
def okBE:Option (DV×Tr DObj×Nat)→Bool
 | some (.v (.bool b),_,_)=>b
 | _=>false
def bs (l:List UInt8):ByteArray:=⟨l.toArray⟩
instance coeB:Coe Bool EO:=⟨fun b=>.c (.v (.bool b))⟩
instance coeI:Coe Int EO:=⟨fun n=>.c (.v (.int .i64 n))⟩
instance coeS1 {s:String} [h:CoeDep String s Pa]:CoeDep String s EO:=⟨EO.t h.coe⟩
instance coeS2 {s:String} [h:CoeDep String s Pa]:CoeDep String s (Option Pa):=⟨some h.coe⟩
instance:CoeDep String "!" Pa:=⟨Pa.o.l.r⟩
instance:CoeDep String "$" Pa:=⟨Pa.o.r.l⟩
instance:CoeDep String "%" Pa:=⟨Pa.o.r.l.r⟩
instance:CoeDep String "&" Pa:=⟨Pa.o.l.l.r⟩
instance:CoeDep String "(" Pa:=⟨Pa.o.r.l.l⟩
instance:CoeDep String ")" Pa:=⟨Pa.o.r.r.l⟩
instance:CoeDep String "*" Pa:=⟨Pa.o.r.r⟩
instance:CoeDep String "+" Pa:=⟨Pa.o.l.l.l⟩
instance:CoeDep String "," Pa:=⟨Pa.o.l.r.l⟩
instance:CoeDep String "." Pa:=⟨Pa.o.l.r.r⟩
instance:CoeDep String "0" Pa:=⟨Pa.o.l.l.r.l⟩
instance:CoeDep String "1" Pa:=⟨Pa.o.l.r.r.l⟩
instance:CoeDep String "2" Pa:=⟨Pa.o.r.r.r⟩
instance:CoeDep String "3" Pa:=⟨Pa.o.l.l.l.l⟩
instance:CoeDep String "4" Pa:=⟨Pa.o.l.l.l.r⟩
instance:CoeDep String "5" Pa:=⟨Pa.o.l.r.r.r⟩
instance:CoeDep String "6" Pa:=⟨Pa.o.l.l⟩
instance:CoeDep String "7" Pa:=⟨Pa.o.r.l.l.l⟩
instance:CoeDep String "8" Pa:=⟨Pa.o.l.l.r.r⟩
instance:CoeDep String "9" Pa:=⟨Pa.o.r.l.l.r⟩
instance:CoeDep String ":" Pa:=⟨Pa.o.l.r.l.r⟩
instance:CoeDep String ";" Pa:=⟨Pa.o.l.r.l.l⟩
instance:CoeDep String "<" Pa:=⟨Pa.o.r.r.l.l⟩
instance:CoeDep String "=" Pa:=⟨Pa.o.r.r.r.l⟩
instance:CoeDep String ">" Pa:=⟨Pa.o.r.l.r.l⟩
instance:CoeDep String "?" Pa:=⟨Pa.o.r.l.r.r⟩
instance:CoeDep String "@" Pa:=⟨Pa.o.r.r.l.r⟩
instance:CoeDep String "A" Pa:=⟨Pa.o.l.l.l.l.r⟩
instance:CoeDep String "B" Pa:=⟨Pa.o.l.l.l.l.l⟩
instance:CoeDep String "C" Pa:=⟨Pa.o.l.l.l.r.l⟩
instance:CoeDep String "D" Pa:=⟨Pa.o.l.l.l.r.r⟩
instance:CoeDep String "E" Pa:=⟨Pa.o.r.r.r.r⟩
instance:CoeDep String "F" Pa:=⟨Pa.o.l.l.r.l.l⟩
instance:CoeDep String "G" Pa:=⟨Pa.o.l.r.l.l.l⟩
instance:CoeDep String "H" Pa:=⟨Pa.o.l.l.r.r.r⟩
instance:CoeDep String "I" Pa:=⟨Pa.o.l.l.r.l.r⟩
instance:CoeDep String "J" Pa:=⟨Pa.o.l.l.r.r.l⟩
instance:CoeDep String "K" Pa:=⟨Pa.o.l.r.l.l.r⟩
instance:CoeDep String "L" Pa:=⟨Pa.o.l.r.l.r.r⟩
instance:CoeDep String "M" Pa:=⟨Pa.o.l.r.l.r.l⟩
instance:CoeDep String "N" Pa:=⟨Pa.o.l.r.r.l.l⟩
instance:CoeDep String "O" Pa:=⟨Pa.o.l.r.r.l.r⟩
instance:CoeDep String "P" Pa:=⟨Pa.o.l.r.r.r.l⟩
instance:CoeDep String "Q" Pa:=⟨Pa.o.r.l.r.r.l⟩
instance:CoeDep String "R" Pa:=⟨Pa.o.l.r.r.r.r⟩
instance:CoeDep String "S" Pa:=⟨Pa.o.r.l.l.l.l⟩
instance:CoeDep String "T" Pa:=⟨Pa.o.r.l.l.r.r⟩
instance:CoeDep String "U" Pa:=⟨Pa.o.r.l.l.r.l⟩
instance:CoeDep String "V" Pa:=⟨Pa.o.r.l.r.l.r⟩
instance:CoeDep String "W" Pa:=⟨Pa.o.r.l.l.l.r⟩
instance:CoeDep String "X" Pa:=⟨Pa.o.r.l.r.l.l⟩
instance:CoeDep String "Y" Pa:=⟨Pa.o.r.l.r.r.r⟩
instance:CoeDep String "Z" Pa:=⟨Pa.o.r.r.l.r.r⟩
instance:CoeDep String "[" Pa:=⟨Pa.o.r.r.r.l.l⟩
instance:CoeDep String "]" Pa:=⟨Pa.o.r.r.l.l.l⟩
instance:CoeDep String "^" Pa:=⟨Pa.o.r.r.l.r.l⟩
instance:CoeDep String "_" Pa:=⟨Pa.o.r.r.l.l.r⟩
instance:CoeDep String "a" Pa:=⟨Pa.o.r.r.r.r.r⟩
instance:CoeDep String "b" Pa:=⟨Pa.o.r.r.r.l.r⟩
instance:CoeDep String "c" Pa:=⟨Pa.o.r.r.r.r.l⟩
instance:CoeDep String "d" Pa:=⟨Pa.o.l.l.l.l.l.r⟩
instance:CoeDep String "e" Pa:=⟨Pa.o.l.l.l.l.l.l⟩
instance:CoeDep String "f" Pa:=⟨Pa.o.l.l.r.l.l.r⟩
instance:CoeDep String "g" Pa:=⟨Pa.o.l.l.l.l.r.l⟩
instance:CoeDep String "h" Pa:=⟨Pa.o.l.r.l.r.l.l⟩
instance:CoeDep String "i" Pa:=⟨Pa.o.l.l.l.l.r.r⟩
instance:CoeDep String "j" Pa:=⟨Pa.o.l.l.l.r.l.l⟩
instance:CoeDep String "k" Pa:=⟨Pa.o.l.l.r.l.r.l⟩
instance:CoeDep String "l" Pa:=⟨Pa.o.l.l.r.r.l.r⟩
instance:CoeDep String "m" Pa:=⟨Pa.o.l.r.l.l.r.l⟩
instance:CoeDep String "n" Pa:=⟨Pa.o.l.l.l.r.r.l⟩
instance:CoeDep String "o" Pa:=⟨Pa.o.l.l.r.l.r.r⟩
instance:CoeDep String "p" Pa:=⟨Pa.o.l.l.r.r.l.l⟩
instance:CoeDep String "q" Pa:=⟨Pa.o.r.l.r.r.l.r⟩
instance:CoeDep String "r" Pa:=⟨Pa.o.l.l.r.r.r.r⟩
instance:CoeDep String "s" Pa:=⟨Pa.o.l.r.l.l.l.l⟩
instance:CoeDep String "t" Pa:=⟨Pa.o.l.l.l.r.l.r⟩
instance:CoeDep String "u" Pa:=⟨Pa.o.l.r.r.l.r.l⟩
instance:CoeDep String "v" Pa:=⟨Pa.o.l.l.r.r.r.l⟩
instance:CoeDep String "w" Pa:=⟨Pa.o.l.r.l.l.l.r⟩
instance:CoeDep String "x" Pa:=⟨Pa.o.l.l.l.r.r.r⟩
instance:CoeDep String "y" Pa:=⟨Pa.o.l.r.r.l.l.l⟩
instance:CoeDep String "z" Pa:=⟨Pa.o.l.r.l.r.l.r⟩
instance:CoeDep String "|" Pa:=⟨Pa.o.l.l.r.l.l.l⟩
instance:CoeDep String "~" Pa:=⟨Pa.o.l.r.l.r.r.l⟩
instance:CoeDep String "aa" Pa:=⟨Pa.o.l.r.l.l.r.r⟩
instance:CoeDep String "ab" Pa:=⟨Pa.o.l.r.r.r.l.r⟩
instance:CoeDep String "ac" Pa:=⟨Pa.o.l.r.r.r.r.r⟩
instance:CoeDep String "ad" Pa:=⟨Pa.o.l.r.r.l.l.r⟩
instance:CoeDep String "ae" Pa:=⟨Pa.o.l.r.r.r.l.l⟩
instance:CoeDep String "af" Pa:=⟨Pa.o.r.r.r.r.r.r⟩
instance:CoeDep String "ag" Pa:=⟨Pa.o.l.r.l.r.r.r⟩
instance:CoeDep String "ah" Pa:=⟨Pa.o.l.r.r.l.r.r⟩
instance:CoeDep String "ai" Pa:=⟨Pa.o.l.r.r.r.r.l⟩
instance:CoeDep String "aj" Pa:=⟨Pa.o.r.l.l.l.l.l⟩
instance:CoeDep String "ak" Pa:=⟨Pa.o.r.l.l.l.l.r⟩
instance:CoeDep String "al" Pa:=⟨Pa.o.r.r.l.r.l.l⟩
instance:CoeDep String "am" Pa:=⟨Pa.o.r.l.l.l.r.r⟩
instance:CoeDep String "an" Pa:=⟨Pa.o.r.l.l.l.r.l⟩
instance:CoeDep String "ao" Pa:=⟨Pa.o.r.l.l.r.l.l⟩
instance:CoeDep String "ap" Pa:=⟨Pa.o.r.l.l.r.l.r⟩
instance:CoeDep String "aq" Pa:=⟨Pa.o.r.l.r.r.r.l⟩
instance:CoeDep String "ar" Pa:=⟨Pa.o.r.r.l.r.l.r⟩
instance:CoeDep String "as" Pa:=⟨Pa.o.r.l.r.l.r.l⟩
instance:CoeDep String "at" Pa:=⟨Pa.o.r.r.l.l.r.l⟩
instance:CoeDep String "au" Pa:=⟨Pa.o.r.r.r.l.l.l⟩
instance:CoeDep String "av" Pa:=⟨Pa.o.r.l.l.r.r.l⟩
instance:CoeDep String "aw" Pa:=⟨Pa.o.r.l.r.l.r.r⟩
instance:CoeDep String "ax" Pa:=⟨Pa.o.r.l.r.r.r.r⟩
instance:CoeDep String "ay" Pa:=⟨Pa.o.r.r.l.l.r.r⟩
instance:CoeDep String "az" Pa:=⟨Pa.o.r.r.l.r.r.l⟩
instance:CoeDep String "aA" Pa:=⟨Pa.o.r.r.l.r.r.r⟩
instance:CoeDep String "aB" Pa:=⟨Pa.o.r.r.l.l.l.l⟩
instance:CoeDep String "aC" Pa:=⟨Pa.o.r.r.l.l.l.r⟩
instance:CoeDep String "aD" Pa:=⟨Pa.o.r.l.l.r.r.r⟩
instance:CoeDep String "aE" Pa:=⟨Pa.o.r.l.r.l.l.l⟩
instance:CoeDep String "aF" Pa:=⟨Pa.o.r.l.r.l.l.r⟩
instance:CoeDep String "aG" Pa:=⟨Pa.o.r.r.r.l.l.r⟩
instance:CoeDep String "aH" Pa:=⟨Pa.o.l.l.l.l.l.l.r⟩
instance:CoeDep String "aI" Pa:=⟨Pa.o.r.l.r.r.l.l⟩
instance:CoeDep String "aJ" Pa:=⟨Pa.o.r.r.r.l.r.l⟩
instance:CoeDep String "aK" Pa:=⟨Pa.o.r.r.r.l.r.r⟩
instance:CoeDep String "aL" Pa:=⟨Pa.o.l.l.l.l.l.l.l⟩
instance:CoeDep String "aM" Pa:=⟨Pa.o.r.r.r.r.l.l⟩
instance:CoeDep String "aN" Pa:=⟨Pa.o.l.l.l.l.l.r.l⟩
instance:CoeDep String "aO" Pa:=⟨Pa.o.l.l.l.l.l.r.r⟩
instance:CoeDep String "aP" Pa:=⟨Pa.o.l.l.l.l.r.l.r⟩
instance:CoeDep String "aQ" Pa:=⟨Pa.o.l.l.l.r.l.l.l⟩
instance:CoeDep String "aR" Pa:=⟨Pa.o.l.l.l.r.l.l.r⟩
instance:CoeDep String "aS" Pa:=⟨Pa.o.l.l.l.r.l.r.l⟩
instance:CoeDep String "aT" Pa:=⟨Pa.o.l.l.l.r.l.r.r⟩
instance:CoeDep String "aU" Pa:=⟨Pa.o.r.r.r.r.l.r⟩
instance:CoeDep String "aV" Pa:=⟨Pa.o.r.r.r.r.r.l⟩
instance:CoeDep String "aW" Pa:=⟨Pa.o.l.l.l.l.r.l.l⟩
instance:CoeDep String "aX" Pa:=⟨Pa.o.l.l.l.l.r.r.l⟩
instance:CoeDep String "aY" Pa:=⟨Pa.o.l.l.l.l.r.r.r⟩
instance:CoeDep String "aZ" Pa:=⟨Pa.o.l.l.l.r.r.l.l⟩
instance:CoeDep String "a0" Pa:=⟨Pa.o.l.l.l.r.r.l.r⟩
instance:CoeDep String "a1" Pa:=⟨Pa.o.l.l.r.l.l.r.l⟩
instance:CoeDep String "a2" Pa:=⟨Pa.o.l.l.r.l.r.l.l⟩
instance:CoeDep String "a3" Pa:=⟨Pa.o.l.l.r.r.r.r.r⟩
instance:CoeDep String "a4" Pa:=⟨Pa.o.l.r.l.l.r.l.l⟩
instance:CoeDep String "a5" Pa:=⟨Pa.o.l.r.l.l.r.l.r⟩
instance:CoeDep String "a6" Pa:=⟨Pa.o.l.r.l.l.r.r.l⟩
instance:CoeDep String "a7" Pa:=⟨Pa.o.l.r.l.l.r.r.r⟩
instance:CoeDep String "a8" Pa:=⟨Pa.o.l.r.l.r.l.l.l⟩
instance:CoeDep String "a9" Pa:=⟨Pa.o.l.r.l.r.l.l.r⟩
instance:CoeDep String "ba" Pa:=⟨Pa.o.l.r.l.r.l.r.l⟩
instance:CoeDep String "bb" Pa:=⟨Pa.o.l.r.l.r.l.r.r⟩
instance:CoeDep String "bc" Pa:=⟨Pa.o.l.l.l.r.r.r.l⟩
instance:CoeDep String "bd" Pa:=⟨Pa.o.l.l.l.r.r.r.r⟩
instance:CoeDep String "be" Pa:=⟨Pa.o.l.l.r.l.l.l.l⟩
instance:CoeDep String "bf" Pa:=⟨Pa.o.l.l.r.l.l.l.r⟩
instance:CoeDep String "bg" Pa:=⟨Pa.o.l.l.r.l.l.r.r⟩
instance:CoeDep String "bh" Pa:=⟨Pa.o.l.l.r.l.r.r.l⟩
instance:CoeDep String "bi" Pa:=⟨Pa.o.l.l.r.l.r.r.r⟩
instance:CoeDep String "bj" Pa:=⟨Pa.o.l.l.r.r.l.l.l⟩
instance:CoeDep String "bk" Pa:=⟨Pa.o.l.l.r.r.l.l.r⟩
instance:CoeDep String "bl" Pa:=⟨Pa.o.l.l.r.r.l.r.l⟩
instance:CoeDep String "bm" Pa:=⟨Pa.o.l.l.r.r.r.l.l⟩
instance:CoeDep String "bn" Pa:=⟨Pa.o.l.l.r.r.r.r.l⟩
instance:CoeDep String "bo" Pa:=⟨Pa.o.l.r.l.l.l.l.l⟩
instance:CoeDep String "bp" Pa:=⟨Pa.o.l.r.l.l.l.l.r⟩
instance:CoeDep String "bq" Pa:=⟨Pa.o.l.r.l.l.l.r.l⟩
instance:CoeDep String "br" Pa:=⟨Pa.o.l.r.l.l.l.r.r⟩
instance:CoeDep String "bs" Pa:=⟨Pa.o.l.r.l.r.r.l.l⟩
instance:CoeDep String "bt" Pa:=⟨Pa.o.l.r.l.r.r.l.r⟩
instance:CoeDep String "bu" Pa:=⟨Pa.o.l.r.l.r.r.r.l⟩
instance:CoeDep String "bv" Pa:=⟨Pa.o.l.r.l.r.r.r.r⟩
instance:CoeDep String "bw" Pa:=⟨Pa.o.l.l.r.l.r.l.r⟩
instance:CoeDep String "bx" Pa:=⟨Pa.o.l.r.r.l.l.l.l⟩
instance:CoeDep String "by" Pa:=⟨Pa.o.l.r.r.l.l.l.r⟩
instance:CoeDep String "bz" Pa:=⟨Pa.o.l.r.r.l.r.r.l⟩
instance:CoeDep String "bA" Pa:=⟨Pa.o.r.l.l.l.r.l.l⟩
instance:CoeDep String "bB" Pa:=⟨Pa.o.r.l.r.l.l.r.l⟩
end Go.DD
