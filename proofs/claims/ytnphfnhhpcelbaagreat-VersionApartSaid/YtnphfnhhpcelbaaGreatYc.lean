/- A part. -/
import Derived.Test.YtnphfnhhpcelbaaGreatYb
noncomputable section
namespace Go.DD
open Go.RowKit (Below)
def DS.wanted(s:DS):Option (Nat×Bool)->Option Bool
 | none=>some true
 | some (t,b)=>match s.sv t with
  | .v (.bool c)=>some (c==b)
  | .v (.tuple _)=>some false
  | _=>none
def Sf(P:Program)(r:DR)(s:DS)(K:DS->Prop):Prop:=
 match r.op with
 | .call f args=>eM P f=true/\dS P f (args.map s.rv) s λs' d=>K (s'.put r.dst d)
 | .cv tb x args=>match (s.ev x).tgt tb with
  | some (f,fr,cs)=>eM P f=true/\dS P f (fr++args.map s.rv++cs) s λs' d=>K (s'.put r.dst d)
  | none=>match (s.ev x).tgY tb with
   | some i=>TE P i (args.map s.rv) s λs' d=>K (s'.put r.dst d)
   | none=>False
 | .nxm k x=>match oT s k x with
  | some l=>∀ p∈l,K ((s.upd s.nx p.2).put r.dst p.1)
  | none=>False
 | op=>match exec s op with
  | some (d,s')=>K (s'.put r.dst d)
  | none=>False
def sH(P:Program):List DR->DS->(DS->Prop)->Prop
 | [],s,K=>K s
 | r::rest,s,K=>match s.wanted r.g with
  | some true=>Sf P r s λs'=>sH P rest s' K
  | some false=>sH P rest (s.put r.dst (.v undef)) K
  | none=>False
theorem Au0{P:Program}{c:Call} : lE P (.defer c)=none:=rfl
theorem CM{P:Program}{f:FuncId}(h:eM P f=true)(vs:Array Value)(w:World):(callFunc f vs).run P w=.ok (.enter f vs) w:=by
 unfold eM at h
 split at h
 .rename_i fn hf
  simp only [Bq,bne_iff_ne,ne_eq] at h
  obtain ⟨h1,h2⟩:=h
  have h5:¬ fn.body=none:=by intro hb;rw [hb] at h1;cases h1
  simp [callFunc,hf,h2,h5]
 .cases h
theorem Ax6{dr:Bool}{C:Ctx}{U:Nat->Prop}{s:DS}{β:Nat->Option Nat}{a:Act}{w:World}{ops:Array Oper}{o:Oper}{r:DR}{b:Bool}(hs:HoldsB C U s β a w)(hr:Oc C.P C.nt dr ops o=some r)(hw:s.wanted r.g=some b) :
  Region.wanted o (yielded ops a.tmps)=b:=by
 unfold Oc at hr
 split at hr
 rotate_left
 .cases hr
 split at hr
 rotate_left
 .cases hr
 rename_i hg
 cases hr
 split at hg
 .rename_i C7
  cases hg
  simp [DS.wanted] at hw
  simp [Region.wanted,C7,<- hw]
 .rename_i j want C7
  obtain ⟨t,ht,hg⟩:=Ag.1 hg
  cases hg
  simp only [DS.wanted] at hw
  have h0:=hs.sl t
  split at hw
  .rename_i c hc
   cases hw
   rw [hc] at h0
   have h2:=El (h0.2.1 (λid hi=>by simp [DV.refs] at hi))
   have h3:a.tmps[t]?=some (.bool c):=by
    cases hq:a.tmps[t]? with
    | none=>simp [hq,undef] at h2
    | some u=>simp [hq] at h2;rw [h2]
   simp [Region.wanted,C7,yielded,ht,h3]
  .rename_i vs hc
   cases hw
   rw [hc] at h0
   have h2:=El (h0.2.1 (λid hi=>by simp [DV.refs] at hi))
   have h3:∀ c,a.tmps[t]?≠some (.bool c):=by
    intro c hq
    simp [hq] at h2
   have h4:yielded ops a.tmps j=none:=by
    simp only [yielded,ht,Je]
   simp [Region.wanted,C7,h4]
  .cases hw
theorem A47{P:Program}{nt:Nat}{dr:Bool}{ops:Array Oper}{o:Oper}{r:DR}(h:Oc P nt dr ops o=some r):r.dst=o.dst/\(∀ t,r.dst=some t->t<nt)/\r.op=(lE P o.op).getD .bad:=by
 unfold Oc at h
 split at h
 .rename_i hd
  split at h
  .cases h
   refine ⟨rfl,λt ht=>?_,rfl⟩
   simp only at ht
   rw [ht] at hd
   simpa [F8] using hd
  .cases h
 .cases h
theorem Ax7{P:Program}{op:Op}{f:FuncId}{args:List Operand}(h:lE P op=some (.call f args)):∃ c,op=.call c/\c.callee=.value (.func f)/\args=c.args.toList:=by
 unfold lE at h
 split at h
 case h_22 c=>
  split at h
  .rename_i f' hc;cases h;exact ⟨c,rfl,hc,rfl⟩
  .cases h
  all_goals (exfalso;(repeat' split at h) <;> first | (cases h;done) | (simp [Bg] at h;done) | (obtain ⟨z,_,h⟩:=Bg.1 h;split at h <;> cases h))
 all_goals (exfalso;(repeat' split at h) <;> first | (cases h;done) | (simp [Bg] at h;done) | (obtain ⟨z,_,h⟩:=Bg.1 h;split at h <;> cases h))
theorem A92{P:Program}{op:Op}{tb:Option (List (TypeId×FuncId))}{f:Operand}{args:List Operand}(h:lE P op=some (.cv tb f args)):∃ c,op=.call c/\args=c.args.toList/\((tb=none/\c.callee=.value f)\/∃ name,tb=some (uJ P name)/\c.callee=.invoke f name):=by
 unfold lE at h
 split at h
 case h_22 c=>
  split at h
  .cases h
  .rename_i f' _ hc;cases h;exact ⟨c,rfl,rfl,.inl ⟨rfl,hc⟩⟩
  all_goals (exfalso;(repeat' split at h) <;> first | (cases h;done) | (simp [Bg] at h;done) | (obtain ⟨z,_,h⟩:=Bg.1 h;split at h <;> cases h))
 all_goals (exfalso;(repeat' split at h) <;> first | (cases h;done) | (simp [Bg] at h;done) | (obtain ⟨z,_,h⟩:=Bg.1 h;split at h <;> cases h))
theorem Bn7{P:Program}{op:Op}{k:Bool}{x:Operand}(h:lE P op=some (.nxm k x)):op=if k then .entry x else .next x false:=by
 unfold lE at h
 split at h
 all_goals (exfalso;(repeat' split at h) <;> first | (cases h;done) | (simp [Bg] at h;done) | (obtain ⟨z,_,h⟩:=Bg.1 h;split at h <;> cases h))
theorem Bn8{P:Program}{w:World}{name:String}{T:TypeId}{f:FuncId}(h:uK P name T=some f)(v:Value)(k:Nat):(method (k+1) T v name).run P w=.ok (f,v) w:=by
 unfold uK at h
 split at h
 .rename_i e hu
  split at h
  .rename_i i hi
   split at h
   .rename_i m hm
    split at h
    .rename_i hp
     split at h
     .rename_i f' hf
      cases h
      have MG:m.path.toList=[]:=by
       have:=hp
       simp at this
       rw [this]
      unfold method
      simp only [Sem.run_bind,typeInfo,run_program,hi,Sem.run_pure,Result.andThen_ok,hm,MG,follow,hf,receiverAt,run_underlying hu,Place.get]
     .cases h
    .cases h
   .cases h
  .cases h
 .cases h
theorem Ca9:∀ {l:List (TypeId×FuncId)} {T:TypeId} {f:FuncId},AA l T=some f->(T,f)∈l
 | [],_,_,h=>by cases h
 | p::l,T,f,h=>by
  simp only [AA] at h
  split at h
  .rename_i e;cases h;subst e;simp
  .exact Bn _ (Ca9 h)
theorem Ck4{P:Program}{name:String}{T:TypeId}{f:FuncId}(h:AA (uJ P name) T=some f):uK P name T=some f:=by
 have:=Ca9 h
 unfold uJ at this
 obtain ⟨T',_,hT⟩:=Gp.1 this
 obtain ⟨f',hf,e⟩:=Ag.1 hT
 cases e;exact hf
theorem Ap2{P:Program}{w:World}{name:String}{T:TypeId}{f:FuncId}(h:AA (uJ P name) T=some f)(hc:eM P f=true)(v:Value)(args:Array Value):(callMethod (.iface T v) name args).run P w=.ok (.enter f (#[v]++args)) w:=by
 have hm:=Bn8 (w:=w) (Ck4 h) v (P.types.size+99)
 have hd:P.types.size+Made.depth=P.types.size+99+1:=rfl
 unfold callMethod
 simp only [Sem.run_bind,run_program,Result.andThen_ok,hd,hm]
 exact CM hc _ _
theorem A48{a:Act}(args:Array Operand):args.map a.eval=(args.toList.map a.eval).toArray:=by apply Gq;simp
structure HoldsS (C:Ctx) (s:DS) (β:Nat->Option Nat) (a:Act) (w:World):Prop where
 b:HoldsB C (Us C s.nx) s β a w
 r:∀ id,C.R id->id<s.nx
theorem Holds.of{C:Ctx}{s:DS}{β:Nat->Option Nat}{a:Act}{w:World}(h:HoldsS C s β a w):Holds C s a w:=⟨h.r,β,h.b⟩
theorem HoldsS.exec{C:Ctx}{s s':DS}{β:Nat->Option Nat}{a:Act}{w:World}{o:Oper}{d:DV}{op:DOp}(hs:HoldsS C s β a w)
  (hc:lE C.P o.op=some op) (he:exec s op=some (d,s')):∃ nx w' β' x,(execOp a.eval o).run C.P w=.ok nx w'/\(nx=.value x\/(nx=.skip/\x=undef))/\HoldsS C s' β' a w'/\WV C (Us C s'.nx) (s'.vw C) β' w' x d:=by
 unfold Go.DD.exec at he
 split at he
 rotate_left
 .cases he
 rename_i d' u hu
 cases he
 obtain ⟨nx,w',β',x,h1,h2,h3,h4⟩:=A43 hs.b (λh=>by have:=h.1;omega) hc hu
 have C6:∀ id,Ux (Us C s.nx) s.nx u id->Us C (if u.new=true then s.nx+1 else s.nx) id:=λid hi=>by
  have key:Un (Us C s.nx) s.nx id->Us C (s.nx+1) id:=λh=>by
   rcases h with h | rfl
   .exact ⟨by have:=h.1;omega,h.2⟩
   .exact ⟨by omega,λhr=>by have:=hs.r _ hr;omega⟩
  cases u <;> simp only [Upd.new,Mi,Ph,Ip,Ux] at hi ⊢ <;> first | exact hi | exact key hi
 refine ⟨nx,w',β',x,h1,h2,⟨?_,λid hr=>?_⟩,h4.grow C6⟩
 .obtain ⟨g1,g2,g3,g4,g5,g6⟩:=h3.grow C6
  exact ⟨g1,g2,g3,g4,g5,g6⟩
 .have:=hs.r id hr
  simp only
  split <;> omega
theorem B45{dr:Bool}{C:Ctx}{s:DS}{β:Nat->Option Nat}{a:Act}{w:World}{ops:Array Oper}{o:Oper}{r:DR}{K:DS->Prop}{next:Act->World->Prop}{Q:Exit->Act->World->Prop}(hs:HoldsS C s β a w)(hr:Oc C.P C.nt dr ops o=some r)
  (hk:Sf C.P r s K) (Ul:∀ s' β' a' w',HoldsS C s' β' a' w'->K s'->next a' w'):o.wpIn C.F 0 C.P a w next Q:=by
 obtain ⟨hd,qS,My⟩:=A47 hr
 have Um:∀ c,o.op≠.defer c:=λc hc=>by
  rw [hc,Au0] at My
  simp [Sf,My,exec,Bb] at hk
 have Sr:∀ (s':DS) (β':Nat->Option Nat) (w':World) (x:Value) (d:DV),HoldsS C s' β' a w'->WV C (Us C s'.nx) (s'.vw C) β' w' x d->K (s'.put r.dst d)->next (a.put o.dst x) w':=λs' β' w' x d h1 h2 h3=>by
  rw [<- hd]
  exact Ul _ β' _ w' ⟨by rw [DS.nx_put];exact h1.b.put r.dst qS h2,by rw [DS.nx_put];exact h1.r⟩ h3
 have iE:∀ f (vs:List Value) (ds:List DV),vs.length=ds.length->(∀ (j:Nat) (v:Value) (d:DV),vs[j]?=some v->ds[j]?=some d->WV C (Us C s.nx) (s.vw C) β w v d)->eM C.P f=true->
   dS C.P f ds s (λs' d=>K (s'.put r.dst d))->(execOp a.eval o).run C.P w=.ok (.enter f vs.toArray) w->o.wpIn C.F 0 C.P a w next Q:=by
  intro f vs ds hl Ct Yi D3 Hl
  refine ⟨λ_ _=>trivial,?_⟩
  rw [Oper.semAt_plain _ _ _ Um,Hl,Oper.uponIn_enter]
  refine ⟨λh=>by simp [Ctx.F,Fence.wide] at h,A44 ((Ck3 hs.b hs.r hl Ct D3).mono ?_)⟩
  rintro e w' ⟨v,d,s',β',rfl,hK,nJ,hh,Uk⟩
  exact Sr s' β' w' v d ⟨hh,nJ⟩ Uk hK
 have Fh:∀ (args:List Operand) (j:Nat) (v:Value) (d:DV),(args.map a.eval)[j]?=some v->(args.map s.rv)[j]?=some d->WV C (Us C s.nx) (s.vw C) β w v d:=by
  intro args j v d hv hd
  simp only [Df,Ag] at hv hd
  obtain ⟨x,hx,rfl⟩:=hv
  obtain ⟨y,hy,rfl⟩:=hd
  rw [hx] at hy;cases hy
  exact hs.b.rvw x
 cases hc:lE C.P o.op with
 | none=>rw [hc] at My;simp [Sf,My,exec,Bb] at hk
 | some op=>
  rw [hc] at My
  simp only [Gm] at My
  unfold Sf at hk
  rw [My] at hk
  split at hk
  .rename_i f args
   obtain ⟨c,ho,Jy,rfl⟩:=Ax7 hc
   refine iE f (c.args.toList.map a.eval) (c.args.toList.map s.rv) (by simp) (Fh _) hk.1 hk.2 ?_
   simp [execOp,ho,resolve,Jy,Deferred.ofValue,Act.eval,invoke,CM hk.1,A48]
  .rename_i tb x args
   obtain ⟨c,ho,rfl,Jy⟩:=A92 hc
   split at hk
   .rename_i f fr cs P2
    rcases Jy with ⟨rfl,Jy⟩ | ⟨name,rfl,Jy⟩
    .have hx:=A08 P2
     simp only at hx
     have h1:=hs.b.ev x
     rw [hx] at h1
     obtain ⟨us,vs,e1,bD,Yf,pM,pL⟩:=Bc9 h1
     refine iE _ (us++c.args.toList.map a.eval++vs) (fr++c.args.toList.map s.rv++cs) (by simp [bD,Yf]) (XM (by simp [bD]) (XM bD (λj v d hv hd=>?_) (Fh _)) λj v d hv hd=>?_) hk.1 hk.2 ?_
     .exact hs.b.evp x (pM _ v d hv hd) λid hi=>by rw [hx,DV.refs,DV.refsL,DV.refs];exact Dw _ (DV.refsL_mem (Aw hd) hi)
     .exact hs.b.evp x (pL _ v d hv hd) λid hi=>by rw [hx,DV.refs,DV.refsL];exact Dm _ (DV.refsL_mem (Aw hd) hi)
     .have h3:(us.toArray++(c.args.map a.eval++vs.toArray):Array Value)=(us++(c.args.toList.map a.eval++vs)).toArray:=by apply Gq;simp
      simp [execOp,ho,resolve,Jy,e1,Deferred.ofValue,invoke]
      rw [h3]
      exact CM hk.1 _ _
    .simp only [DV.tgt] at P2
     split at P2
     .rename_i T e hx
      obtain ⟨f',Tv,AD⟩:=Ag.1 P2
      cases AD
      have h1:=hs.b.ev x
      rw [hx] at h1
      obtain ⟨u,e1,Ct⟩:=BY h1
      refine iE _ ([u]++c.args.toList.map a.eval) ([e]++c.args.toList.map s.rv ++ []) (by simp) (λj v d hv hd=>?_) hk.1 hk.2 ?_
      .rw [Bu] at hd
       cases j with
       | zero=>
        simp at hv hd
        subst hv hd
        exact hs.b.evp x Ct λid hi=>by rw [hx,DV.refs];exact hi
       | succ j=>exact Fh c.args.toList j v d hv hd
      .have h3:=Ap2 (w:=w) Tv hk.1 u (c.args.map a.eval)
       have h4:(#[u]++c.args.map a.eval:Array Value)=([u]++c.args.toList.map a.eval).toArray:=by apply Gq;simp
       rw [h4] at h3
       have h5:Array.extract (#[a.eval x]++c.args.map a.eval) 1 (#[a.eval x]++c.args.map a.eval).size=c.args.map a.eval:=by
        apply Gq
        simp [List.extract_eq_take_drop]
        exact Bm (by simp)
       have h6:(#[a.eval x]++c.args.map a.eval:Array Value)[0]?=some (.iface T u):=by rw [e1];first | rfl | simp [Xw]
       simp only [execOp,ho,resolve,Jy,Sem.run_bind,Sem.run_pure,Result.andThen_ok,invoke,h6,h5,h3]
     .cases P2
   .split at hk
    .rename_i i hi
     have AB:=(Bf8 hi).2
     obtain ⟨rfl,_⟩:=Bf8 hi
     rcases Jy with ⟨_,Jy⟩ | ⟨name,h,_⟩
     rotate_left
     .cases h
     have h1:=hs.b.ev x
     rw [AB] at h1
     obtain ⟨b,e1,hb⟩:=XL h1
     obtain ⟨fn,tmps,assign,body,hy,Q2⟩:=B44 (vs:=c.args.toList.map a.eval) (ds:=c.args.toList.map s.rv) hs.b hs.r hb (by simp) (Fh _) hk
     refine ⟨λ_ _=>trivial,?_⟩
     have Hl:(execOp a.eval o).run C.P w=.ok (.round b fn tmps assign body) w:=by
      rw [<- hy]
      simp [execOp,ho,resolve,Jy,e1,Deferred.ofValue,invoke,A48]
     rw [Oper.semAt_plain _ _ _ Um,Hl,Oper.uponIn_round]
     refine ⟨λh=>by simp [Ctx.F,Fence.wide] at h,Q2.mono ?_⟩
     rintro e w' ⟨v,d,s',β',rfl,hK,nJ,hh,Uk⟩
     exact Sr s' β' w' v d ⟨hh,nJ⟩ Uk hK
    .exact hk.elim
  .rename_i k x
   have ho:=Bn7 hc
   split at hk
   .rename_i l hl
    obtain ⟨p,hp,nx,w',β',y,h1,h2,h3,h4⟩:=Ct3 (nid:=s.nx) ho hs.b hl
    refine ⟨λ_ _=>trivial,?_⟩
    rw [Oper.semAt_plain _ _ _ Um,h1]
    have h5:HoldsS C (s.upd s.nx p.2) β' a w':=⟨h3,hs.r⟩
    rcases h2 with rfl | ⟨rfl,rfl⟩
    .exact Sr _ β' w' y p.1 h5 h4 (hk p hp)
    .exact Sr _ β' w' undef p.1 h5 h4 (hk p hp)
   .exact hk.elim
  .rename_i aWb aWa aW9
   split at hk
   .rename_i d s' he
    obtain ⟨nx,w',β',x,h1,h2,h3,h4⟩:=hs.exec hc he
    refine ⟨λ_ _=>trivial,?_⟩
    rw [Oper.semAt_plain _ _ _ Um,h1]
    rcases h2 with rfl | ⟨rfl,rfl⟩
    .exact Sr s' β' w' x d h3 h4 hk
    .exact Sr s' β' w' undef d h3 h4 hk
   .exact hk.elim
theorem Ax8{dr:Bool}{C:Ctx}{ops:Array Oper}{K:DS->Prop}{Q:Exit->Act->World->Prop}(hQ:∀ s β a w,HoldsS C s β a w->K s->Q .normal a w) :
  ∀ (l:List DR) (i:Nat) (s:DS) (β:Nat->Option Nat) (a:Act) (w:World),(∀ (j:Nat) (r:DR),l[j]?=some r->∃ o,ops[i+j]?=some o/\Oc C.P C.nt dr ops o=some r)->
   HoldsS C s β a w->sH C.P l s K->wpOpsIn C.F 0 C.P ops Q (List.range' i l.length) a w
 | [],i,s,β,a,w,_,hs,hk=>by simp only [Md,List.range'_zero,wpOpsIn];exact hQ s β a w hs hk
 | r::rest,i,s,β,a,w,hl,hs,hk=>by
  obtain ⟨o,ho,hr⟩:=hl 0 r rfl
  simp only [Nat.add_zero] at ho
  have Zc:∀ (j:Nat) (r':DR),rest[j]?=some r'->∃ o,ops[i+1+j]?=some o/\Oc C.P C.nt dr ops o=some r':=λj r' hj=>by
   have:=hl (j+1) r' (by simpa using hj)
   rwa [show i+(j+1)=i+1+j by omega] at this
  obtain ⟨hd,qS,_⟩:=A47 hr
  simp only [sH] at hk
  simp only [Fi,List.range'_succ,wpOpsIn,ho]
  split at hk
  .rename_i hw
   rw [Ah (Ax6 hs.b hr hw)]
   exact B45 hs hr hk (λs' β' a' w' h1 h2=>Ax8 hQ rest (i+1) s' β' a' w' Zc h1 h2)
  .rename_i hw
   rw [Ax6 hs.b hr hw]
   simp only [Mi,Ph]
   refine ⟨λ_ _=>trivial,Ax8 hQ rest (i+1) _ β _ w Zc ?_ hk⟩
   rw [<- hd]
   exact ⟨by rw [DS.nx_put];exact hs.b.put r.dst qS (WV.v undef),by rw [DS.nx_put];exact hs.r⟩
  .exact hk.elim
def xF(next:DS->Prop)(Q:Exit->DS->Prop):Exit->DS->Prop
 | .normal,s=>next s
 | e,s=>Q e s
def rZ(id:Nat)(Q:Exit->DS->Prop):Exit->DS->Prop
 | .exit pF,s=>if pF=id then Q .normal s else Q (.exit pF) s
 | e,s=>Q e s
section rules
variable {C:Ctx} {Q:Exit->DS->Prop} {s:DS}
theorem DW.reg{ops:List DR}{info:RI}(h:sH C.P ops s λs'=>Q .normal s'):DW C (.reg false ops info) Q s:=by
 intro code hc a w ⟨hR,β,hs⟩
 obtain ⟨id,os,rfl,hl,_⟩:=Aw4 hc
 obtain ⟨h1,h2⟩:=mapM_some hl
 refine wpIn_region ?_
 have:=Ax8 (dr:=false) (ops:=os) (K:=λs'=>Q .normal s') (Q:=Uj C Q) (λs β a w hh hk=>⟨s,hk,.of hh⟩) ops 0 s β a w (λj r hj=>?_) ⟨hs,hR⟩ h
 .rw [h1,Ef,<- List.range_eq_range'] at this
  exact this
 .have Xt:j<os.toList.length:=by have:=(Ar.1 hj).1;omega
  have:=h2 j os.toList[j] r (Aa Xt) hj
  exact ⟨os.toList[j],by simp at Xt ⊢,this⟩
theorem DW.mono{c:DC}{Q':Exit->DS->Prop}(h:DW C c Q s)(hq:∀ e s,Q e s->Q' e s):DW C c Q' s:=
 λcode hc a w hs=>wpIn_mono (h code hc a w hs) λ_ _ _ ⟨s,h1,h2⟩=>⟨s,hq _ _ h1,h2⟩
theorem DW.dfq{t:Nat}{g:FuncId}{cap:List Operand}(Qr:C.rd=none)(h:Q .normal (s.put (some t) (.fn (.func g) (.tup []::cap.map s.ev)))):DW C (.dfq t g cap) Q s:=by
 intro code hc a w ⟨hR,β,hs⟩
 obtain ⟨id,os,rfl,hd⟩:=Bp3 hc
 obtain ⟨o,p,first,c,cs,rfl,My,rfl,vK,hg,oa,MD,hpg,Jy,hf0,hc0,ht,hq⟩:=Bm7 hd
 have qu:first = #[]:=Oo hf0
 obtain ⟨nx,w1,β1,x,h1,h2,h3,h4⟩:=Ca2 My hs
 rw [qu] at h4
 have Hl:(execOp a.eval o).run C.P w=.ok (.value (.func (.func g) #[] (cs.map a.eval))) w:=by
  have:first = #[]:=Oo hf0
  simp [execOp,My,Instr.makeFunc,this]
 rw [Hl] at h1
 cases h1
 have hx:x=.func (.func g) #[] (cs.map a.eval):=by
  rcases h2 with h2 | ⟨h2,_⟩
  .cases h2;rfl
  .cases h2
 subst hx
 refine wpIn_region ?_
 have g0:(#[o,p]:Array Oper)[0]?=some o:=rfl
 have g1:(#[o,p]:Array Oper)[1]?=some p:=rfl
 have gw0:∀ y,Region.wanted o y=true:=λy=>by unfold Region.wanted;rw [hg]
 have gw1:∀ y,Region.wanted p y=true:=λy=>by unfold Region.wanted;rw [hpg]
 show wpOpsIn C.F 0 C.P #[o,p] (Uj C Q) [0,1] a w
 simp only [wpOpsIn,g0,g1,gw0,gw1,Ip]
 have Um:∀ c,o.op≠.defer c:=λc hc=>by rw [My] at hc;cases hc
 refine ⟨λ_ _=>trivial,?_⟩
 rw [Oper.semAt_plain _ _ _ Um,Hl,Oper.uponIn_value,vK]
 have hp:=h3.put (some t) (λt' e=>by cases e;exact ht) h4
 have Tx:(a.put (some t) (.func (.func g) #[] (cs.map a.eval))).eval (.tmp t)=.func (.func g) #[] (cs.map a.eval):=by
  have:t<a.tmps.size:=by rw [hs.sz];exact ht
  simp [Act.put,Act.eval,this]
 have hrn:C.F.round=none:=by
  show C.rd=none
  exact Qr
 refine ⟨λ_ _=>trivial,?_⟩
 have Fh:c.args = #[]:=Oo hc0
 have LR:(execOp (a.put (some t) (.func (.func g) #[] (cs.map a.eval))).eval p).run C.P w=.ok (.defer { target:=.fn (.func g) (cs.map a.eval),args:=#[] }) w:=by
  simp [execOp,oa,resolve,Jy,Fh,Tx,Deferred.ofValue]
 rw [hrn,Oper.semAt_none,LR,Oper.uponIn_defer,MD]
 refine ⟨_,h,by rw [DS.nx_put];exact hR,β1,?_⟩
 rw [DS.nx_put]
 exact ⟨hp.hh,hp.df.quiet ⟨g,_,hq,rfl⟩,hp.sz,hp.sl,hp.gh,hp.yd⟩
theorem DW.skip(h:Q .normal s):DW C .skip Q s:=by
 intro code hc a w hs
 obtain rfl:=Bm8 hc
 exact wpIn_skip ⟨s,h,hs⟩
theorem DW.ret(h:Q .ret s):DW C .ret Q s:=by
 intro code hc a w hs
 obtain rfl:=Bp4 hc
 exact wpIn_ret ⟨s,h,hs⟩
theorem DW.exit{id:Nat}(h:Q (.exit id) s):DW C (.exit id) Q s:=by
 intro code hc a w hs
 obtain rfl:=Bm9 hc
 exact wpIn_exit ⟨s,h,hs⟩
theorem DW.seq{x y:DC}(h:DW C x (xF (DW C y Q) Q) s):DW C (.seq x y) Q s:=by
 intro code hc a w hs
 obtain ⟨p,q,rfl,hx,hy⟩:=Bp5 hc
 refine wpIn_seq (wpIn_mono (h p hx a w hs) ?_)
 rintro e a w ⟨s',h1,h2⟩
 cases e <;> first | exact h1 q hy a w h2 | exact ⟨s',h1,h2⟩
theorem DW.cond{x:Operand}{y z:DC}{b:Bool}(hb:s.ev x=.v (.bool b))(ht:b=true->DW C y Q s)(hf:b=false->DW C z Q s):DW C (.cond x y z) Q s:=by
 intro code hc a w hs
 obtain ⟨p,q,rfl,hy,hz⟩:=Bn0 hc
 have Rp:=hs
 obtain ⟨hR,β,hh⟩:=hs
 have h1:=hh.ev x
 rw [hb] at h1
 exact wpIn_cond_split (El h1) (λh=>ht h _ hy a w Rp) (λh=>hf h _ hz a w Rp)
theorem DW.blk{id:Nat}{c:DC}(h:DW C c (rZ id Q) s):DW C (.blk id c) Q s:=by
 intro code hc a w hs
 obtain ⟨p,rfl,Jd⟩:=Bp6 hc
 refine wpIn_block (wpIn_mono (h _ Jd a w hs) ?_)
 rintro e a w ⟨s',h1,h2⟩
 cases e <;> first | exact ⟨s',h1,h2⟩ | skip
 rename_i pF
 simp only [rZ] at h1
 simp only [Exit.inBlock]
 split
 .rename_i he;rw [Ah he] at h1;exact ⟨s',h1,h2⟩
 .rename_i he;rw [Ae he] at h1;exact ⟨s',h1,h2⟩
theorem DW.loop{c:DC}(I:Nat->DS->Prop)(n:Nat)(h0:I n s)(round:∀ n s,I n s->DW C c (xF (λs'=>∃ m,m<n/\I m s') Q) s):DW C (.loop c) Q s:=by
 intro code hc a w hs
 obtain ⟨p,rfl,Jd⟩:=Bn1 hc
 intro b k cs hro hb hr
 have key:∀ (n:Nat) (s:DS),I n s->∀ a w,Holds C s a w->∃ e a' w',Uj C Q e a' w'/\ArrivesIn (Machine.fenced C.P C.F) C.P (lone (b.atR a (.code p :: .inLoop p::k)) cs w) b k cs e a' w':=by
  intro n
  induction n using Nat.strongRecOn with
  | _ n ih=>
   intro s hI a w hs
   obtain ⟨e,a₁,w₁,⟨s',h1,h2⟩,dC⟩:=round n s hI _ Jd a w hs b (.inLoop p::k) cs hro hb hr
   cases e with
   | normal=>
    obtain ⟨m,hm,hI'⟩:=h1
    obtain ⟨e₂,a₂,w₂,hq₂,OH⟩:=ih m hm s' hI' a₁ w₁ h2
    exact ⟨e₂,a₂,w₂,hq₂,.of_steps (StepsIn.trans dC (.one (fenced_calm hb hr rfl) stepR_inLoop)) OH⟩
   | exit id=>exact ⟨_,a₁,w₁,⟨s',h1,h2⟩,.pass (x:=.inLoop p) rfl (λ_ _=>.inl (by simp)) dC⟩
   | goto l=>exact ⟨_,a₁,w₁,⟨s',h1,h2⟩,.pass (x:=.inLoop p) rfl (λ_ _=>.inl (by simp)) dC⟩
   | ret=>exact ⟨_,a₁,w₁,⟨s',h1,h2⟩,.pass (x:=.inLoop p) rfl (λ_ _=>.inl (by simp)) dC⟩
   | panic ch=>exact ⟨_,a₁,w₁,⟨s',h1,h2⟩,.pass (x:=.inLoop p) rfl (λ_ _=>.inl (by simp)) dC⟩
   | outgrown=>exact ⟨_,a₁,w₁,⟨s',h1,h2⟩,.pass (x:=.inLoop p) rfl (λ_ _=>.inl (by simp)) dC⟩
 obtain ⟨e,a',w',hq,dC⟩:=key n s h0 a w hs
 exact ⟨e,a',w',hq,.of_steps (.one (fenced_calm hb hr rfl) stepR_loop) dC⟩
theorem DW.rng{g:Operand}{ps:List Nat}{x y:DC}{sl:Sl}(nE:sl.get=s.sv)(Qr:C.rd=none){f:FuncId}{Pr:List DV}
  (hg:(s.ev g).asFn=some (f,Pr)) (Yi:eM C.P f=true)
  (h:Sz C.P f (.yl s.nx::Pr) { s with ho:=Gr s.ho s.nx (some (.loop ⟨C.nt,sl,ps,x,y,.ready,none⟩)),nx:=s.nx+1 } λs2 _=>∃ lp,s2.ho s.nx=some (.loop lp)/\lp.st≠.busy/\match lp.pend with
   | none=>Q .normal (s2.lay s.nx none)
   | some .ret=>Q .ret (s2.lay s.nx none)
   | some (.exit i)=>Q (.exit i) (s2.lay s.nx none)
   | _=>False):DW C (.rng g ps x y) Q s:=by
 intro code hc a w ⟨hR,β,hs⟩
 obtain ⟨qs,ac,bc,rfl,UZ,aFe,hx,hy⟩:=Bp7 hc
 refine wpIn_rangeFunc λfn _=>?_
 have hFr:C.F.round=none:=Qr
 rw [hFr]
 obtain ⟨rec,Q3⟩:∃ rec:Loop,rec = { state:=.ready,pending:=none,fn,tmps:=a.tmps,params:=qs,assign:=ac,body:=bc,defers:=w.heap.size }:=⟨_,rfl⟩
 obtain ⟨w1,nD⟩:∃ w1,(w.alloc (.deferred (some []))).alloc (.loop rec)=w1:=⟨_,rfl⟩
 have aVh:w1.heap.size=w.heap.size+2:=by rw [<- nD];simp
 have hD:w1.heap[w.heap.size]?=some (.deferred (some [])):=by
  rw [<- nD];exact (Below.heap_alloc _ _ _ (by simp)).trans (World.alloc_heap_new w _)
 have hL:w1.heap[w.heap.size+1]?=some (.loop rec):=by
  rw [<- nD];have:=World.alloc_heap_new (w.alloc (.deferred (some []))) (.loop rec);rwa [World.size_alloc] at this
 have Oh:Below w.heap.size w w1:=by
  rw [<- nD];exact ((Below.refl _ w).alloc (Af _) _).alloc (by simp) _
 obtain ⟨id,hid⟩:∃ id,s.nx=id:=⟨_,rfl⟩
 have Ru:¬ Us C s.nx id:=λh=>by have:=h.1;omega
 obtain ⟨s1,Co⟩:∃ s1:DS,{ s with ho:=Gr s.ho s.nx (some (.loop ⟨C.nt,sl,ps,x,y,.ready,none⟩)),nx:=s.nx+1 } = s1:=⟨_,rfl⟩
 have B5:s1.nx=id+1:=by rw [<- Co,<- hid]
 have sn:∀ i,C.R i->i<s1.nx:=λi hi=>by have:=hR i hi;omega
 have bD:HoldsB C (Us C s1.nx) s1 (upd β id (some (w.heap.size+1))) a w1:=by
  have ht:=(hs.turned (β':=upd β id (some (w.heap.size+1))) (w':=w1) Ru none (λ_ h=>by cases h) (.loop ⟨C.nt,sl,ps,x,y,.ready,none⟩) (λb hb _=>Oh.block b hb) Oh.os Oh.tape Oh.output Oh.size (λj hj _=>tK β _ hj) (λ_ h=>by cases h)
   (λb hb=>by rw [Fl] at hb;cases hb;exact ⟨.inr (by omega),by omega⟩)
   (λCt=>by
    subst Q3
    exact ⟨_,_,Fl _ _ _,hL,UZ,hs.sz,hx,hy,rfl,rfl,λt=>by rw [nE];exact Ct _ _ (hs.sl t)⟩)).1
  have bW:=ht.grow (U':=Us C s1.nx) λi hi=>by
   rcases hi with hi | rfl
   .exact ⟨by have:=hi.1;omega,hi.2⟩
   .exact ⟨by omega,λhr=>by have:=hR _ hr;omega⟩
  have e:s1.ho=(s.upd id (.mv none (.loop ⟨C.nt,sl,ps,x,y,.ready,none⟩))).ho:=by rw [<- Co,hid];rfl
  have e2:s1.vw C=(s.upd id (.mv none (.loop ⟨C.nt,sl,ps,x,y,.ready,none⟩))).vw C:=by unfold DS.vw;rw [e]
  have e3:s1.sv=s.sv:=by rw [<- Co]
  obtain ⟨g1,g2,g3,g4,g5,g6⟩:=bW
  exact ⟨by rw [e2];exact g1,g2,g3,by rw [e2,e3];exact g4,by rw [e2];exact g5,by rw [e];exact g6⟩
 have B3:∀ (d:Deferred) (D:Nat) (β':Nat->Option Nat),Mark C β' w d->d = { target:=.collected D,args:=#[] }->D<w.heap.size:=λd D β' hm e=>by
  obtain ⟨D',e',h1,_⟩:=hm
  rw [e] at e'
  simp only [Deferred.mk.injEq,Target.collected.injEq,and_true] at e'
  subst e'
  exact (Ck.1 h1).1
 have pJ:HoldsB C (Us C s1.nx) s1 (upd β id (some (w.heap.size+1))) { a with defers:=[{ target:=.collected w.heap.size,args:=#[] }]++a.defers } w1:=by
  refine ⟨bD.hh,⟨?_,λd hd=>?_,bD.df.out,λD sZ hM=>?_⟩,bD.sz,bD.sl,bD.gh,bD.yd⟩
  .rw [List.singleton_append,Vd (by rfl),List.nodup_cons]
   exact ⟨λhm=>by have:=B3 _ _ _ (hs.df.ownC (Gh.1 hm).1) rfl;omega,hs.df.nodup⟩
  .rcases Ak.1 hd with rfl | hd
   .refine .inl ⟨_,rfl,hD,hs.hh.bel.size,λj hj=>?_⟩
    by_cases Nl:j=id
    .subst Nl;rw [Fl] at hj;simp at hj
    .rw [tK β _ Nl] at hj;have:=hs.hh.lt hj;omega
   .exact bD.df.own d hd
  .rcases Ak.1 sZ with e | sZ
   .simp only [Deferred.mk.injEq,Target.collected.injEq,and_true] at e
    subst e
    have:=B3 _ _ _ (hs.df.out _ hM) rfl
    omega
   .exact hs.df.apart D sZ hM
 have Xu:=hs.ev g
 have S8:=Bp8 hg
 simp only at S8
 rw [S8] at Xu
 obtain ⟨us,vs,e1,hus,hl,_,Ct⟩:=Bc9 Xu
 have mj:us=[]:=Ex (by simpa using hus)
 subst mj
 have F7:a.eval g=.func (.func f) #[] vs.toArray:=by rw [<- e1]
 -- what was captured is as it was
 have Tz:∀ (j:Nat) (v:Value) (d:DV),vs[j]?=some v->Pr[j]?=some d->WV C (Us C s1.nx) (s1.vw C) (upd β id (some (w.heap.size+1))) w1 v d:=λj v d hv hd=>by
  have h1:=hs.evp g (Ct j v d hv hd) λi hi=>by rw [S8,DV.refs,DV.refsL];exact Dm _ (DV.refsL_mem (Aw hd) hi)
  have ht:=(hs.turned (β':=upd β id (some (w.heap.size+1))) (w':=w1) Ru none (λ_ h=>by cases h) (.loop ⟨C.nt,sl,ps,x,y,.ready,none⟩) (λb hb _=>Oh.block b hb) Oh.os Oh.tape Oh.output Oh.size (λj hj _=>tK β _ hj) (λ_ h=>by cases h)
   (λb hb=>by rw [Fl] at hb;cases hb;exact ⟨.inr (by omega),by omega⟩)
   (λCt=>by
    subst Q3
    exact ⟨_,_,Fl _ _ _,hL,UZ,hs.sz,hx,hy,rfl,rfl,λt=>by rw [nE];exact Ct _ _ (hs.sl t)⟩)).2 _ _ h1
  have e2:s1.vw C=(s.upd id (.mv none (.loop ⟨C.nt,sl,ps,x,y,.ready,none⟩))).vw C:=by rw [<- Co,hid];rfl
  rw [e2]
  refine ht.grow λi hi=>?_
  rcases hi with hi | rfl
  .exact ⟨by have:=hi.1;omega,hi.2⟩
  .exact ⟨by omega,λhr=>by have:=hR _ hr;omega⟩
 have qe:s1.ho id=some (.loop ⟨C.nt,sl,ps,x,y,.ready,none⟩):=by rw [<- Co,hid];simp
 have AB:WV C (Us C s1.nx) (s1.vw C) (upd β id (some (w.heap.size+1))) w1 (.func (.yield (w.heap.size+1)) #[] #[]) (.yl id):=
  bD.hh.wv (.yl id _ (Fl _ _ _)) λi hi=>by
   obtain rfl:i=id:=by simpa [DV.refs] using hi
   exact sK (by rw [qe];rfl)
 rw [Co,hid] at h
 refine ⟨w.heap.size+1,[{ target:=.collected w.heap.size,args:=#[] }],w1,{ target:=.fn (.func f) vs.toArray,args:=#[.func (.yield (w.heap.size+1)) #[] #[]] },w1,f,
  #[.func (.yield (w.heap.size+1)) #[] #[]]++vs.toArray,w1,?_,?_,λ_ _=>trivial,?_,λh=>by simp [Ctx.F,Fence.wide] at h,?_⟩
 .rw [<- nD,Q3];exact run_enterLoop_outer _ _ _ _ _
 .simp only [resolve,F7]
  simp [go_sem]
 .simp [invoke,CM Yi]
 .refine A44 ?_
  have R6:Sz C.P f (.yl id::Pr) s1 λs2 _=>∃ lp,s2.ho id=some (.loop lp)/\lp.st≠.busy/\match lp.pend with
   | none=>Q .normal (s2.lay id none)
   | some .ret=>Q .ret (s2.lay id none)
   | some (.exit i)=>Q (.exit i) (s2.lay id none)
   | _=>False:=h
  have hX':=pJ
  -- the yield's record goes on lying where it lies: others hold it
  obtain ⟨C2,Nz⟩:∃ C2:Ctx,C2 = { C with X:=λx d=>C.X x d\/(x=.func (.yield (w.heap.size+1)) #[] #[]/\d=.yl id) }:=⟨_,rfl⟩
  have hsX:HoldsB C2 (Us C2 s1.nx) s1 (upd β id (some (w.heap.size+1))) { a with defers:=[{ target:=.collected w.heap.size,args:=#[] }]++a.defers } w1:=by
   obtain ⟨g1,g2,g3,g4,g5,g6⟩:=pJ
   obtain ⟨q1,q2⟩:=HH.ctx (C:=C) (C':=C2) (by rw [Nz]) (by rw [Nz]) (by rw [Nz]) (by rw [Nz]) g1
   have eU:Us C2 s1.nx=Us C s1.nx:=by rw [Nz];rfl
   have eV:s1.vw C2=s1.vw C:=by rw [Nz];rfl
   refine ⟨by rw [eU,eV];exact q1,⟨g2.nodup,λd hd=>?_,λD hD=>?_,λD hD=>?_⟩,by rw [Nz];exact g3,λt=>by rw [eU,eV];exact (q2 _ _).2 (g4 t),λv d hx=>?_,by rw [Nz];exact g6⟩
   .have:=g2.own d hd;rw [Nz];exact this
   .rw [Nz] at hD ⊢;exact g2.out D hD
   .rw [Nz];exact g2.apart D hD
   .rw [eU,eV,q2]
    rw [Nz] at hx
    rcases hx with (hx | ⟨rfl,rfl⟩) | hx
    .exact g5 _ _ (.inl hx)
    .exact AB
    .exact g5 _ _ (.inr hx)
  have OU:C2.P=C.P:=by rw [Nz]
  have Ny:=Bh1 (C:=C2) (vs:=.func (.yield (w.heap.size+1)) #[] #[]::vs) (ds:=.yl id::Pr) hsX (by rw [Nz];exact sn) (by simp [hl]) (λj v d hv hd=>by
   have e:∀ v d,WV C2 (Us C2 s1.nx) (s1.vw C2) (upd β id (some (w.heap.size+1))) w1 v d↔WV C (Us C s1.nx) (s1.vw C) (upd β id (some (w.heap.size+1))) w1 v d:=λv d=>by rw [Nz];exact Dp
   rw [e]
   cases j with
   | zero=>simp at hv hd;subst hv hd;exact AB
   | succ j=>exact Tz j v d (by simpa using hv) (by simpa using hd)) (by rw [OU];exact R6)
  rw [OU] at Ny
  have Fh:(Value.func (.yield (w.heap.size+1)) #[] #[]::vs).toArray = #[.func (.yield (w.heap.size+1)) #[] #[]]++vs.toArray:=by simp
  rw [Fh] at Ny
  refine Ny.mono ?_
  rintro e w3 ⟨v,d,s2,β2,rfl,⟨lp,jV,Ro,bZ⟩,V3,LP,_⟩
  have bE:β2 id=some (w.heap.size+1):=by
   have h1:=(LP.gh (.func (.yield (w.heap.size+1)) #[] #[]) (.yl id) (.inl (by rw [Nz];exact .inr ⟨rfl,rfl⟩))).2.1 λi hi=>by
    obtain rfl:i=id:=by simpa [DV.refs] using hi
    exact sK (by rw [jV];rfl)
   obtain ⟨b2,e,bE⟩:=XL h1
   cases e;exact bE
  have Mf:HoldsB C (Us C s2.nx) s2 β2 { a with defers:=[{ target:=.collected w.heap.size,args:=#[] }]++a.defers } w3:=by
   obtain ⟨g1,g2,g3,g4,g5,g6⟩:=LP
   obtain ⟨q1,q2⟩:=HH.ctx (C:=C2) (C':=C) (by rw [Nz]) (by rw [Nz]) (by rw [Nz]) (by rw [Nz]) g1
   have eU:Us C2 s2.nx=Us C s2.nx:=by rw [Nz];rfl
   have eV:s2.vw C2=s2.vw C:=by rw [Nz];rfl
   rw [eU,eV] at q1 q2
   refine ⟨q1,⟨g2.nodup,λd hd=>?_,λD hD=>?_,λD hD=>?_⟩,by rw [Nz] at g3;exact g3,λt=>(q2 _ _).2 (by have:=g4 t;rwa [eU,eV] at this),λv d hx=>(q2 _ _).2 (by have:=g5 v d (hx.imp (λhx=>by rw [Nz];exact .inl hx) (λh=>h));rwa [eU,eV] at this),by rw [Nz] at g6;exact g6⟩
   .have:=g2.own d hd;rw [Nz] at this;exact this
   .have:=g2.out D (by rw [Nz];exact hD);rw [Nz] at this;exact this
   .have:=g2.apart D hD;rw [Nz] at this;exact this
  obtain ⟨b',r2,Kj,jS,_,_,_,_,q5,q6,_⟩:=Mf.hh.hp id _ (mV jV)
  rw [bE] at Kj;cases Kj
  have aWj:=(Ck.1 jS).1
  have OA:=run_endLoop (P:=C.P) jS (by rw [q5];exact Ro)
  have Hr:Holds C (s2.lay id none) { a with defers:=[{ target:=.collected w.heap.size,args:=#[] }]++a.defers } (w3.putObj (w.heap.size+1) (.loop { r2 with state:=.exhausted })):=by
   -- first the record is written,then it is forgotten
   have hm:=Mf.mark bE jV jS .exhausted r2.pending
   have MY:=hm.hh.less (U':=Us C s2.nx) (V':=(s2.lay id none).vw C) (β':=upd β2 id none) (λ_ h=>h) (λi=>?_) (λi=>?_)
   .refine ⟨by rw [Nz] at V3;exact V3,_,hm.carry (s':=s2.lay id none) rfl (λi o hy=>?_) MY⟩
    by_cases hi:i=id
    .subst hi;simp
    .rw [DS.ho_lay_other _ _ hi];have:=Mf.yd i o hy;exact this
   .by_cases hi:i=id
    .subst hi
     refine .inr ⟨Fl _ _ _,?_⟩
     have:=Mf.apart (i:=i) (by rw [jV];rfl)
     simp [DS.vw,Ll,DS.lay,this]
    .exact .inl (tK _ _ hi)
   .by_cases hi:i=id
    .subst hi
     have:=Mf.apart (i:=i) (by rw [jV];rfl)
     exact .inr (by simp [DS.vw,Ll,DS.lay,this])
    .exact .inl (by simp [DS.vw,Ll,DS.lay,Gr,hi])
  obtain ⟨w4,hw4⟩:∃ w4,w3.putObj (w.heap.size+1) (.loop { r2 with state:=.exhausted })=w4:=⟨_,rfl⟩
  rw [hw4] at OA Hr
  refine ⟨r2.pending,w4,OA,?_⟩
  rw [q6]
  split at bZ
  .rename_i hp;rw [hp];exact ⟨_,bZ,Hr⟩
  .rename_i hp;rw [hp];exact wpIn_ret ⟨_,bZ,Hr⟩
  .rename_i i hp;rw [hp];exact wpIn_exit ⟨_,bZ,Hr⟩
  .exact bZ.elim
end rules
end Go.DD

/- Regions that draw their order: one run in the text's order serves every order. The operations that write, and the calls, stand in one order by their edges; what is only made lies by itself; all others read the same at every moment at which they may come. -/
namespace Go.DD
open Go.RowKit (Below)
structure Agree (op:DOp) (s s':DS):Prop where
 ev:∀ x∈op.opnds,s'.ev x=s.ev x
 rv:∀ x∈op.opnds,s'.rv x=s.rv x
 ho:op.rdC=true->∀ x∈op.opnds,∀ id∈(s.ev x).refs,s'.ho id=s.ho id
theorem A12{s s':DS}{Yk:Int}{x:Option Operand}(h:∀ y∈x.toList,s'.ev y=s.ev y):Kt s' Yk x=Kt s Yk x:=by
 cases x with
 | none=>rfl
 | some y=>simp [Kt,h y (by simp)]
theorem YQ{nid:Nat}{s s':DS}{op:DOp}(h:Agree op s s'):Bb nid s' op=Bb nid s op:=by
 obtain ⟨h1,V7,h2⟩:=h
 cases op with
 | bld z ps=>
  have:ps.map (λp=>(p.1,p.2.1,s'.ev p.2.2))=ps.map λp=>(p.1,p.2.1,s.ev p.2.2):=
   Eu λp hp=>by rw [h1 p.2.2 (by simp only [DOp.opnds,Ei];exact ⟨p,hp,rfl⟩)]
  simp only [Bb,this]
 | bsl T n es z ps=>
  have:ps.map (λp=>(p.1,p.2.1,s'.ev p.2.2))=ps.map λp=>(p.1,p.2.1,s.ev p.2.2):=
   Eu λp hp=>by rw [h1 p.2.2 (by simp only [DOp.opnds,Ei];exact ⟨p,hp,rfl⟩)]
  simp only [Bb,this]
 | mkf f fst cap=>
  have e1:fst.map s'.ev=fst.map s.ev:=Eu λx hx=>h1 x (by simp [DOp.opnds,hx])
  have e2:cap.map s'.ev=cap.map s.ev:=Eu λx hx=>h1 x (by simp [DOp.opnds,hx])
  simp only [Bb,e1,e2]
 | sli es x lo hi=>
  have hx:=h1 x (by simp [DOp.opnds])
  have Hv:∀ d,Kt s' d lo=Kt s d lo:=λd=>A12 λy hy=>h1 y (by simp [DOp.opnds];exact .inr (.inl (by simpa using hy)))
  have Tl:∀ d,Kt s' d hi=Kt s d hi:=λd=>A12 λy hy=>h1 y (by simp [DOp.opnds];exact .inr (.inr (by simpa using hy)))
  simp only [Bb,hx,Hv,Tl]
 | sls=>rfl
 | ld k x=>
  have hx:=h1 x (by simp [DOp.opnds])
  have hh:=h2 rfl x (by simp [DOp.opnds])
  simp only [Bb,hx]
  split
  .rfl
  .rename_i id off e
   rw [hh id (by rw [e];simp [DV.refs])]
  .rfl
 | st n p x=>
  have hp:=h1 p (by simp [DOp.opnds])
  have hx:=h1 x (by simp [DOp.opnds])
  have hh:=h2 rfl p (by simp [DOp.opnds])
  simp only [Bb,hp,hx]
  split
  .rename_i id off e
   rw [hh id (by rw [e];simp [DV.refs])]
  .rfl
 | app T es bytes d x=>
  have hd:=h1 d (by simp [DOp.opnds])
  have hx:=h1 x (by simp [DOp.opnds])
  have hhd:=h2 rfl d (by simp [DOp.opnds])
  have NM:=h2 rfl x (by simp [DOp.opnds])
  have e1:dstD s' T es (s.ev d)=dstD s T es (s.ev d):=by
   unfold dstD
   split
   .rfl
   .rename_i id n es' e
    rw [hhd id (by rw [e];simp [DV.refs])]
   .rfl
  have e2:srcD s' T es (s.ev x)=srcD s T es (s.ev x):=by
   unfold srcD
   split
   .rfl
   .rfl
   .rfl
   .rename_i id off n es' e
    rw [NM id (by rw [e];simp [DV.refs])]
   .rfl
  simp only [Bb,hd,hx,e1,e2]
 | mkm=>rfl
 | lkp kd z x k ok=>
  have hx:=h1 x (by simp [DOp.opnds])
  have hh:=h2 rfl x (by simp [DOp.opnds])
  simp only [Bb,hx,h1 k (by simp [DOp.opnds])]
  split
  .split
   .split
    .rfl
    .rename_i id e
     rw [hh id (by rw [e];simp [DV.refs])]
    .rfl
   .rfl
  .rfl
 | men=>rfl
 | mes=>rfl
 | rgm=>rfl
 | nxm=>rfl
 | rgs x=>simp only [Bb,h1 x (by simp [DOp.opnds])]
 | nxs x=>
  have hx:=h1 x (by simp [DOp.opnds])
  have hh:=h2 rfl x (by simp [DOp.opnds])
  simp only [Bb,hx]
  split
  .rename_i id e
   rw [hh id (by rw [e];simp [DV.refs])]
  .rfl
 | mki=>rfl
 | tas=>rfl
 | sla=>rfl
 | cpy es x y=>
  have hx:=h1 x (by simp [DOp.opnds])
  have hy:=h1 y (by simp [DOp.opnds])
  have NM:=h2 rfl x (by simp [DOp.opnds])
  have hhy:=h2 rfl y (by simp [DOp.opnds])
  have e2:bJ s' es (s.ev y)=bJ s es (s.ev y):=by
   unfold bJ
   split
   .rfl
   .rfl
   .rename_i id off n es' e
    rw [hhy id (by rw [e];simp [DV.refs])]
   .rfl
  simp only [Bb,hx,hy,e2]
  split
  .rename_i id off n es' news m e _
   rw [NM id (by rw [e];simp [DV.refs])]
  .rfl
 | mup kd x k y=>
  have hx:=h1 x (by simp [DOp.opnds])
  have hh:=h2 rfl x (by simp [DOp.opnds])
  simp only [Bb,hx,h1 k (by simp [DOp.opnds]),h1 y (by simp [DOp.opnds])]
  split
  .split
   .split
    .rename_i id e
     rw [hh id (by rw [e];simp [DV.refs])]
    .rfl
   .rfl
  .rfl
 | lnm x=>
  have hx:=h1 x (by simp [DOp.opnds])
  have hh:=h2 rfl x (by simp [DOp.opnds])
  simp only [Bb,hx]
  split
  .rfl
  .rename_i id e
   rw [hh id (by rw [e];simp [DV.refs])]
  .rfl
 | mv x=>simp only [Bb,V7 x (by simp [DOp.opnds])]
 | pick c p q=>simp only [Bb,h1 c (by simp [DOp.opnds]),V7 p (by simp [DOp.opnds]),V7 q (by simp [DOp.opnds])]
 | al T z=>rfl
 | bx T x=>simp only [Bb,h1 x (by simp [DOp.opnds])]
 | nck x=>simp only [Bb,h1 x (by simp [DOp.opnds])]
 | bin o x y=>simp only [Bb,h1 x (by simp [DOp.opnds]),h1 y (by simp [DOp.opnds])]
 | bb o x y=>simp only [Bb,h1 x (by simp [DOp.opnds]),h1 y (by simp [DOp.opnds])]
 | eqs o k x y=>simp only [Bb,h1 x (by simp [DOp.opnds]),h1 y (by simp [DOp.opnds])]
 | nilq o k x y=>simp only [Bb,h1 x (by simp [DOp.opnds]),h1 y (by simp [DOp.opnds])]
 | un o x=>simp only [Bb,h1 x (by simp [DOp.opnds])]
 | cvi o x=>simp only [Bb,h1 x (by simp [DOp.opnds])]
 | fa o x=>simp only [Bb,h1 x (by simp [DOp.opnds])]
 | fld o k x=>simp only [Bb,h1 x (by simp [DOp.opnds])]
 | ia es x i=>simp only [Bb,h1 x (by simp [DOp.opnds]),h1 i (by simp [DOp.opnds])]
 | ixs x i=>simp only [Bb,h1 x (by simp [DOp.opnds]),h1 i (by simp [DOp.opnds])]
 | len x=>simp only [Bb,h1 x (by simp [DOp.opnds])]
 | lns x=>simp only [Bb,h1 x (by simp [DOp.opnds])]
 | fx n es x i=>simp only [Bb,h1 x (by simp [DOp.opnds]),h1 i (by simp [DOp.opnds])]
 | s2b x=>simp only [Bb,h1 x (by simp [DOp.opnds])]
 | b2s x=>
  have hx:=h1 x (by simp [DOp.opnds])
  have NM:=h2 rfl x (by simp [DOp.opnds])
  have e2:bJ s' 1 (s.ev x)=bJ s 1 (s.ev x):=by
   unfold bJ
   split
   .rfl
   .rfl
   .rename_i id off m es' e
    rw [NM id (by rw [e];simp [DV.refs])]
   .rfl
  simp only [Bb,hx,e2]
 | frz=>rfl
 | mks T es b z l c=>simp only [Bb,h1 l (by simp [DOp.opnds]),h1 c (by simp [DOp.opnds])]
 | ext x i=>simp only [Bb,h1 x (by simp [DOp.opnds]),V7 x (by simp [DOp.opnds])]
 | mm o x y=>simp only [Bb,h1 x (by simp [DOp.opnds]),h1 y (by simp [DOp.opnds])]
 | call f args=>rfl
 | cv tb f args=>rfl
 | bad=>rfl
theorem YF:∀ (rs:List DR) (acc:List (List Nat)),(Ku rs acc).length=acc.length+rs.length
 | [],acc=>by simp [Ku]
 | r::rs,acc=>by simp [Ku,YF rs];omega
theorem SQ:∀ (rs:List DR) (acc:List (List Nat)) (k:Nat),k<acc.length->(Ku rs acc)[k]?=acc[k]?
 | [],acc,k,_=>rfl
 | r::rs,acc,k,h=>by
  simp only [Ku]
  rw [SQ rs _ k (by simp;omega),Cm h]
theorem ZJ:∀ (rs:List DR) (acc:List (List Nat)) (k:Nat) (r:DR) (l:List Nat),rs[k]?=some r->(∀ (k:Nat) (r:DR),rs[k]?=some r->∀ j∈r.pre,j<acc.length+k)->(Ku rs acc)[acc.length+k]?=some l->
  ∀ x∈l,x∈r.pre\/∃ j∈r.pre,∃ l',(Ku rs acc)[j]?=some l'/\x∈l'
 | [],acc,k,r,l,h,_,_=>by simp at h
 | r0::rs,acc,0,r,l,h,hb,hl=>by
  simp at h;subst h
  intro x hx
  have jX:l=(r0.pre++r0.pre.flatMap λj=>(acc[j]?).getD []).eraseDups:=by
   simp only [Ku] at hl
   rw [SQ rs _ _ (by simp)] at hl
   simpa using hl.symm
  rw [jX,Rk,Bo] at hx
  rcases hx with hx | hx
  .exact .inl hx
  .obtain ⟨j,hj,hx⟩:=Gn.1 hx
   have Xt:j<acc.length:=hb 0 r0 rfl j hj
   refine .inr ⟨j,hj,acc[j],?_,by simpa [Aa Xt] using hx⟩
   simp only [Ku]
   rw [SQ rs _ j (by simp;omega),Cm Xt,Aa Xt]
 | r0::rs,acc,k+1,r,l,h,hb,hl=>by
  have key:=ZJ rs (acc ++ [(r0.pre++r0.pre.flatMap λj=>(acc[j]?).getD []).eraseDups]) k r l (by simpa using h)
   (λk' r' bY j hj=>by have:=hb (k'+1) r' (by simpa using bY) j hj;simp;omega)
   (by simp only [Ku] at hl;rw [<- hl];congr 1;simp;omega)
  simpa only [Ku] using key
def tS:List Bool->Nat
 | []=>0
 | b::bs=>(if b then 0 else 1)+tS bs
theorem Br2:∀ (l:List Bool) (i:Nat),l[i]?=some false->tS (l.set i true)+1=tS l
 | [],i,h=>by simp at h
 | b::bs,0,h=>by simp at h;subst h;simp [tS];omega
 | b::bs,i+1,h=>by
  have:=Br2 bs i (by simpa using h)
  simp only [List.set_cons_succ,tS]
  omega
theorem Bh2:∀ (l:List Bool),tS l=0->∀ b∈l,b=true
 | [],_,b,hb=>by cases hb
 | c::bs,h,b,hb=>by
  simp only [tS] at h
  rcases Ak.1 hb with rfl | hb
  .cases b
   .simp at h
   .rfl
  .exact Bh2 bs (by omega) b hb
theorem Bd3{rs:List DR}{L:List Bool}(Ot:∀ (k:Nat) (r:DR),rs[k]?=some r->∀ j∈r.pre,j<k)(Up:∀ (i:Nat) (r:DR),L[i]?=some true->rs[i]?=some r->∀ j∈r.pre,L[j]?=some true) :
  ∀ (i:Nat) (r:DR) (l:List Nat),rs[i]?=some r->(∀ j∈r.pre,L[j]?=some true)->(Ku rs [])[i]?=some l->∀ x∈l,L[x]?=some true:=by
 intro i
 induction i using Nat.strongRecOn with
 | _ i ih=>
  intro r l hr hp hl x hx
  rcases ZJ rs [] i r l hr (λk r' hk j hj=>by have:=Ot k r' hk j hj;simp;omega) (by simpa using hl) x hx with h | ⟨j,hj,l',jX,P3⟩
  .exact hp x h
  .have Nl:=Ot i r hr j hj
   have qE:i<rs.length:=(Ar.1 hr).1
   have UT:rs[j]?=some rs[j]:=Aa (by omega)
   exact ih j Nl rs[j] l' UT (Up j rs[j] (hp j hj) UT) jX x P3
structure RG where
 d:Nat->DV
 lay:Nat->Option DObj
 tgt:Nat->Option Nat
 ob:Nat->DObj
 main:List Nat
 H:Nat->Nat->Option DObj
 N:Nat->Nat
section
variable (rs:List DR) (s0:DS) (D:RG)
def Uc(i:Nat):List Nat:=((Ku rs [])[i]?).getD []
def Ek(i j:Nat):Bool:=(Uc rs i).contains j
def RG.pr(k j:Nat):Bool:=(D.main.take k).any λq=>Ek rs q j
def RG.unp(k id:Nat):Option Nat:=if s0.nx<=id/\id<s0.nx+rs.length/\(D.lay (id-s0.nx)).isSome=true/\D.pr rs k (id-s0.nx)=false then some (id-s0.nx) else none
def Ra(tgt:Nat->Option Nat)(L:Nat->Bool)(j:Nat):Nat->Option Nat
 | 0=>none
 | n+1=>if tgt n=some j/\L n=true then some n else Ra tgt L j n
def RG.cur(L:Nat->Bool)(j:Nat):Option DObj:=match Ra D.tgt L j rs.length with
 | some w=>some (D.ob w)
 | none=>D.lay j
def RG.full(L:Nat->Bool)(k:Nat):Nat->Option DObj:=λid=>match D.unp rs s0 k id with
 | some j=>if L j then D.cur rs L j else none
 | none=>D.H k id
def RG.sv(L:Nat->Bool):Nat->DV:=λt=>match rs.findIdx? (λr=>r.dst==some t) with
 | some p=>if L p then D.d p else s0.sv t
 | none=>s0.sv t
def RG.at_(L:Nat->Bool)(k:Nat):DS:=⟨D.sv rs s0 L,D.full rs s0 L k,D.N k⟩
def RG.st(i k:Nat):DS:=D.at_ rs s0 (Ek rs i) k
def Qy(s:DS)(r:DR):Prop:=∀ t,.tmp t∈r.op.opnds->s.live (s.sv t)=true
def RG.may(i k:Nat):Prop:=k<=D.main.length/\(∀ (q j:Nat),q<k->D.main[q]?=some j->Ek rs j i=false)/\(∀ (q j:Nat),k<=q->D.main[q]?=some j->Ek rs i j=false)
def DS.hasU(s:DS):Upd->Bool
 | .wr id _=>(s.ho id).isSome
 | .mv (some id) _=>(s.ho id).isSome
 | _=>true
def Zo(P:Program)(f:FuncId)(ds:List DV)(s:DS)(d:DV)(H':Nat->Option DObj)(n':Nat):Prop:=
 eM P f=true/\(Sz P f ds s (λs' d'=>d'=d/\s'.ho=H'/\s'.nx=n')\/(H'=s.ho/\n'=s.nx/\(∀ x∈ds,x.refs=[])/\DCall P f ds λd'=>d'=d))
def RG.ev(P:Program)(i:Nat)(r:DR):Prop:=
 match (D.st rs s0 i 0).wanted r.g with
 | none=>False
 | some false=>D.d i=.v undef/\D.lay i=none/\D.tgt i=none/\i∉D.main
 | some true=>match r.op with
  | .call f args=>∃ k,D.main[k]?=some i/\Qy (D.st rs s0 i k) r/\Zo P f (args.map (D.st rs s0 i k).rv) (D.st rs s0 i k) (D.d i) (D.H (k+1)) (D.N (k+1))
  | .cv tb x args=>∃ k f fr cs,D.main[k]?=some i/\Qy (D.st rs s0 i k) r/\((D.st rs s0 i k).ev x).tgt tb=some (f,fr,cs)/\Zo P f (fr++args.map (D.st rs s0 i k).rv++cs) (D.st rs s0 i k) (D.d i) (D.H (k+1)) (D.N (k+1))
  | op=>(∃ k u,D.main[k]?=some i/\Qy (D.st rs s0 i k) r/\(D.st rs s0 i k).hasU u=true/\Bb (D.N k) (D.st rs s0 i k) op=some (D.d i,u)/\D.H (k+1)=u.app (D.N k) (D.st rs s0 i k).ho/\D.N (k+1)=if u.new then D.N k+1 else D.N k)\/
    (i∉D.main/\∀ k,D.may rs i k->Qy (D.st rs s0 i k) r/\∃ u,Bb (s0.nx+i) (D.st rs s0 i k) op=some (D.d i,u)/\match u with
     | .keep=>D.lay i=none/\D.tgt i=none
     | .lay o=>D.lay i=some o/\D.tgt i=none
     | .wr id o=>∃ j,D.unp rs s0 k id=some j/\Ek rs i j=true/\D.tgt i=some j/\D.ob i=o/\D.lay i=none
     | _=>False)
structure RG.OKs:Prop where
 pre:∀ (k:Nat) (r:DR),rs[k]?=some r->∀ j∈r.pre,j<k
 dst:∀ (i j:Nat) (r r':DR) (t:Nat),rs[i]?=some r->rs[j]?=some r'->r.dst=some t->r'.dst=some t->i=j
 rd:∀ (i:Nat) (r:DR) (t p:Nat),rs[i]?=some r->t∈r.tmps->rs.findIdx? (λr=>r.dst==some t)=some p->Ek rs i p=true\/Ek rs p i=true\/p=i
 chain:∀ (a b i j:Nat),D.main[a]?=some i->D.main[b]?=some j->a<b->Ek rs j i=true
 mlt:∀ (a i:Nat),D.main[a]?=some i->i<rs.length/\D.lay i=none/\D.tgt i=none
 wr1:∀ (w j:Nat),D.tgt w=some j->Ek rs w j=true
 wr2:∀ (i j w:Nat),i<rs.length->w<rs.length->Ek rs i j=true->D.tgt w=some j->Ek rs i w=true\/Ek rs w i=true\/w=i
 h0:D.H 0=s0.ho
 n0:D.N 0=s0.nx+rs.length
 mono:∀ k,D.N k<=D.N (k+1)
structure RG.OK (P:Program):Prop extends RG.OKs rs s0 D where
 ev:∀ (i:Nat) (r:DR),rs[i]?=some r->D.ev rs s0 P i r
end
end Go.DD

/- Regions that draw their order, second part: the theorem. -/
namespace Go.DD
open Go.RowKit (Below)
theorem HoldsB.congr{C:Ctx}{U:Nat->Prop}{s s':DS}{β:Nat->Option Nat}{a:Act}{w:World}(h:HoldsB C U s β a w)(h1:s'.sv=s.sv)(h2:s'.ho=s.ho):HoldsB C U s' β a w:=by
 have e:s'.vw C=s.vw C:=by unfold DS.vw;rw [h2]
 obtain ⟨g1,g2,g3,g4,g5,g6⟩:=h
 exact ⟨by rw [e];exact g1,g2,g3,by rw [e,h1];exact g4,by rw [e];exact g5,by rw [h2];exact g6⟩
section
variable {C:Ctx} {rs:List DR} {s0:DS} {D:RG} {L L':Nat->Bool} {i k:Nat} {r:DR}
theorem TD(Ia:D.OKs rs s0){i j:Nat}(hi:i<rs.length)(h:Ek rs i j=true):j<i:=by
 have key:∀ (i:Nat),i<rs.length->∀ j∈Uc rs i,j<i:=by
  intro i
  induction i using Nat.strongRecOn with
  | _ i ih=>
   intro hi j hj
   have qE:i<(Ku rs []).length:=by rw [YF];simpa using hi
   have hr:rs[i]?=some rs[i]:=Aa hi
   have hl:(Ku rs [])[i]?=some (Uc rs i):=by simp [Uc,Aa qE]
   rcases ZJ rs [] i rs[i] _ hr (λk r' hk j hj=>by have:=Ia.pre k r' hk j hj;simp;omega) (by simpa using hl) j hj with h | ⟨x,hx,l',jX,VH⟩
   .exact Ia.pre i _ hr j h
   .have h1:=Ia.pre i _ hr x hx
    have:=ih x h1 (by omega) j (by simp only [Uc,jX,Gm];exact VH)
    omega
 exact key i hi j (by simpa [Ek] using h)
theorem A13{tgt:Nat->Option Nat}{L:Nat->Bool}{j:Nat} : ∀ {n w:Nat},Ra tgt L j n=some w->w<n/\tgt w=some j/\L w=true
 | 0,w,h=>by cases h
 | n+1,w,h=>by
  simp only [Ra] at h
  split at h
  .rename_i hc;cases h;exact ⟨by omega,hc.1,hc.2⟩
  .have:=A13 h;exact ⟨by omega,this.2⟩
theorem SX{tgt:Nat->Option Nat}{L L':Nat->Bool}{j:Nat} : ∀ {n:Nat},(∀ w,w<n->tgt w=some j->L' w=L w)->Ra tgt L' j n=Ra tgt L j n
 | 0,h=>rfl
 | n+1,h=>by
  simp only [Ra]
  rw [SX (n:=n) λw hw=>h w (by omega)]
  by_cases ht:tgt n=some j
  .rw [h n (by omega) ht]
  .simp [ht]
theorem A94{tgt:Nat->Option Nat}{L:Nat->Bool}{j i:Nat}(ht:tgt i=some j)(hL:L i=true):∀ {n:Nat},i<n->(∀ w,w<n->i<w->tgt w=some j->L w=false)->Ra tgt L j n=some i
 | 0,h,_=>by omega
 | n+1,h,hl=>by
  simp only [Ra]
  by_cases hn:i=n
  .subst hn;rw [Ah ⟨ht,hL⟩]
  .have hc:¬ (tgt n=some j/\L n=true):=λ⟨h1,h2⟩=>by rw [hl n (by omega) (by omega) h1] at h2;cases h2
   rw [Ae hc]
   exact A94 ht hL (by omega) λw hw=>hl w (by omega)
theorem Bh3{L:Nat->Bool}{j:Nat}(h:(D.lay j).isSome=true):(D.cur rs L j).isSome=true:=by
 unfold RG.cur
 split
 .rfl
 .exact h
structure Done (rs:List DR) (D:RG) (L:Nat->Bool) (k:Nat):Prop where
 cl:∀ i,i<rs.length->L i=true->∀ j,Ek rs i j=true->L j=true
 le:k<=D.main.length
 mn:∀ (q j:Nat),D.main[q]?=some j->(L j=true↔q<k)
variable (Ia:D.OKs rs s0) (hD:Done rs D L k) (hr:rs[i]?=some r) (hi:L i=false) (Kc:∀ j,Ek rs i j=true->L j=true)
include Ia hr
omit Ia in
theorem Si:i<rs.length:=(Ar.1 hr).1
include hD hi Kc
omit hr in
theorem ZI:D.may rs i k:=by
 refine ⟨hD.le,λq j hq hj=>?_,λq j hq hj=>?_⟩
 .cases h:Ek rs j i with
  | false=>rfl
  | true=>have:=hD.cl j (Ia.mlt q j hj).1 ((hD.mn q j hj).2 hq) i h;rw [hi] at this;cases this
 .cases h:Ek rs i j with
  | false=>rfl
  | true=>have:=(hD.mn q j hj).1 (Kc j h);omega
omit hr in
theorem YE{k0:Nat}(h:D.main[k0]?=some i):k0=k:=by
 have h1:¬ k0<k:=λFb=>by have:=(hD.mn k0 i h).2 Fb;rw [hi] at this;cases this
 rcases Cj k k0 with Fb | Xu
 .have hk:k<D.main.length:=by have:=(Ar.1 h).1;omega
  have hm:D.main[k]?=some D.main[k]:=Aa hk
  have:=(hD.mn k _ hm).1 (Kc _ (Ia.chain k k0 _ _ hm h Fb))
  omega
 .omega
theorem XK(t:Nat)(ht:t∈r.tmps):D.sv rs s0 L t=D.sv rs s0 (Ek rs i) t:=by
 unfold RG.sv
 cases hp:rs.findIdx? (λr=>r.dst==some t) with
 | none=>rfl
 | some p=>
  simp only
  have AH:p<rs.length:=(Hp.1 hp).1
  rcases Ia.rd i r t p hr ht hp with h | h | rfl
  .rw [Ah (Kc p h),Ah h]
  .have h1:Ek rs i p=false:=by
    cases hx:Ek rs i p with
    | false=>rfl
    | true=>
     have h2:=TD Ia (Si hr) hx
     have h3:=TD Ia AH h
     omega
   have h2:L p=false:=by
    cases hx:L p with
    | false=>rfl
    | true=>have:=hD.cl p AH hx i h;rw [hi] at this;cases this
   rw [h1,h2]
  .have h1:Ek rs p p=false:=by
    cases hx:Ek rs p p with
    | false=>rfl
    | true=>have:=TD Ia (Si hr) hx;omega
   rw [h1,hi]
theorem Bh5{j:Nat}(ha:Ek rs i j=true):D.cur rs (Ek rs i) j=D.cur rs L j:=by
 unfold RG.cur
 rw [SX (L:=L) (L':=Ek rs i) λw hw ht=>?_]
 rcases Ia.wr2 i j w (Si hr) hw ha ht with h | h | rfl
 .rw [h,Kc w h]
 .have h1:L w=false:=by
   cases hx:L w with
   | false=>rfl
   | true=>have:=hD.cl w hw hx i h;rw [hi] at this;cases this
  have h2:Ek rs i w=false:=by
   cases hx:Ek rs i w with
   | false=>rfl
   | true=>have:=Kc w hx;rw [h1] at this;cases this
  rw [h1,h2]
 .have h2:Ek rs w w=false:=by
   cases hx:Ek rs w w with
   | false=>rfl
   | true=>have:=TD Ia hw hx;omega
  rw [h2,hi]
theorem Bh6{id:Nat}{o:DObj}(h:D.full rs s0 (Ek rs i) k id=some o):D.full rs s0 L k id=some o:=by
 unfold RG.full at h ⊢
 split at h
 .rename_i j hj
  split at h
  .rename_i ha;rw [Ah (Kc j ha),<- Bh5 Ia hD hr hi Kc ha];exact h
  .cases h
 .exact h
theorem Bn9:(D.at_ rs s0 L k).wanted r.g=(D.st rs s0 i 0).wanted r.g:=by
 unfold DS.wanted
 cases hg:r.g with
 | none=>rfl
 | some p=>
  obtain ⟨t,b⟩:=p
  have:=XK Ia hD hr hi Kc t (by simp [DR.tmps,hg])
  simp only [RG.st,RG.at_,this]
theorem YM(hl:Qy (D.st rs s0 i k) r):Agree r.op (D.st rs s0 i k) (D.at_ rs s0 L k):=by
 have Tx:∀ x∈r.op.opnds,(D.at_ rs s0 L k).ev x=(D.st rs s0 i k).ev x:=λx hx=>by
  cases x with
  | tmp t=>
   have h1:D.sv rs s0 L t=D.sv rs s0 (Ek rs i) t:=XK Ia hD hr hi Kc t (by
    simp only [DR.tmps,Bo,Gp]
    exact .inl ⟨_,hx,rfl⟩)
   have h2:=hl t hx
   have h3:(D.at_ rs s0 L k).live ((D.at_ rs s0 L k).sv t)=true:=by
    have e:(D.at_ rs s0 L k).sv t=(D.st rs s0 i k).sv t:=h1
    rw [e]
    refine Ay.2 λid hid=>?_
    have h4:=Ay.1 h2 id hid
    obtain ⟨o,ho⟩:=Eb.1 h4
    have:=Bh6 Ia hD hr hi Kc (id:=id) (o:=o) ho
    show (D.full rs s0 L k id).isSome=true
    rw [this];rfl
   simp only [DS.ev]
   rw [Ah h3,Ah h2]
   exact h1
  | _=>rfl
 have hrv:∀ x∈r.op.opnds,(D.at_ rs s0 L k).rv x=(D.st rs s0 i k).rv x:=λx hx=>by
  cases x with
  | tmp t=>exact XK Ia hD hr hi Kc t (by
    simp only [DR.tmps,Bo,Gp]
    exact .inl ⟨_,hx,rfl⟩)
  | _=>rfl
 refine ⟨Tx,hrv,λ_ x hx id hid=>?_⟩
 have h4:=HoldsB.eva (s:=D.st rs s0 i k) x id hid
 obtain ⟨o,ho⟩:=Eb.1 h4
 have:=Bh6 Ia hD hr hi Kc (id:=id) (o:=o) ho
 exact this.trans ho.symm
omit hD hi Kc in
theorem Br3(Mu:∀ j,L' j=(j==i||L j))(k':Nat)(s:DS)(hs:s.sv=D.sv rs s0 L)(hh:s.ho=D.full rs s0 L' k'):(D.at_ rs s0 L' k').sv=(s.put r.dst (D.d i)).sv/\(D.at_ rs s0 L' k').ho=(s.put r.dst (D.d i)).ho:=by
 refine ⟨?_,by rw [DS.ho_put,hh];rfl⟩
 funext t
 show D.sv rs s0 L' t=_
 have vK:∀ p,rs.findIdx? (λr=>r.dst==some t)=some p->∃ r',rs[p]?=some r'/\r'.dst=some t:=λp hp=>by
  obtain ⟨h1,h2⟩:=Hp.1 hp
  have h3:=List.findIdx_getElem (xs:=rs) (p:=λr=>r.dst==some t) (w:=by omega)
  subst h2
  exact ⟨_,Aa h1,by simpa using h3⟩
 have Hm:r.dst≠some t->D.sv rs s0 L' t=D.sv rs s0 L t:=λHu=>by
  unfold RG.sv
  cases hp:rs.findIdx? (λr=>r.dst==some t) with
  | none=>rfl
  | some p=>
   obtain ⟨r',h1,h2⟩:=vK p hp
   have hpi:p≠i:=λe=>by subst e;rw [hr] at h1;cases h1;exact Hu h2
   simp [Mu,hpi]
 cases hd:r.dst with
 | none=>
  rw [Hm (by rw [hd];simp)]
  show _=s.sv t
  rw [hs]
 | some u=>
  by_cases hu:u=t
  .subst hu
   rw [DS.sv_put_same]
   unfold RG.sv
   cases hp:rs.findIdx? (λr=>r.dst==some u) with
   | none=>
    have:=List.findIdx?_eq_none_iff.1 hp r (Aw hr)
    simp [hd] at this
   | some p=>
    obtain ⟨r',h1,h2⟩:=vK p hp
    have:p=i:=Ia.dst p i r' r u h1 hr h2 hd
    subst this
    simp [Mu]
  .rw [DS.sv_put_other _ _ hu,Hm (by rw [hd];simpa using hu),hs]
omit hr hi Kc in
theorem Bd4{j:Nat}(hj:D.lay j≠none)(Xt:j<rs.length)(iJ:L j=false):D.unp rs s0 k (s0.nx+j)=some j:=by
 unfold RG.unp
 have e:s0.nx+j-s0.nx=j:=by omega
 rw [e]
 rw [Ah]
 refine ⟨by omega,by omega,Option.isSome_iff_ne_none.2 hj,?_⟩
 cases h:D.pr rs k j with
 | false=>rfl
 | true=>
  unfold RG.pr at h
  obtain ⟨q,hq,hqa⟩:=On.1 h
  obtain ⟨p,hp,rfl⟩:=Bx.1 hq
  have hpk:p<k/\p<D.main.length:=by rw [Ca] at hp;omega
  have hm:D.main[p]?=some (D.main.take k)[p]:=by
   rw [Ew];exact Aa hpk.2
  have:=hD.cl _ (Ia.mlt p _ hm).1 ((hD.mn p _ hm).2 hpk.1) j hqa
  rw [iJ] at this;cases this
omit Ia hD hr hi Kc in
theorem bG{id j:Nat}(h:D.unp rs s0 k id=some j):id=s0.nx+j/\j<rs.length/\(D.lay j).isSome=true/\D.pr rs k j=false:=by
 unfold RG.unp at h
 split at h
 .rename_i hc
  cases h
  exact ⟨by omega,by omega,hc.2.2.1,hc.2.2.2⟩
 .cases h
omit Ia hD hr hi Kc in
theorem YD(Mu:∀ j,L' j=(j==i||L j)){j:Nat}(ht:D.tgt i≠some j):D.cur rs L' j=D.cur rs L j:=by
 unfold RG.cur
 rw [SX (L:=L) (L':=L') λw _ hw=>by
  have me:w≠i:=λe=>ht (by rw [<- e];exact hw)
  rw [Mu,Da.2 me,Gz]]
omit Kc in
theorem Bh7(Mu:∀ j,L' j=(j==i||L j)){o:DObj}(ho:D.lay i=some o)(ht:D.tgt i=none):D.full rs s0 L' k=Gr (D.full rs s0 L k) (s0.nx+i) (some o):=by
 funext id
 by_cases hid:id=s0.nx+i
 .subst hid
  rw [Qi]
  unfold RG.full
  rw [Bd4 Ia hD (by rw [ho];simp) (Si hr) hi]
  have hc:D.cur rs L' i=some o:=by
   unfold RG.cur
   cases hl:Ra D.tgt L' i rs.length with
   | none=>exact ho
   | some w=>
    exfalso
    obtain ⟨h1,h2,h3⟩:=A13 hl
    have me:w≠i:=λe=>by rw [e,ht] at h2;cases h2
    rw [Mu,Da.2 me,Gz] at h3
    have:=hD.cl w h1 h3 i (Ia.wr1 w i h2)
    rw [hi] at this;cases this
  simp [Mu,hc]
 .rw [tL _ _ hid]
  unfold RG.full
  cases hu:D.unp rs s0 k id with
  | none=>rfl
  | some j=>
   have Nl:j≠i:=λe=>hid (by rw [(bG hu).1,e])
   simp only [YD Mu (j:=j) (by rw [ht];simp)]
   simp [Mu,Nl]
theorem Br4(Mu:∀ j,L' j=(j==i||L j)){Yz j:Nat}(hu0:D.unp rs s0 k Yz=some j)(ha:Ek rs i j=true)(ht:D.tgt i=some j)(Ye:D.lay i=none):D.full rs s0 L' k=Gr (D.full rs s0 L k) Yz (some (D.ob i)):=by
 funext id
 by_cases hid:id=Yz
 .subst hid
  rw [Qi]
  unfold RG.full
  rw [hu0]
  have iJ:L' j=true:=by rw [Mu,Kc j ha];simp
  have hc:D.cur rs L' j=some (D.ob i):=by
   unfold RG.cur
   rw [A94 ht (by rw [Mu];simp) (Si hr) λw hw hiw hwt=>?_]
   rw [Mu,Da.2 (by omega),Gz]
   cases hx:L w with
   | false=>rfl
   | true=>
    rcases Ia.wr2 i j w (Si hr) hw ha hwt with h | h | h
    .have:=TD Ia (Si hr) h;omega
    .have:=hD.cl w hw hx i h;rw [hi] at this;cases this
    .omega
  simp [iJ,hc]
 .rw [tL _ _ hid]
  unfold RG.full
  cases hu:D.unp rs s0 k id with
  | none=>rfl
  | some j'=>
   have hjj:j'≠j:=λe=>hid (by rw [(bG hu).1,(bG hu0).1,e])
   have Nl:j'≠i:=λe=>by have:=(bG hu).2.2.1;rw [e,Ye] at this;cases this
   simp only [YD Mu (j:=j') (by rw [ht];simpa using λe=>hjj e.symm)]
   simp [Mu,Nl]
omit Ia hD hr hi Kc in
theorem YL(Mu:∀ j,L' j=(j==i||L j))(ho:D.lay i=none)(ht:D.tgt i=none):D.full rs s0 L' k=D.full rs s0 L k:=by
 funext id
 unfold RG.full
 cases hu:D.unp rs s0 k id with
 | none=>rfl
 | some j=>
  have Nl:j≠i:=λe=>by have:=(bG hu).2.2.1;rw [e,ho] at this;cases this
  simp only [YD Mu (j:=j) (by rw [ht];simp)]
  simp [Mu,Nl]
omit Ia hD hr hi Kc in
theorem RZ(hm:D.main[k]?=some i)(j:Nat):D.pr rs (k+1) j=(D.pr rs k j||Ek rs i j):=by
 unfold RG.pr
 rw [List.take_add_one,hm]
 simp
omit Ia hD hr hi Kc in
theorem Ay0(Mu:∀ j,L' j=(j==i||L j))(hm:D.main[k]?=some i)(Ye:D.lay i=none)(ht:D.tgt i=none)(id:Nat):D.full rs s0 L' (k+1) id=match D.unp rs s0 k id with
  | some j=>if Ek rs i j then D.H (k+1) id else if L j then D.cur rs L j else none
  | none=>D.H (k+1) id:=by
 cases hu:D.unp rs s0 k id with
 | none=>
  have:D.unp rs s0 (k+1) id=none:=by
   cases h:D.unp rs s0 (k+1) id with
   | none=>rfl
   | some j=>
    obtain ⟨e1,e2,e3,e4⟩:=bG h
    rw [RZ hm,Pk] at e4
    have:D.unp rs s0 k id=some j:=by
     unfold RG.unp
     have e:id-s0.nx=j:=by omega
     rw [e,Ah ⟨by omega,by omega,e3,e4.1⟩]
    rw [hu] at this;cases this
  unfold RG.full
  rw [this]
 | some j=>
  obtain ⟨e1,e2,e3,e4⟩:=bG hu
  have e:id-s0.nx=j:=by omega
  simp only
  by_cases ha:Ek rs i j=true
  .rw [Ah ha]
   have:D.unp rs s0 (k+1) id=none:=by
    unfold RG.unp
    rw [e,Ae (λhc=>by rw [RZ hm,ha] at hc;simp at hc)]
   unfold RG.full
   rw [this]
  .rw [Ae ha]
   have:D.unp rs s0 (k+1) id=some j:=by
    unfold RG.unp
    rw [e,Ah ⟨by omega,by omega,e3,by rw [RZ hm,e4];simpa using ha⟩]
   unfold RG.full
   rw [this]
   have Nl:j≠i:=λe=>by rw [e,Ye] at e3;cases e3
   simp only [YD Mu (j:=j) (by rw [ht];simp)]
   simp [Mu,Nl]
theorem Ay1(id:Nat):D.full rs s0 (Ek rs i) k id=match D.unp rs s0 k id with
  | some j=>if Ek rs i j then D.full rs s0 L k id else none
  | none=>D.full rs s0 L k id:=by
 unfold RG.full
 cases hu:D.unp rs s0 k id with
 | none=>rfl
 | some j=>
  simp only
  by_cases ha:Ek rs i j=true
  .rw [Ah ha,Ah ha,Ah (Kc j ha),Bh5 Ia hD hr hi Kc ha]
  .rw [Ae ha,Ae ha]
theorem Bh8(Mu:∀ j,L' j=(j==i||L j))(hm:D.main[k]?=some i)(Ye:D.lay i=none)(ht:D.tgt i=none){u:Upd}(hN:s0.nx+rs.length<=D.N k)(hU:(D.st rs s0 i k).hasU u=true)
  (hH:D.H (k+1)=u.app (D.N k) (D.st rs s0 i k).ho):D.full rs s0 L' (k+1)=u.app (D.N k) (D.full rs s0 L k):=by
 have pH:D.unp rs s0 k (D.N k)=none:=by
  unfold RG.unp
  rw [Ae]
  intro hc;omega
 have bV:=Ay1 (D:=D) (rs:=rs) (s0:=s0) (L:=L) (k:=k) Ia hD hr hi Kc
 have Ro:(D.st rs s0 i k).ho=D.full rs s0 (Ek rs i) k:=rfl
 rw [Ro] at hH
 funext id
 rw [Ay0 Mu hm Ye ht]
 have cZ:∀ id,(match D.unp rs s0 k id with
  | some j=>if Ek rs i j then D.full rs s0 (Ek rs i) k id else if L j then D.cur rs L j else none
  | none=>D.full rs s0 (Ek rs i) k id)=D.full rs s0 L k id:=λid=>by
  rw [bV id]
  cases hu:D.unp rs s0 k id with
  | none=>rfl
  | some j=>
   simp only
   by_cases ha:Ek rs i j=true
   .rw [Ah ha,Ah ha]
   .rw [Ae ha];unfold RG.full;rw [hu]
 have A9:∀ Yz,(D.full rs s0 (Ek rs i) k Yz).isSome=true->∀ j,D.unp rs s0 k Yz=some j->Ek rs i j=true:=λYz h j hj=>by
  rw [bV,hj] at h
  simp only at h
  split at h
  .assumption
  .cases h
 -- a change at one number
 have Is:∀ (ho Nj:Nat->Option DObj) (Yz:Nat) (x:Option DObj),(∀ j,D.unp rs s0 k Yz=some j->Ek rs i j=true)->
   (∀ id,(match D.unp rs s0 k id with
    | some j=>if Ek rs i j then ho id else if L j then D.cur rs L j else none
    | none=>ho id)=Nj id)->
   ∀ id,(match D.unp rs s0 k id with
    | some j=>if Ek rs i j then Gr ho Yz x id else if L j then D.cur rs L j else none
    | none=>Gr ho Yz x id)=Gr Nj Yz x id:=λho Nj Yz x h1 h2 id=>by
  by_cases he:id=Yz
  .subst he
   rw [Qi,Qi]
   cases hu:D.unp rs s0 k id with
   | none=>rfl
   | some j=>simp only;rw [Ah (h1 j hu)]
  .rw [tL _ _ he,tL _ _ he];exact h2 id
 rw [hH]
 cases u with
 | keep=>exact cZ id
 | lay o=>exact Is _ _ _ _ (λj hj=>by rw [pH] at hj;cases hj) cZ id
 | wr Yz o=>exact Is _ _ _ _ (A9 Yz hU) cZ id
 | mv Iy o=>
  cases Iy with
  | none=>exact Is _ _ _ _ (λj hj=>by rw [pH] at hj;cases hj) cZ id
  | some Yz=>exact Is _ _ _ _ (λj hj=>by rw [pH] at hj;cases hj) (Is _ _ _ _ (A9 Yz hU) cZ) id
end
def Ur(C:Ctx)(rs:List DR)(s0:DS)(D:RG)(L:Nat->Bool)(k id:Nat):Prop:=id<D.N k/\¬ (C.R id\/(s0.nx<=id/\id<s0.nx+rs.length/\L (id-s0.nx)=false))
theorem jB{rs:List DR}{s0:DS}{D:RG}(Ia:D.OKs rs s0):∀ k,s0.nx+rs.length<=D.N k
 | 0=>by rw [Ia.n0];omega
 | k+1=>Es (jB Ia k) (Ia.mono k)
theorem A95{C:Ctx}{U:Nat->Prop}{a:Act}{w:World}{o:Oper}{d:DV}{s':DS}{next:Act->World->Prop}{Q:Exit->Act->World->Prop}(Um:∀ c,o.op≠.defer c)(h:OpOk C U a w o d s')
  (Ul:∀ β' w' x,HoldsB C U s' β' a w'->WV C U (s'.vw C) β' w' x d->next (a.put o.dst x) w'):o.wpIn C.F 0 C.P a w next Q:=by
 obtain ⟨nx,w',β',x,h1,h2,h3,h4⟩:=h
 refine ⟨λ_ _=>trivial,?_⟩
 rw [Oper.semAt_plain _ _ _ Um,h1]
 rcases h2 with rfl | ⟨rfl,rfl⟩
 .exact Ul β' w' x h3 h4
 .exact Ul β' w' undef h3 h4
theorem A96{C:Ctx}{a:Act}{w:World}{o:Oper}{f:FuncId}{vs:Array Value}{R:Ending->World->Prop}{next:Act->World->Prop}{Q:Exit->Act->World->Prop}(Um:∀ c,o.op≠.defer c)
  (Hl:(execOp a.eval o).run C.P w=.ok (.enter f vs) w) (hc:Calls C.P f vs w R) (Ul:∀ e w',R e w'->∃ v,e=.returned v/\next (a.put o.dst v) w'):o.wpIn C.F 0 C.P a w next Q:=by
 refine ⟨λ_ _=>trivial,?_⟩
 rw [Oper.semAt_plain _ _ _ Um,Hl,Oper.uponIn_enter]
 refine ⟨λh=>by simp [Ctx.F,Fence.wide] at h,A44 (hc.mono ?_)⟩
 intro e w' h
 obtain ⟨v,rfl,hn⟩:=Ul e w' h
 exact hn
theorem B46{C:Ctx}{rs:List DR}{s0:DS}{D:RG}{L L':Nat->Bool}{i k:Nat}{r:DR}{ops:Array Oper}{o:Oper}{a:Act}{w:World}{β:Nat->Option Nat}{next:Act->World->Prop}{Q:Exit->Act->World->Prop}
  (rH:D.OK rs s0 C.P) (hD:Done rs D L k) (hr:rs[i]?=some r) (hi:L i=false) (Kc:∀ j,Ek rs i j=true->L j=true) (Mu:∀ j,L' j=(j==i||L j)) (hR:∀ id,C.R id->id<s0.nx)
  (hc:Oc C.P C.nt true ops o=some r) (hs:HoldsB C (Ur C rs s0 D L k) (D.at_ rs s0 L k) β a w)
  (Ul:∀ k' β' a' w',Done rs D L' k'->HoldsB C (Ur C rs s0 D L' k') (D.at_ rs s0 L' k') β' a' w'->next a' w') :
  ∃ b,Region.wanted o (yielded ops a.tmps)=b/\(b=true->o.wpIn C.F 0 C.P a w next Q)/\(b=false->next (a.put o.dst undef) w):=by
 obtain ⟨hd,qS,My⟩:=A47 hc
 have Ia:=rH.toOKs
 have Tx:=rH.ev i r hr
 unfold RG.ev at Tx
 rw [<- Bn9 Ia hD hr hi Kc (k:=k)] at Tx
 have Mn:∀ k',D.N k<=D.N k'->∀ id,Ur C rs s0 D L k id->Ur C rs s0 D L' k' id:=λk' hk id ⟨h1,h2⟩=>by
  refine ⟨by omega,λh=>h2 ?_⟩
  rcases h with h | ⟨g1,g2,g3⟩
  .exact .inl h
  .refine .inr ⟨g1,g2,?_⟩
   rw [Mu] at g3
   exact (Pk.1 g3).2
 have aR:i∉D.main->Done rs D L' k:=λhn=>by
  refine ⟨λj hj iJ x hx=>?_,hD.le,λq j hq=>?_⟩
  .rw [Mu] at iJ ⊢
   rcases Bool.or_eq_true_iff.1 iJ with h | h
   .have:j=i:=by simpa using h
    subst this
    rw [Kc x hx];simp
   .rw [hD.cl j hj h x hx];simp
  .have Nl:j≠i:=λe=>hn (by rw [<- e];exact Aw hq)
   rw [Mu];simp only [Da.2 Nl,Gz]
   exact hD.mn q j hq
 have iK:D.main[k]?=some i->Done rs D L' (k+1):=λhm=>by
  refine ⟨λj hj iJ x hx=>?_,by have:=(Ar.1 hm).1;omega,λq j hq=>?_⟩
  .rw [Mu] at iJ ⊢
   rcases Bool.or_eq_true_iff.1 iJ with h | h
   .have:j=i:=by simpa using h
    subst this
    rw [Kc x hx];simp
   .rw [hD.cl j hj h x hx];simp
  .rw [Mu]
   by_cases Nl:j=i
   .subst Nl
    have:q=k:=YE Ia hD hi Kc hq
    simp;omega
   .simp only [Da.2 Nl,Gz]
    rw [hD.mn q j hq]
    have:q≠k:=λe=>Nl (by rw [e,hm] at hq;exact (Im hq).symm)
    omega
 -- what the next state is
 have Sr:∀ (k':Nat) (s':DS) (β':Nat->Option Nat) (w':World) (x:Value),Done rs D L' k'->s'.sv=D.sv rs s0 L->s'.ho=D.full rs s0 L' k'->HoldsB C (Ur C rs s0 D L' k') s' β' a w'->WV C (Ur C rs s0 D L' k') (s'.vw C) β' w' x (D.d i)->next (a.put o.dst x) w':=
  λk' s' β' w' x h1 h2 h3 h4 h5=>by
   rw [<- hd]
   obtain ⟨e1,e2⟩:=Br3 Ia hr Mu k' s' h2 h3
   exact Ul k' β' _ w' h1 ((h4.put r.dst qS h5).congr e1 e2)
 cases hw:(D.at_ rs s0 L k).wanted r.g with
 | none=>rw [hw] at Tx;exact Tx.elim
 | some b=>
  refine ⟨b,Ax6 hs hc hw,λhb=>?_,λhb=>?_⟩
  .subst hb
   rw [hw] at Tx
   simp only at Tx
   have Um:∀ c,o.op≠.defer c:=λc OB=>by
    rw [OB,Au0] at My
    simp only [Option.getD_none] at My
    rw [My] at Tx
    simp only [Bb] at Tx
    rcases Tx with ⟨k,u,h⟩ | ⟨h1,h2⟩
    .simp at h
    .obtain ⟨_,u,h,_⟩:=h2 k (ZI Ia hD hi Kc)
     cases h
   -- calls
   have Ua:∀ (f:FuncId) (vs:List Value) (ds:List DV),D.main[k]?=some i->vs.length=ds.length->(∀ (j:Nat) (v:Value) (d:DV),vs[j]?=some v->ds[j]?=some d->WV C (Ur C rs s0 D L k) ((D.at_ rs s0 L k).vw C) β w v d)->
     Zo C.P f ds (D.st rs s0 i k) (D.d i) (D.H (k+1)) (D.N (k+1))->(eM C.P f=true->(execOp a.eval o).run C.P w=.ok (.enter f vs.toArray) w)->o.wpIn C.F 0 C.P a w next Q:=by
    intro f vs ds hm hl Ct ⟨Yi,iD⟩ Hl
    have Ye:=(Ia.mlt k i hm).2.1
    have US:=(Ia.mlt k i hm).2.2
    rcases iD with iD | ⟨hH,hN,R8,Ny⟩
    .
     let hid:Nat->Option DObj:=λid=>match D.unp rs s0 k id with
      | some j=>if L j=true/\Ek rs i j=false then D.cur rs L j else none
      | none=>none
     have Wx:(D.at_ rs s0 L k).ho=Ll hid (D.full rs s0 (Ek rs i) k):=by
      funext id
      show D.full rs s0 L k id=_
      unfold Ll
      rw [Ay1 (L:=L) Ia hD hr hi Kc]
      simp only [hid]
      cases hu:D.unp rs s0 k id with
      | none=>simp only;cases D.full rs s0 L k id <;> rfl
      | some j=>
       simp only
       by_cases ha:Ek rs i j=true
       .rw [Ah ha]
        have:D.full rs s0 L k id=D.cur rs L j:=by unfold RG.full;rw [hu];simp [Kc j ha]
        rw [this]
        obtain ⟨o',Nj⟩:=Eb.1 (Bh3 (rs:=rs) (L:=L) (bG hu).2.2.1)
        rw [Nj]
       .rw [Ae ha]
        simp only
        unfold RG.full;rw [hu]
        have vP:Ek rs i j=false:=by simpa using ha
        simp [vP]
     have T4:∀ id o,hid id=some o->D.full rs s0 (Ek rs i) k id=none:=λid o' h=>by
      simp only [hid] at h
      split at h
      .rename_i j hu
       split at h
       .rename_i Jd
        unfold RG.full;rw [hu];simp [Jd.2]
       .cases h
      .cases h
     have Up:=Bg9 (vis:=D.full rs s0 (Ek rs i) k) (hid:=hid) (R:=λid=>C.R id\/(s0.nx<=id/\id<s0.nx+rs.length/\L (id-s0.nx)=false)) (K:=λs' d'=>d'=D.d i/\s'.ho=D.H (k+1)/\s'.nx=D.N (k+1)) (f:=f) (ds:=ds) (vs:=vs)
      hs (λ_=>Dp) (λid h=>by
       have:=jB Ia k
       show id<D.N k
       rcases h with h | h
       .have:=hR id h;omega
       .omega) Wx T4 hl Ct iD
     refine A96 Um (Hl Yi) Up ?_
     rintro e w' ⟨v,d,Nj,Ba,β',rfl,⟨rfl,qG,Vm⟩,Rr,_,hh,hv⟩
     simp only at qG Vm
     subst qG Vm
     refine ⟨v,rfl,?_⟩
     have hg:∀ id,(id<D.N (k+1)/\¬ (C.R id\/(s0.nx<=id/\id<s0.nx+rs.length/\L (id-s0.nx)=false)))->Ur C rs s0 D L' (k+1) id:=λid ⟨h1,h2⟩=>
      ⟨h1,λh=>h2 (h.imp_right λ⟨g1,g2,g3⟩=>⟨g1,g2,by rw [Mu] at g3;exact (Pk.1 g3).2⟩)⟩
     refine Sr (k+1) ⟨D.sv rs s0 L,Ll hid (D.H (k+1)),D.N (k+1)⟩ β' w' v (iK hm) rfl ?_ (hh.grow hg) (hv.grow hg)
     funext id
     rw [Ay0 Mu hm Ye US]
     show Ll hid (D.H (k+1)) id=_
     unfold Ll
     cases hu:D.unp rs s0 k id with
     | none=>
      have:hid id=none:=by simp only [hid,hu]
      rw [this];simp only;cases D.H (k+1) id <;> rfl
     | some j=>
      simp only
      by_cases ha:Ek rs i j=true
      .rw [Ah ha]
       have:hid id=none:=by simp only [hid,hu,ha];simp
       rw [this];cases D.H (k+1) id <;> rfl
      .have vP:Ek rs i j=false:=by simpa using ha
       have NH:hid id=if L j=true then D.cur rs L j else none:=by simp only [hid,hu,vP,and_true]
       rw [Ae ha,NH]
       by_cases iJ:L j=true
       .obtain ⟨o',Nj⟩:=Eb.1 (Bh3 (rs:=rs) (L:=L) (bG hu).2.2.1)
        have:=Rr id o' (by rw [NH,Ah iJ,Nj])
        rw [this]
       .have cF:(⟨D.sv rs s0 L,Ll hid (D.H (k+1)),D.N (k+1)⟩:DS).vw C id=none:=hh.hh.fr id λh=>h.2 (.inr ⟨by have:=(bG hu).1;omega,by have:=bG hu;omega,by
         have e:id-s0.nx=j:=by have:=(bG hu).1;omega
         rw [e];simpa using iJ⟩)
        have:D.H (k+1) id=none:=by
         simp only [DS.vw,Ll] at cF
         cases hx:D.H (k+1) id with
         | none=>rfl
         | some y=>rw [hx] at cF;cases cF
        rw [this]
    .
     refine A96 Um (Hl Yi) (Bd2 (R:=λd'=>d'=D.d i) hs hl (λj v d hv hd=>?_) Ny) ?_
     .have h0:=R8 d (Aw hd)
      exact ZK ((Ct j v d hv hd).2.1 λid hid=>by rw [h0] at hid;cases hid) h0
     .rintro e w' ⟨v,d,rfl,rfl,hh,hv⟩
      refine ⟨v,rfl,?_⟩
      have ss:D.N k<=D.N (k+1):=Ia.mono k
      have hf:=Bh8 (L:=L) (L':=L') (u:=.keep) Ia hD hr hi Kc Mu hm Ye US (jB Ia k) rfl hH
      exact Sr (k+1) (D.at_ rs s0 L k) β w' v (iK hm) rfl hf.symm (hh.grow (Mn _ ss)) (hv.grow (Mn _ ss))
   have Fh:∀ (args:List Operand),(∀ x∈args,x∈r.op.opnds)->Qy (D.st rs s0 i k) r->∀ (j:Nat) (v:Value) (d:DV),(args.map a.eval)[j]?=some v->(args.map (D.st rs s0 i k).rv)[j]?=some d->WV C (Ur C rs s0 D L k) ((D.at_ rs s0 L k).vw C) β w v d:=by
    intro args Lc Xs j v d hv cQ
    simp only [Df,Ag] at hv cQ
    obtain ⟨x,hx,rfl⟩:=hv
    obtain ⟨y,hy,rfl⟩:=cQ
    rw [hx] at hy;cases hy
    rw [<- (YM Ia hD hr hi Kc Xs).rv x (Lc x (Aw hx))]
    exact hs.rvw x
   cases Sw:lE C.P o.op with
   | none=>
    exfalso
    rw [Sw] at My
    simp only [Option.getD_none] at My
    rw [My] at Tx
    rcases Tx with ⟨k,u,h⟩ | ⟨h1,h2⟩
    .simp [Bb] at h
    .obtain ⟨_,u,h,_⟩:=h2 k (ZI Ia hD hi Kc)
     cases h
   | some op=>
    rw [Sw] at My
    simp only [Gm] at My
    -- operations that are no calls
    have uU:((∃ k u,D.main[k]?=some i/\Qy (D.st rs s0 i k) r/\(D.st rs s0 i k).hasU u=true/\Bb (D.N k) (D.st rs s0 i k) op=some (D.d i,u)/\D.H (k+1)=u.app (D.N k) (D.st rs s0 i k).ho/\D.N (k+1)=if u.new then D.N k+1 else D.N k)\/
      (i∉D.main/\∀ k,D.may rs i k->Qy (D.st rs s0 i k) r/\∃ u,Bb (s0.nx+i) (D.st rs s0 i k) op=some (D.d i,u)/\match u with
       | .keep=>D.lay i=none/\D.tgt i=none
       | .lay o=>D.lay i=some o/\D.tgt i=none
       | .wr id o=>∃ j,D.unp rs s0 k id=some j/\Ek rs i j=true/\D.tgt i=some j/\D.ob i=o/\D.lay i=none
       | _=>False))->o.wpIn C.F 0 C.P a w next Q:=by
     rintro (⟨k0,u,hm,Xs,hU,hex,hH,hN⟩ | ⟨AI,Qe⟩)
     .obtain rfl:=YE Ia hD hi Kc hm
      have rF:=YM Ia hD hr hi Kc Xs
      rw [My] at rF
      have T0:Bb (D.N k0) (D.at_ rs s0 L k0) op=some (D.d i,u):=by rw [YQ rF];exact hex
      have Vl:=A43 hs (nid:=D.N k0) (λh=>by have:=h.1;omega) Sw T0
      have Ye:=(Ia.mlt k0 i hm).2.1
      have US:=(Ia.mlt k0 i hm).2.2
      refine A95 Um Vl λβ' w' x h1 h2=>?_
      have hg:∀ id,Ux (Ur C rs s0 D L k0) (D.N k0) u id->Ur C rs s0 D L' (k0+1) id:=λid h=>by
       have hle:=Ia.mono k0
       have key:Un (Ur C rs s0 D L k0) (D.N k0) id->D.N (k0+1)=D.N k0+1->Ur C rs s0 D L' (k0+1) id:=λh ss=>by
        rcases h with h | rfl
        .exact Mn (k0+1) hle id h
        .have Xu:=jB Ia k0
         refine ⟨by omega,λh=>?_⟩
         rcases h with h | h
         .have:=hR _ h;omega
         .omega
       cases u with
       | keep=>exact Mn (k0+1) hle id h
       | wr _ _=>exact Mn (k0+1) hle id h
       | lay _=>exact key h (by rw [hN];rfl)
       | mv _ _=>exact key h (by rw [hN];rfl)
      exact Sr (k0+1) _ β' w' x (iK hm) rfl (Bh8 (L:=L) (L':=L') Ia hD hr hi Kc Mu hm Ye US (jB Ia k0) hU hH).symm (h1.grow hg) (h2.grow hg)
     .obtain ⟨Xs,u,hex,hu⟩:=Qe k (ZI Ia hD hi Kc)
      have rF:=YM Ia hD hr hi Kc Xs
      rw [My] at rF
      have T0:Bb (s0.nx+i) (D.at_ rs s0 L k) op=some (D.d i,u):=by rw [YQ rF];exact hex
      have Ru:¬ Ur C rs s0 D L k (s0.nx+i):=λh=>h.2 (.inr ⟨by omega,by have:=Si hr;omega,by
       have e:s0.nx+i-s0.nx=i:=by omega
       rw [e];exact hi⟩)
      have Vl:=A43 hs (nid:=s0.nx+i) Ru Sw T0
      refine A95 Um Vl λβ' w' x h1 h2=>?_
      cases u with
      | keep=>exact Sr k _ β' w' x (aR AI) rfl (YL Mu hu.1 hu.2).symm (h1.grow (Mn k (Af _))) (h2.grow (Mn k (Af _)))
      | lay ob=>
       have hg:∀ id,Ux (Ur C rs s0 D L k) (s0.nx+i) (.lay ob) id->Ur C rs s0 D L' k id:=λid h=>by
        rcases h with h | rfl
        .exact Mn k (Af _) id h
        .have Xu:=jB Ia k
         have:=Si hr
         refine ⟨by omega,λh=>?_⟩
         rcases h with h | h
         .have:=hR _ h;omega
         .have e:s0.nx+i-s0.nx=i:=by omega
          have:=h.2.2
          rw [e,Mu] at this
          simp at this
       exact Sr k _ β' w' x (aR AI) rfl (Bh7 Ia hD hr hi Mu hu.1 hu.2).symm (h1.grow hg) (h2.grow hg)
      | wr id ob=>
       obtain ⟨j,g1,g2,g3,rfl,g5⟩:=hu
       exact Sr k _ β' w' x (aR AI) rfl (Br4 Ia hD hr hi Kc Mu g1 g2 g3 g5).symm (h1.grow (Mn k (Af _))) (h2.grow (Mn k (Af _)))
      | mv _ _=>exact hu.elim
    rw [My] at Tx
    split at Tx
    .rename_i f args
     obtain ⟨k0,hm,Xs,iD⟩:=Tx
     obtain rfl:=YE Ia hD hi Kc hm
     obtain ⟨c,ho,Jy,rfl⟩:=Ax7 Sw
     refine Ua f (c.args.toList.map a.eval) (c.args.toList.map (D.st rs s0 i k0).rv) hm (by simp) (Fh _ (λx hx=>by rw [My];exact hx) Xs) iD λYi=>?_
     simp [execOp,ho,resolve,Jy,Deferred.ofValue,Act.eval,invoke,CM Yi,A48]
    .rename_i tb x args
     obtain ⟨k0,f,fr,cs,hm,Xs,qQ,iD⟩:=Tx
     obtain rfl:=YE Ia hD hi Kc hm
     obtain ⟨c,ho,rfl,Jy⟩:=A92 Sw
     have rF:=YM Ia hD hr hi Kc Xs
     rw [<- rF.ev x (by rw [My];simp [DOp.opnds])] at qQ
     rcases Jy with ⟨rfl,Jy⟩ | ⟨name,rfl,Jy⟩
     .have hx:=A08 qQ
      simp only at hx
      have h1:=hs.ev x
      rw [hx] at h1
      obtain ⟨us,vs,e1,bD,Yf,pM,pL⟩:=Bc9 h1
      refine Ua _ (us++c.args.toList.map a.eval++vs) (fr++c.args.toList.map (D.st rs s0 i k0).rv++cs) hm (by simp [bD,Yf]) (XM (by simp [bD]) (XM bD (λj v d hv cQ=>?_) (Fh _ (λy hy=>by rw [My];simp [DOp.opnds,hy]) Xs)) λj v d hv cQ=>?_) iD λYi=>?_
      .exact hs.evp x (pM _ v d hv cQ) λid hid=>by rw [hx,DV.refs,DV.refsL,DV.refs];exact Dw _ (DV.refsL_mem (Aw cQ) hid)
      .exact hs.evp x (pL _ v d hv cQ) λid hid=>by rw [hx,DV.refs,DV.refsL];exact Dm _ (DV.refsL_mem (Aw cQ) hid)
      .have h3:(us.toArray++(c.args.map a.eval++vs.toArray):Array Value)=(us++(c.args.toList.map a.eval++vs)).toArray:=by apply Gq;simp
       simp [execOp,ho,resolve,Jy,e1,Deferred.ofValue,invoke]
       rw [h3]
       exact CM Yi _ _
     .simp only [DV.tgt] at qQ
      split at qQ
      .rename_i T e hx
       obtain ⟨f',Tv,AD⟩:=Ag.1 qQ
       cases AD
       have h1:=hs.ev x
       rw [hx] at h1
       obtain ⟨u,e1,Ct⟩:=BY h1
       refine Ua _ ([u]++c.args.toList.map a.eval) ([e]++c.args.toList.map (D.st rs s0 i k0).rv ++ []) hm (by simp) (λj v d hv cQ=>?_) iD λYi=>?_
       .rw [Bu] at cQ
        cases j with
        | zero=>
         simp at hv cQ
         subst hv cQ
         exact hs.evp x Ct λid hid=>by rw [hx,DV.refs];exact hid
        | succ j=>exact Fh c.args.toList (λy hy=>by rw [My];simp [DOp.opnds];exact .inr (by simpa using hy)) Xs j v d hv cQ
       .have h3:=Ap2 (w:=w) Tv Yi u (c.args.map a.eval)
        have h4:(#[u]++c.args.map a.eval:Array Value)=([u]++c.args.toList.map a.eval).toArray:=by apply Gq;simp
        rw [h4] at h3
        have h5:Array.extract (#[a.eval x]++c.args.map a.eval) 1 (#[a.eval x]++c.args.map a.eval).size=c.args.map a.eval:=by
         apply Gq
         simp [List.extract_eq_take_drop]
         exact Bm (by simp)
        have h6:(#[a.eval x]++c.args.map a.eval:Array Value)[0]?=some (.iface T u):=by rw [e1];first | rfl | simp [Xw]
        simp only [execOp,ho,resolve,Jy,Sem.run_bind,Sem.run_pure,Result.andThen_ok,invoke,h6,h5,h3]
      .cases qQ
    .exact uU Tx
  .subst hb
   rw [hw] at Tx
   simp only at Tx
   obtain ⟨h1,h2,D9,h3⟩:=Tx
   exact Sr k (D.at_ rs s0 L k) β w undef (aR h3) rfl (YL Mu h2 D9).symm (hs.grow (Mn k (Af _))) (by rw [h1];exact WV.v undef)
end Go.DD

/- Regions that draw their order, third part: every order. -/
namespace Go.DD
open Go.RowKit (Below)
def Lf(L:Array Bool)(j:Nat):Bool:=(L.toList[j]?).getD false
theorem B47{C:Ctx}{ops:Array Oper}{rs:List DR}{s0:DS}{D:RG}{Q:Exit->DS->Prop}(AF:ops.toList.mapM (Oc C.P C.nt true ops)=some rs)(rH:D.OK rs s0 C.P)(hR:∀ id,C.R id->id<s0.nx)
  (hQ:Q .normal (D.at_ rs s0 (λ_=>true) D.main.length)) :
  ∀ (fuel:Nat) (L:Array Bool) (k:Nat) (a:Act) (w:World) (β:Nat->Option Nat),L.size=ops.size->tS L.toList=fuel->
   (∀ (i:Nat) (r:DR),L.toList[i]?=some true->rs[i]?=some r->∀ j∈r.pre,L.toList[j]?=some true)->Done rs D (Lf L) k->HoldsB C (Ur C rs s0 D (Lf L) k) (D.at_ rs s0 (Lf L) k) β a w->wpAnyIn C.F 0 C.P .any ops (Uj C Q) fuel L a w:=by
 have Ia:=rH.toOKs
 obtain ⟨hlen,Vs⟩:=mapM_some AF
 replace hlen:rs.length=ops.size:=by rw [hlen];exact Ef
 have Ot:=Ia.pre
 have C8:∀ (L:Array Bool) (k:Nat) (a:Act) (w:World) (β:Nat->Option Nat),L.size=ops.size->(∀ b∈L.toList,b=true)->Done rs D (Lf L) k->HoldsB C (Ur C rs s0 D (Lf L) k) (D.at_ rs s0 (Lf L) k) β a w->Uj C Q .normal a w:=by
  intro L k a w β hL Qe hD hs
  have VW:∀ j,j<rs.length->Lf L j=true:=λj hj=>by
   have Xt:j<L.toList.length:=by simp;omega
   simp only [Lf,Aa Xt,Gm]
   exact Qe _ (Bd _)
  have hk:k=D.main.length:=by
   rcases Cj k D.main.length with h | h
   .have hm:D.main[k]?=some D.main[k]:=Aa h
    have:=(hD.mn k _ hm).1 (VW _ (Ia.mlt k _ hm).1)
    omega
   .have:=hD.le;omega
  subst hk
  have e1:(D.at_ rs s0 (λ_=>true) D.main.length).sv=(D.at_ rs s0 (Lf L) D.main.length).sv:=by
   funext t
   show D.sv rs s0 (λ_=>true) t=D.sv rs s0 (Lf L) t
   unfold RG.sv
   cases hp:rs.findIdx? (λr=>r.dst==some t) with
   | none=>rfl
   | some p=>simp [VW p (Hp.1 hp).1]
  have e2:(D.at_ rs s0 (λ_=>true) D.main.length).ho=(D.at_ rs s0 (Lf L) D.main.length).ho:=by
   funext id
   show D.full rs s0 (λ_=>true) D.main.length id=D.full rs s0 (Lf L) D.main.length id
   unfold RG.full
   cases hu:D.unp rs s0 D.main.length id with
   | none=>rfl
   | some j=>
    have hc:D.cur rs (λ_=>true) j=D.cur rs (Lf L) j:=by
     unfold RG.cur
     rw [SX (L:=Lf L) (L':=λ_=>true) λw hw _=>(VW w hw).symm]
    simp [VW j (bG hu).2.1,hc]
  have Xu:=jB Ia D.main.length
  refine ⟨_,hQ,λid h=>by have:=hR id h;show id<D.N D.main.length;omega,β,(hs.congr e1 e2).grow λid ⟨h1,h2⟩=>⟨h1,λh=>h2 (.inl h)⟩⟩
 have Q4:∀ (L:Array Bool),L.size=ops.size->Region.ready .any ops L=[]->∀ b∈L.toList,b=true:=by
  intro L hL hr
  have key:∀ i,i<L.size->L.toList[i]?=some true:=by
   intro i
   induction i using Nat.strongRecOn with
   | _ i ih=>
    intro hi
    rw [Aa (by simpa using hi)]
    cases hb:L.toList[i]'(by simpa using hi) with
    | true=>rfl
    | false=>
     exfalso
     have Ss:i∈Region.ready .any ops L:=by
      unfold Region.ready
      rw [Gh]
      refine ⟨by simp;omega,?_⟩
      have ho:ops[i]?=some ops[i]:=Lj (by omega)
      simp only [ho,Cb,Gm,Bq]
      refine ⟨?_,?_⟩
      .have:L[i]?=some false:=by rw [<- Cz,Aa (by simpa using hi),hb]
       simp [Fk,this]
      .rw [Array.all_eq_true']
       intro e he
       rw [Jw]
       by_cases cY:Region.binds .any e=true
       .refine .inr ?_
        have bY:=Vs i (ops[i]) (rs[i]'(by omega)) (by rw [Cz];exact ho) (Aa (by omega))
        have MB:e.on∈(rs[i]'(by omega)).pre:=by
         unfold Oc at bY
         split at bY
         .split at bY
          .rw [<- Im bY]
           simp only [Ip]
           rw [Rk,Gp]
           exact ⟨e,by simpa using he,by simp [cY]⟩
          .cases bY
         .cases bY
        have Fb:=Ot i _ (Aa (by omega)) e.on MB
        have:=ih e.on Fb (by omega)
        rw [Cz] at this
        simp [Fk,this]
       .simp [cY]
     rw [hr] at Ss;cases Ss
  intro b hb
  obtain ⟨i,hi,rfl⟩:=Bx.1 hb
  have:=key i (by simpa using hi)
  rw [Aa hi] at this
  exact Im this
 intro fuel
 induction fuel with
 | zero=>
  intro L k a w β hL hu Up hD hs
  have Qe:=Bh2 _ hu
  refine ⟨?_,C8 L k a w β hL Qe hD hs⟩
  unfold Region.ready
  rw [List.filter_eq_nil_iff]
  intro i hi
  have qE:i<L.size:=by simp at hi;omega
  have:L[i]?=some true:=by rw [<- Cz,Aa (by simpa using qE),Qe _ (Bd _)]
  simp [Fk,this]
 | succ fuel ih=>
  intro L k a w β hL hu Up hD hs
  refine ⟨λhr=>C8 L k a w β hL (Q4 L hL hr) hD hs,λi hi=>?_⟩
  unfold Region.ready at hi
  rw [Gh] at hi
  obtain ⟨qF,Sa⟩:=hi
  have vE:i<ops.size:=by simpa using qF
  have ho:ops[i]?=some ops[i]:=Lj vE
  simp only [ho,Cb,Gm,Bq] at Sa
  obtain ⟨hiL,hiE⟩:=Sa
  have su:L.toList[i]?=some false:=by
   have Fb:i<L.size:=by omega
   rw [Cz,Lj Fb]
   simp [Fk,Lj Fb] at hiL
   simp [hiL]
  have LU:rs[i]?=some (rs[i]'(by omega)):=Aa (by omega)
  generalize (rs[i]'(by omega))=r at LU
  have mI:=Vs i ops[i] r (by rw [Cz];exact ho) LU
  have B1:∀ j∈r.pre,L.toList[j]?=some true:=by
   intro j hj
   have:∃ ed∈ops[i].after,Region.binds .any ed=true/\ed.on=j:=by
    unfold Oc at mI
    split at mI
    .split at mI
     .cases mI
      simp only [Ip] at hj
      rw [Rk,Gp] at hj
      obtain ⟨ed,h1,h2⟩:=hj
      split at h2
      .rename_i cY;cases h2;exact ⟨ed,by simpa using h1,cY,rfl⟩
      .cases h2
     .cases mI
    .cases mI
   obtain ⟨ed,h1,h2,rfl⟩:=this
   rw [Array.all_eq_true'] at hiE
   have:=hiE ed h1
   rw [h2] at this
   simp only [Bool.not_true,Gz] at this
   rw [Cz]
   cases hq:L[ed.on]? with
   | none=>simp [Fk,hq] at this
   | some b=>simp [Fk,hq] at this;simp [this]
  have Kc:∀ j,Ek rs i j=true->Lf L j=true:=by
   intro j hj
   have qE:i<(Ku rs []).length:=by rw [YF];simp;omega
   have hl:(Ku rs [])[i]?=some (Uc rs i):=by simp [Uc,Aa qE]
   have:=Bd3 Ot Up i r _ LU B1 hl j (by simpa [Ek] using hj)
   simp [Lf,this]
  have OW:∀ j,Lf (L.setIfInBounds i true) j=(j==i||Lf L j):=λj=>by
   simp only [Lf,Kp,List.getElem?_set]
   by_cases Nm:i=j
   .subst Nm
    have:i<L.size:=by omega
    simp [this]
   .simp [Nm,Hj Nm]
  obtain ⟨b,hw,ht,hf⟩:=B46 (Q:=Uj C Q) (next:=λa' w'=>wpAnyIn C.F 0 C.P .any ops (Uj C Q) fuel (L.setIfInBounds i true) a' w') rH hD LU (by simp [Lf,su]) Kc OW hR mI hs (λk' β' a' w' sZ hh=>by
   refine ih (L.setIfInBounds i true) k' a' w' β' (by simpa using hL) ?_ ?_ sZ hh
   .rw [Kp]
    have:=Br2 L.toList i su
    omega
   .intro k rk hk nq j hj
    rw [Kp] at hk ⊢
    rw [List.getElem?_set] at hk ⊢
    have pO:L.toList[j]?=some true:=by
     by_cases hik:i=k
     .subst hik;rw [LU] at nq;cases nq;exact B1 j hj
     .rw [Ae hik] at hk;exact Up k rk hk nq j hj
    by_cases Nm:i=j
    .subst Nm;rw [su] at pO;cases pO
    .rw [Ae Nm];exact pO)
  unfold wpOpIn
  rw [ho]
  simp only
  rw [hw]
  cases b with
  | true=>simp only [Ip];exact ht rfl
  | false=>
   simp only [Mi,Ph]
   exact ⟨λ_ _=>trivial,hf rfl⟩
theorem DW.regd{C:Ctx}{Q:Exit->DS->Prop}{s:DS}{rs:List DR}{info:RI}(D:RG)(hm:C.P.follows .mixedOrders=true)(Ia:D.OK rs s C.P)(h:Q .normal (D.at_ rs s (λ_=>true) D.main.length)):DW C (.reg true rs info) Q s:=by
 intro code hc a w ⟨hR,β,hs⟩
 obtain ⟨id,os,rfl,hl,_⟩:=Aw4 hc
 refine wpIn_region_any hm ?_
 have pJ:HoldsB C (Us C s.nx) s β a { w with drawn:=w.drawn+1 }:=hs.keep ⟨rfl,rfl,rfl,Af _,λ_ _=>rfl⟩
 have VY:∀ j,Lf (Array.replicate os.size false) j=false:=λj=>by
  simp only [Lf,Wj,List.getElem?_replicate]
  split <;> rfl
 refine B47 hl Ia hR h os.size _ 0 a _ β (by simp) ?_ (λi r hi=>?_) ⟨λi _ hi=>(by rw [VY] at hi;cases hi),Gf _,λq j _=>(by rw [VY];simp)⟩ ?_
 .simp only [Wj]
  generalize os.size=n
  induction n with
  | zero=>rfl
  | succ n ih=>simp [Ja,tS,ih];omega
 .rw [Wj,List.getElem?_replicate] at hi
  split at hi <;> simp at hi
 .refine (pJ.grow λid hi=>?_).congr ?_ ?_
  .refine ⟨by have:=hi.1;rw [Ia.n0];omega,λh=>?_⟩
   rcases h with h | h
   .exact hi.2 h
   .have:=hi.1;omega
  .funext t
   show D.sv rs s _ t=s.sv t
   unfold RG.sv
   split
   .rw [VY];rfl
   .rfl
  .funext id
   show D.full rs s _ 0 id=s.ho id
   unfold RG.full
   cases hu:D.unp rs s 0 id with
   | none=>simp only;rw [Ia.h0]
   | some j=>
    simp only
    rw [VY]
    have h1:s.vw C id=none:=hs.hh.fr id λh=>by have:=(bG hu).1;have:=h.1;omega
    have:s.ho id=none:=by
     cases hx:s.ho id with
     | none=>rfl
     | some o=>rw [mV hx] at h1;cases h1
    rw [this];rfl
end Go.DD

/- An evaluator of deep code on closed states, laid out so that the kernel runs it: slots by paths, operations as functions, integers forced. -/
namespace Go.DD
inductive Pa where
 | o
 | l (p:Pa)
 | r (p:Pa)
def To:Nat->Nat->Pa
 | 0,_=>.o
 | f+1,k=>match k with
  | 0=>.o
  | k+1=>if k % 2=0 then .l (To f (k / 2)) else .r (To f (k / 2))
def Cn(k:Nat):Pa:=To k k
def gP{α:Type}(p:Pa):Tr α->Option α:=
 Pa.rec (motive:=λ_=>Tr α->Option α) (λt=>Tr.rec (motive:=λ_=>Option α) none (λ_ v _ _ _=>v) t)
  (λ_ ih t=>Tr.rec (motive:=λ_=>Option α) none (λl _ _ _ _=>ih l) t) (λ_ ih t=>Tr.rec (motive:=λ_=>Option α) none (λ_ _ r _ _=>ih r) t) p
def sP{α:Type}(p:Pa)(v:Option α):Tr α->Tr α:=
 Pa.rec (motive:=λ_=>Tr α->Tr α) (λt=>Tr.rec (motive:=λ_=>Tr α) (.n .e v .e) (λl _ r _ _=>.n l v r) t)
  (λ_ ih t=>Tr.rec (motive:=λ_=>Tr α) (.n (ih .e) none .e) (λl x r _ _=>.n (ih l) x r) t) (λ_ ih t=>Tr.rec (motive:=λ_=>Tr α) (.n .e none (ih .e)) (λl x r _ _=>.n l x (ih r)) t) p
def gN{α:Type}(t:Tr α):Nat->Option α:=
 Tr.rec (motive:=λ_=>Nat->Option α) (λ_=>none) (λ_ v _ il ir k=>Nat.rec (motive:=λ_=>Option α) v (λj _=>Bool.rec (motive:=λ_=>Option α) (ir (Nat.div j 2)) (il (Nat.div j 2)) (Nat.beq (Nat.mod j 2) 0)) k) t
def sN{α:Type}(f:Nat)(v:Option α):Tr α->Nat->Tr α:=
 Nat.rec (motive:=λ_=>Tr α->Nat->Tr α) (λt _=>Tr.rec (motive:=λ_=>Tr α) (.n .e v .e) (λl _ r _ _=>.n l v r) t)
  (λ_ ih t k=>Nat.rec (motive:=λ_=>Tr α) (Tr.rec (motive:=λ_=>Tr α) (.n .e v .e) (λl _ r _ _=>.n l v r) t)
   (λj _=>Bool.rec (motive:=λ_=>Tr α) (Tr.rec (motive:=λ_=>Tr α) (.n .e none (ih .e (Nat.div j 2))) (λl x r _ _=>.n l x (ih r (Nat.div j 2))) t)
    (Tr.rec (motive:=λ_=>Tr α) (.n (ih .e (Nat.div j 2)) none .e) (λl x r _ _=>.n (ih l (Nat.div j 2)) x r) t) (Nat.beq (Nat.mod j 2) 0)) k) f
def Kq{α:Type}(t:Tr α)(k:Nat)(v:Option α):Tr α:=sN k v t k
structure ES where
 sl:Tr DV
 hp:Tr DObj
 nx:Nat
 deriving Inhabited
def ES.ds(es:ES):DS:=⟨λt=>(es.sl.get t).getD .any,es.hp.get,es.nx⟩
inductive EO where
 | t (p:Pa)
 | c (d:DV)
def EO.of:Operand->EO
 | .tmp u=>.t (Cn u)
 | .const x=>.c (aC x)
 | .func f=>.c (.fn (.func f) [.tup []])
 | .global g=>.c (BE g)
def Ac(es:ES)(x:EO):DV:=EO.rec (motive:=λ_=>DV) (λp=>Option.rec (motive:=λ_=>DV) .any (λd=>d) (gP p es.sl)) (λd=>d) x
def Pu{α:Type}(x:Option α):Bool:=Option.rec (motive:=λ_=>Bool) false (λ_=>true) x
def Ug(d:DV):List Nat:=DV.casesOn (motive_1:=λ_=>List Nat) d [] (λ_=>[]) (λcs=>DV.refsL cs) (λcs=>DV.refsL cs) (λ_ _=>[]) (λ_=>[]) (λ_ cs=>DV.refsL cs) (λ_ d=>DV.refs d)
 (λid _ _ _=>[id]) (λid _=>[id]) (λid=>[id]) (λid=>[id])
def Te{α:Type}(l:List α)(f:α->Bool):Bool:=List.rec (motive:=λ_=>Bool) true (λa _ ih=>Bool.rec (motive:=λ_=>Bool) false ih (f a)) l
def Fo{α:Type}(b:Bool)(x y:α):α:=Bool.rec (motive:=λ_=>α) y x b
def Ch(hp:Tr DObj)(d:DV):DV:=Fo (Te (Ug d) λid=>Pu (gN hp id)) d .any
def Mz(es:ES)(x:EO):DV:=EO.rec (motive:=λ_=>DV) (λp=>Ch es.hp (Option.rec (motive:=λ_=>DV) .any (λd=>d) (gP p es.sl))) (λd=>d) x
def Zu{α:Type}(n:Nat)(k:Nat->α):α:=Nat.rec (motive:=λ_=>α) (k 0) (λm _=>k (m+1)) n
def Br5{α:Type}(n:Int)(k:Int->α):α:=Int.rec (motive:=λ_=>α) (λm=>Zu m λm=>k (.ofNat m)) (λm=>Zu m λm=>k (.negSucc m)) n
def cV{α:Type}(d:DV)(f:Value->α)(e:α):α:=DV.casesOn (motive_1:=λ_=>α) d e f (λ_=>e) (λ_=>e) (λ_ _=>e) (λ_=>e) (λ_ _=>e) (λ_ _=>e) (λ_ _ _ _=>e) (λ_ _=>e) (λ_=>e) (λ_=>e)
def dZ{α:Type}(x:Value)(fb:Bool->α)(fi:IntKind->Int->α)(fs:ByteArray->α)(e:α):α:=
 Value.casesOn (motive_1:=λ_=>α) x fb fi (λ_ _=>e) (λ_ _ _=>e) fs (λ_=>e) (λ_ _ _=>e) (λ_=>e) (λ_=>e) (λ_ _ _=>e) e (λ_ _=>e) e (λ_=>e) (λ_=>e)
def Xz(x:Option Value):Option DV:=Option.rec (motive:=λ_=>Option DV) none (λv=>dZ v (λb=>Bool.rec (motive:=λ_=>Option DV) (some (.v (.bool false))) (some (.v (.bool true))) b) (λk n=>Br5 n λn=>some (.v (.int k n))) (λs=>some (.v (.string s))) (some (.v v))) x
abbrev XP:Type:=ES->Option DV
abbrev XU:Type:=ES->Nat->Option (DV×Upd)
def Aj(op:BinOp)(x y:EO):XP:=λes=>cV (Ac es x) (λv=>cV (Ac es y) (λw=>
 dZ v (λ_=>none) (λk a=>dZ w (λ_=>none) (λk' b=>Xz (Fo (Nh op) (nB op k a b) (Fo (Nat.beq k.ctorIdx k'.ctorIdx) (Mq op k a b) none))) (λ_=>none) none) (λs=>dZ w (λ_=>none) (λ_ _=>none) (λs'=>Xz (eC op s s')) none) none) none) none
def Bz(c x y:EO):XP:=λes=>cV (Ac es c) (λv=>dZ v (λb=>some (Fo b (Ac es x) (Ac es y))) (λ_ _=>none) (λ_=>none) none) none
def Lk(op:UnOp)(x:EO):XP:=λes=>cV (Ac es x) (λv=>Xz (EJ op (.v v))) none
def Ub{α:Type}(hp:Tr DObj)(id:Nat)(f:TypeId->List DV->α)(e:α):α:=
 Option.rec (motive:=λ_=>α) e (λo=>DObj.casesOn (motive:=λ_=>α) o f (λ_ _=>e) (λ_=>e) (λ_ _=>e) (λ_ _ _ _=>e)) (gN hp id)
def Jv{α:Type}(n:Nat)(l:List α):List α:=Nat.rec (motive:=λ_=>List α->List α) (λl=>l) (λ_ ih l=>List.rec (motive:=λ_=>List α) [] (λ_ t _=>ih t) l) n l
def Wm{α:Type}(n:Nat)(l:List α):List α:=Nat.rec (motive:=λ_=>List α->List α) (λ_=>[]) (λ_ ih l=>List.rec (motive:=λ_=>List α) [] (λa t _=>a::ih t) l) n l
def Qb(k:Option Nat)(cs:List DV):Option DV:=Option.rec (motive:=λ_=>Option DV) (List.rec (motive:=λ_=>Option DV) none (λc _ _=>some c) cs) (λn=>Fo (Nat.ble n cs.length) (some (.agg (Wm n cs))) none) k
def iU{α:Type}(d:DV)(fi:List DV->α)(fp:Nat->Nat->α)(e:α):α:=DV.casesOn (motive_1:=λ_=>α) d e (λ_=>e) (λ_=>e) (λ_=>e) (λ_ _=>e) fi (λ_ _=>e) (λ_ _=>e) (λ_ _ _ _=>e) fp (λ_=>e) (λ_=>e)
def Bs(k:Option Nat)(x:EO):XP:=λes=>iU (Ac es x) (λcs=>Qb k cs) (λid off=>Ub es.hp id (λ_ cs=>Qb k (Jv off cs)) none) none
def Dl(off:Nat)(x:EO):XP:=λes=>iU (Ac es x) (λcs=>some (.ia (Jv off cs))) (λid o=>Fo (Pu (gN es.hp id)) (Zu (o+off) λn=>some (.pt id n)) none) none
def WX{α:Type}(d:DV)(fv:Value->α)(fs:List DV->Nat->α)(fm:Nat->Nat->Nat->Nat->α)(e:α):α:=DV.casesOn (motive_1:=λ_=>α) d e fv (λ_=>e) (λ_=>e) fs (λ_=>e) (λ_ _=>e) (λ_ _=>e) fm (λ_ _=>e) (λ_=>e) (λ_=>e)
def cI{α:Type}(d:DV)(f:Int->α)(e:α):α:=cV d (λv=>dZ v (λ_=>e) (λ_ n=>f n) (λ_=>e) e) e
def rY{α:Type}(j:Int)(n:Nat)(f:Nat->α)(e:α):α:=Int.rec (motive:=λ_=>α) (λm=>Fo (Nat.blt m n) (f m) e) (λ_=>e) j
def Cs(es':Nat)(x i:EO):XP:=λes=>cI (Ac es i) (λj=>WX (Ac es x) (λ_=>none) (λcs n=>rY j n (λm=>some (.ia (Jv (m*es') cs))) none)
 (λid off n _=>Fo (Pu (gN es.hp id)) (rY j n (λm=>Zu (off+m*es') λo=>some (.pt id o)) none) none) none) none
def tP(n es':Nat)(x i:EO):XP:=λes=>cI (Ac es i) (λj=>iU (Ac es x) (λcs=>rY j n (λm=>some (.ia (Jv (m*es') cs))) none)
 (λid off=>Fo (Pu (gN es.hp id)) (rY j n (λm=>Zu (off+m*es') λo=>some (.pt id o)) none) none) none) none
def kf(v:Value):Option DV:=Value.casesOn (motive_1:=λ_=>Option DV) v (λ_=>none) (λ_ _=>none) (λ_ _=>none) (λ_ _ _=>none) (λ_=>none) (λ_=>none)
 (λa n _=>Option.rec (motive:=λ_=>Option DV) (some (.v (.int .i64 n))) (λ_=>none) a) (λ_=>none) (λ_=>none) (λ_ _ _=>none) none (λ_ _=>none) none (λ_=>none) (λ_=>none)
def Cy(x:EO):XP:=λes=>WX (Ac es x) kf (λ_ n=>Zu n λn=>some (.v (.int .i64 (.ofNat n)))) (λid _ n _=>Fo (Pu (gN es.hp id)) (Zu n λn=>some (.v (.int .i64 (.ofNat n)))) none) none
def rT{α:Type}(d:DV)(f:List DV->α)(e:α):α:=DV.casesOn (motive_1:=λ_=>α) d e (λ_=>e) (λ_=>e) f (λ_ _=>e) (λ_=>e) (λ_ _=>e) (λ_ _=>e) (λ_ _ _ _=>e) (λ_ _=>e) (λ_=>e) (λ_=>e)
def aD{α:Type}(n:Nat)(l:List α):Option α:=List.rec (motive:=λ_=>Option α) none (λa _ _=>some a) (Jv n l)
def vD{α:Type}(d:DV)(f:Value->α)(e:α):α:=DV.casesOn (motive_1:=λ_=>α) d e f (λ_=>e) (λ_=>e) (λ_ _=>e) (λ_=>e) (λ_ _=>e) (λ_ _=>e) (λ_ _ _ _=>e) (λ_ _=>e) (λ_=>e) (λ_=>e)
def Ea(x:EO)(i:Nat):XP:=λes=>rT (Ac es x) (λds=>Option.rec (motive:=λ_=>Option DV) none (λd=>vD d (λv=>some (.v v)) (rT (Mz es x) (λds=>aD i ds) none)) (aD i ds)) none
def Bc(o:DOp):XU:=λes nid=>Bb nid es.ds o
def I5{β α:Type}(l:List β)(k:List β->α):α:=List.rec (motive:=λ_=>(List β->α)->α) (λk=>k []) (λa _ ih k=>ih λt=>k (a::t)) l k
def Li{α:Type}(a b:List α):List α:=List.rec (motive:=λ_=>List α) b (λx _ ih=>x::ih) a
def DG(d:DV):List DV:=DV.casesOn (motive_1:=λ_=>List DV) d [d] (λ_=>[d]) (λcs=>cs) (λ_=>[d]) (λ_ _=>[d]) (λ_=>[d]) (λ_ _=>[d]) (λ_ _=>[d]) (λ_ _ _ _=>[d]) (λ_ _=>[d]) (λ_=>[d]) (λ_=>[d])
def UF(d:DV):Bool:=DV.casesOn (motive_1:=λ_=>Bool) d false (λx=>x.oneCell') (λ_=>true) (λ_=>false) (λ_ _=>true) (λ_=>true) (λ_ _=>true) (λ_ _=>true) (λ_ _ _ _=>true) (λ_ _=>true) (λ_=>true) (λ_=>true)
def Ej(n:Nat)(a x:EO):XU:=λes _=>iU (Ac es a) (λ_=>none) (λid off=>Ub es.hp id (λT cs=>
 Fo (UF (Mz es x)) (Fo (Nat.beq (DG (Mz es x)).length n) (Fo (Nat.ble (off+n) cs.length) (I5 (Li (Wm off cs) (Li (DG (Mz es x)) (Jv (off+n) cs))) λl=>some (.any,.wr id (.row T l))) none) none) none) none) none
def Mj(T:TypeId)(x:EO):XU:=λes nid=>Fo (UF (Mz es x)) (some (.pt nid 0,.lay (.row T (DG (Mz es x))))) none
def fY{α β:Type}(f:α->β)(l:List α):List β:=List.rec (motive:=λ_=>List β) [] (λa _ ih=>f a::ih) l
def Me(T:TypeId)(z:List DV):XU:=λ_ nid=>some (.pt nid 0,.lay (.row T z))
inductive Tg where
 | fn (f:Nat)
 | yl (id:Nat)
def Bf:Type:=Tg->List DV->Tr DObj->Nat->Option (DV×Tr DObj×Nat)
def ES.cs{α:Type}(es:ES)(f:Tr DV->Tr DObj->Nat->α):α:=ES.rec (motive:=λ_=>α) f es
def ES.putE(es:ES)(dst:Option Pa)(d:DV):ES:=ES.rec (motive:=λ_=>ES) (λsl hp nx=>Option.rec (motive:=λ_=>ES) ⟨sl,hp,nx⟩ (λp=>⟨sP p (some d) sl,hp,nx⟩) dst) es
def Vh(hp:Tr DObj)(nid:Nat)(u:Upd):Tr DObj:=Upd.casesOn (motive:=λ_=>Tr DObj) u hp (λo=>Kq hp nid (some o)) (λid o=>Kq hp id (some o))
 (λIy o=>Option.rec (motive:=λ_=>Tr DObj) (Kq hp nid (some o)) (λi=>Kq (Kq hp i none) nid (some o)) Iy)
abbrev Od:Type:=Bf->ES->Option ES
def sM(dst:Option Pa)(x:EO):Od:=λ_ es=>some (es.putE dst (Ac es x))
def sX(dst:Option Pa)(x:XP):Od:=λ_ es=>Option.rec (motive:=λ_=>Option ES) none (λd=>some (es.putE dst d)) (x es)
def sU(dst:Option Pa)(x:XU):Od:=λ_ es=>Option.rec (motive:=λ_=>Option ES) none (λp=>Prod.rec (motive:=λ_=>Option ES) (λd u=>
 es.cs λsl hp nx=>Fo u.new (Zu (nx+1) λn=>some ((ES.mk sl (Vh hp nx u) n).putE dst d)) (some ((ES.mk sl (Vh hp nx u) nx).putE dst d))) p) (x es es.nx)
def jE(tg:Tg)(ds:List DV)(dst:Option Pa):Od:=λcall es=>Option.rec (motive:=λ_=>Option ES) none (λp=>Prod.rec (motive:=λ_=>Option ES) (λd q=>Prod.rec (motive:=λ_=>Option ES) (λhp nx=>es.cs λsl _ _=>some ((ES.mk sl hp nx).putE dst d)) q) p) (call tg ds es.hp es.nx)
def dK(es:ES)(args:List EO):List DV:=fY (Ac es) args
def Au(f:Nat)(args:List EO)(dst:Option Pa):Od:=λcall es=>jE (.fn f) (dK es args) dst call es
def eP(tb:Option (List (TypeId×FuncId)))(x:EO)(args:List EO)(dst:Option Pa):Od:=λcall es=>
 Option.rec (motive:=λ_=>Option ES) (Option.rec (motive:=λ_=>Option ES) none (λi=>jE (.yl i) (dK es args) dst call es) ((Mz es x).tgY tb)) (λp=>jE (.fn p.1) (Li p.2.1 (Li (dK es args) p.2.2)) dst call es) ((Mz es x).tgt tb)
def en(k:Bool)(x:Operand)(dst:Option Pa):Od:=λ_ es=>match oT es.ds k x with
 | some [p]=>if p.2.new then none else some ((ES.mk es.sl (Vh es.hp es.nx p.2) es.nx).putE dst p.1)
 | _=>none
def Xx:DOp->Option XP
 | .bin op x y=>some (Aj op (.of x) (.of y))
 | .pick c x y=>some (Bz (.of c) (.of x) (.of y))
 | .un op x=>some (Lk op (.of x))
 | .ld k x=>some (Bs k (.of x))
 | .fa off x=>some (Dl off (.of x))
 | .ia es x i=>some (Cs es (.of x) (.of i))
 | .fx n es x i=>some (tP n es (.of x) (.of i))
 | .len x=>some (Cy (.of x))
 | .ext x i=>some (Ea (.of x) i)
 | _=>none
def Tn:DOp->XU
 | .st n a x=>Ej n (.of a) (.of x)
 | .bx T x=>Mj T (.of x)
 | .al T z=>Me T (z.map .v)
 | o=>Bc o
def Sg(dst:Option Pa)(o:DOp):Od:=match o with
 | .mv x=>sM dst (.of x)
 | .call f args=>Au f (args.map EO.of) dst
 | .cv tb x args=>eP tb (.of x) (args.map EO.of) dst
 | .nxm k x=>en k x dst
 | o=>match Xx o with
  | some x=>sX dst x
  | none=>sU dst (Tn o)
def Vi(tb:Option (List (TypeId×FuncId)))(x:EO)(args:List EO)(dst:Option Pa):Od:=λcall es=>
 Option.rec (motive:=λ_=>Option ES) none (λp=>jE (.fn p.1) (Li p.2.1 (Li (dK es args) p.2.2)) dst call es) ((Mz es x).tgt tb)
def Yq(dst:Option Pa)(o:DOp):Od:=match o with
 | .cv tb x args=>Vi tb (.of x) (args.map EO.of) dst
 | .nxm _ _=>λ_ _=>none
 | o=>Sg dst o
def Kk(es:ES)(p:Pa)(b:Bool):Option Bool:=cV (Ac es (.t p)) (λv=>Value.casesOn (motive_1:=λ_=>Option Bool) v (λc=>some (c==b)) (λ_ _=>none) (λ_ _=>none) (λ_ _ _=>none) (λ_=>none) (λ_=>none) (λ_ _ _=>none) (λ_=>none) (λ_=>none) (λ_ _ _=>none) none (λ_ _=>none) none (λ_=>none) (λ_=>some false)) none
def sG(p:Pa)(b:Bool)(dst:Option Pa)(s:Od):Od:=λcall es=>Option.rec (motive:=λ_=>Option ES) none (λc=>Bool.rec (motive:=λ_=>Option ES) (some (es.putE dst (.v undef))) (s call es) c) (Kk es p b)
def sq(s k:Od):Od:=λcall es=>Option.rec (motive:=λ_=>Option ES) none (λes'=>es'.cs λsl hp nx=>k call ⟨sl,hp,nx⟩) (s call es)
def tX:Od:=λ_ es=>some es
def sL(l:List Od):Od:=List.rec (motive:=λ_=>Od) tX (λs _ ih=>sq s ih) l
def Hg:Option Nat->Option Pa
 | some t=>some (Cn t)
 | none=>none
def tT(r:DR):Od:=match r.g with
 | none=>Sg (Hg r.dst) r.op
 | some (t,b)=>sG (Cn t) b (Hg r.dst) (Sg (Hg r.dst) r.op)
def oI:List DR->Od
 | []=>tX
 | r::rest=>sq (tT r) (oI rest)
def Pv:Value->Value->Bool
 | .bool a,.bool b=>a==b
 | .int k a,.int k' b=>k==k'&&a==b
 | .string a,.string b=>a.data.toList==b.data.toList
 | .pointer none,.pointer none=>true
 | .slice none a b,.slice none c d=>a==c&&b==d
 | .map none,.map none=>true
 | .nilFunc,.nilFunc=>true
 | .nilIface,.nilIface=>true
 | _,_=>false
def Ji(f:DV->DV->Bool):List DV->List DV->Bool
 | [],[]=>true
 | a::as,b::bs=>f a b&&Ji f as bs
 | _,_=>false
def Br6:Fn->Fn->Bool
 | .func f,.func g=>f==g
 | _,_=>false
def Nb:Nat->DV->DV->Bool
 | 0,_,_=>false
 | n+1,a,b=>match a,b with
  | .any,.any=>true
  | .v x,.v y=>Pv x y
  | .agg a,.agg b=>Ji (Nb n) a b
  | .tup a,.tup b=>Ji (Nb n) a b
  | .sl a m,.sl b m'=>m==m'&&Ji (Nb n) a b
  | .ia a,.ia b=>Ji (Nb n) a b
  | .fn f a,.fn g b=>Br6 f g&&Ji (Nb n) a b
  | .ifc T a,.ifc T' b=>T==T'&&Nb n a b
  | .ms i o k e,.ms i' o' k' e'=>i==i'&&o==o'&&k==k'&&e==e'
  | .pt i o,.pt i' o'=>i==i'&&o==o'
  | .mp i,.mp j=>i==j
  | .yl i,.yl j=>i==j
  | _,_=>false
def TA:Value->Value->Bool
 | .agg a,.agg b=>Ji (λx y=>match x,y with | .v x,.v y=>Pv x y | _,_=>false) (a.toList.map .v) (b.toList.map .v)
 | a,b=>Pv a b
def Sh(n:Nat):List ME->List ME->Bool
 | [],[]=>true
 | a::as,b::bs=>TA a.k b.k&&Nb n a.v b.v&&a.b==b.b&&Sh n as bs
 | _,_=>false
def DE:List Nat->List Nat->Bool
 | [],[]=>true
 | a::as,b::bs=>a==b&&DE as bs
 | _,_=>false
def oG:DObj->DObj->Bool
 | .row T a,.row T' b=>T==T'&&Ji (Nb 6) a b
 | .mapo c a,.mapo d b=>c==d&&Sh 6 a b
 | .miter m c s l,.miter m' c' s' l'=>Nb 2 m m'&&c==c'&&DE s s'&&l==l'
 | _,_=>false
structure Look where
 i:Nat
 an:List Nat
 id:Nat
 own:Bool
 c:Bool
structure Past where
 q:Nat
 an:List Nat
 a:Tr DObj
 b:Tr DObj
def sameAt(a b:Tr DObj)(id:Nat):Bool:=match a.get id,b.get id with
 | some x,some y=>oG x y
 | _,_=>false
def tD(a b:Tr DObj)(id:Nat):Bool:=(a.get id).isSome==(b.get id).isSome
def Oj(n0 m:Nat)(ws:List Look)(ps:List Past):Bool:=ws.all λw=>ps.all λp=>w.an.contains p.q||p.an.contains w.i ||
 (if Nat.blt w.id n0||Nat.ble (n0+m) w.id then (if w.c then sameAt p.a p.b w.id else tD p.a p.b w.id) else w.own && !p.an.contains (w.id-n0))
def Cp(n0 m:Nat)(an:List Nat)(hp:Tr DObj)(id:Nat):Bool:=Fo (Pu (gN hp id)) (Fo (Nat.blt id n0) true (Fo (Nat.ble (n0+m) id) true (an.contains (id-n0)))) false
def refsL(es:ES)(ps:List Pa):List Nat:=List.rec (motive:=λ_=>List Nat) [] (λp _ ih=>Li (Ug (Ac es (.t p))) ih) ps
structure DSt where
 es:ES
 lo:List Nat
 ws:List Look
 ps:List Past
def Y5(n0:Nat)(hp:Tr DObj):List Nat->Tr DObj
 | []=>hp
 | j::js=>Y5 n0 (hp.set (n0+j) none) js
def Td(n0:Nat)(Iy hp:Tr DObj):List Nat->Tr DObj
 | []=>hp
 | j::js=>Td n0 Iy (hp.set (n0+j) (Iy.get (n0+j))) js
abbrev Ka:Type:=Bf->Nat->Nat->DSt->Option DSt
def DSt.cs{α:Type}(d:DSt)(f:ES->List Nat->List Look->List Past->α):α:=DSt.rec (motive:=λ_=>α) f d
def Bt(i:Nat)(an:List Nat)(s:Od):Ka:=λcall n0 _ d=>
 d.cs λes lo ws ps=>es.cs λsl hp nx=>I5 (lo.filter λj=>!an.contains j) λhid=>
 Option.rec (motive:=λ_=>Option DSt) none (λes'=>es'.cs λei Ap Ba=>Fo (Nat.ble nx Ba) (some ⟨⟨ei,Td n0 hp Ap hid,Ba⟩,hid,ws,⟨i,an,hp,Td n0 hp Ap hid⟩::ps⟩) none) (s call ⟨sl,Y5 n0 hp hid,nx⟩)
def Gj(i:Nat)(an:List Nat)(wide c:Bool)(refs:List Nat)(n0:Nat)(lo:List Nat)(ws:List Look):List Look:=Fo wide (Li (fY (λid=>⟨i,an,id,lo.contains (id-n0),c⟩) refs) ws) ws
def Bi(i:Nat)(an:List Nat)(wide c:Bool)(dst:Option Pa)(x:Nat->XP)(ps:List Pa):Ka:=λ_ n0 _ d=>
 d.cs λes lo ws pp=>Option.rec (motive:=λ_=>Option DSt) none (λv=>some ⟨es.putE dst v,lo,Gj i an wide c (refsL es ps) n0 lo ws,pp⟩) (x (n0+i) es)
def Dz(x:XU):Nat->XP:=λnid es=>Option.rec (motive:=λ_=>Option DV) none (λp=>Upd.casesOn (motive:=λ_=>Option DV) p.2 (some p.1) (λ_=>none) (λ_ _=>none) (λ_ _=>none)) (x es nid)
def Ox(i:Nat)(an:List Nat)(wide c:Bool)(dst:Option Pa)(x:XU)(ps:List Pa):Ka:=λ_ n0 _ d=>
 d.cs λes lo ws pp=>es.cs λsl hp nx=>Zu (n0+i) λnid=>Option.rec (motive:=λ_=>Option DSt) none (λp=>Upd.casesOn (motive:=λ_=>Option DSt) p.2 none
  (λo=>some ⟨(ES.mk sl (Kq hp nid (some o)) nx).putE dst p.1,i::lo,Gj i an wide c (refsL es ps) n0 lo ws,pp⟩) (λ_ _=>none) (λ_ _=>none)) (x es nid)
def F9(i:Nat)(an:List Nat)(tgt:Nat)(dst:Option Pa)(x:XU)(ps:List Pa):Ka:=λ_ n0 _ d=>
 d.cs λes lo ws pp=>es.cs λsl hp nx=>Option.rec (motive:=λ_=>Option DSt) none (λp=>Upd.casesOn (motive:=λ_=>Option DSt) p.2 none (λ_=>none)
  (λid o=>Fo (Nat.beq id (n0+tgt)&&lo.contains tgt&&an.contains tgt&&Te (refsL es ps) (λr=>Nat.beq r (n0+tgt))) (some ⟨(ES.mk sl (Kq hp id (some o)) nx).putE dst p.1,lo,ws,pp⟩) none) (λ_ _=>none)) (x es (n0+i))
def Az(an:List Nat)(ps:List Pa)(s:Ka):Ka:=λcall n0 m d=>Fo (Te (refsL d.es ps) λid=>Cp n0 m an d.es.hp id) (s call n0 m d) none
def dX(an:List Nat)(ps:List Pa)(i:Nat)(dst:Option Pa)(x:XP):Ka:=Az an ps (Bi i an false false dst (λ_=>x) ps)
def dY(an:List Nat)(ps:List Pa)(i:Nat)(dst:Option Pa)(x:XP):Ka:=Az an ps (Bi i an false true dst (λ_=>x) ps)
def dP(an:List Nat)(i:Nat)(dst:Option Pa)(p:Pa):Ka:=Az an [p] (Bi i an false false dst (λ_ es=>some (Ac es (.t p))) [p])
def dG(p:Pa)(b:Bool)(dst:Option Pa)(s:Ka):Ka:=λcall n0 m d=>Option.rec (motive:=λ_=>Option DSt) none (λc=>Bool.rec (motive:=λ_=>Option DSt) (d.cs λes lo ws pp=>some ⟨es.putE dst (.v undef),lo,ws,pp⟩) (s call n0 m d) c) (Kk d.es p b)
def dq(s k:Ka):Ka:=λcall n0 m d=>Option.rec (motive:=λ_=>Option DSt) none (λd'=>d'.cs λes lo ws pp=>es.cs λsl hp nx=>k call n0 m ⟨⟨sl,hp,nx⟩,lo,ws,pp⟩) (s call n0 m d)
def W9:Ka:=λ_ _ _ d=>some d
def dL(l:List Ka):Ka:=List.rec (motive:=λ_=>Ka) W9 (λs _ ih=>dq s ih) l
def jD(o:DOp):List Nat:=o.opnds.filterMap λ| .tmp t=>some t | _=>none
def vW(i:Nat)(r:DR)(o:OI):Ka:=
 Az o.an ((jD r.op).map Cn) (match o.cls with
  | 2=>Bt i o.an (Yq (Hg r.dst) r.op)
  | 0=>Bi i o.an o.wide r.op.rdC (Hg r.dst) (match r.op with
   | .mv x=>λ_ es=>some (Ac es (.of x))
   | op=>match Xx op with
    | some x=>λ_=>x
    | none=>Dz (Tn op)) ((jD r.op).map Cn)
  | 1=>Ox i o.an o.wide r.op.rdC (Hg r.dst) (Tn r.op) ((jD r.op).map Cn)
  | _=>F9 i o.an o.tgt (Hg r.dst) (Tn r.op) ((jD r.op).map Cn))
def dQ(i:Nat)(r:DR)(o:OI):Ka:=match r.g with
 | none=>vW i r o
 | some (t,b)=>dG (Cn t) b (Hg r.dst) (vW i r o)
def Pb:List DR->List OI->Nat->Ka
 | r::rs,o::os,i=>dq (dQ i r o) (Pb rs os (i+1))
 | _,_,_=>W9
def Dg(m:Nat)(s:Ka):Od:=λcall es=>Option.rec (motive:=λ_=>Option ES) none (λd=>Fo (Oj es.nx m d.ws d.ps) (some d.es) none) (es.cs λsl hp nx=>Zu (nx+m) λn=>s call nx m ⟨⟨sl,hp,n⟩,[],[],[]⟩)
abbrev CE:Type:=Bf->ES->Option (Exit×ES)
def cN(s:Od):CE:=λcall es=>Option.rec (motive:=λ_=>Option (Exit×ES)) none (λes'=>some (.normal,es')) (s call es)
def cE(e:Exit):CE:=λ_ es=>
 some (e,es)
def cS(a b:CE):CE:=λcall es=>Option.rec (motive:=λ_=>Option (Exit×ES)) none (λp=>Prod.rec (motive:=λ_=>Option (Exit×ES)) (λe es'=>Exit.casesOn (motive:=λ_=>Option (Exit×ES)) e (b call es') (λ_=>some (e,es')) (λ_=>some (e,es')) (some (e,es')) (λ_=>some (e,es')) (some (e,es'))) p) (a call es)
def cT(l:List Od)(c:CE):CE:=cS (cN (sL l)) c
def cC(x:EO)(a b:CE):CE:=λcall es=>cV (Ac es x) (λv=>dZ v (λt=>Bool.rec (motive:=λ_=>Option (Exit×ES)) (b call es) (a call es) t) (λ_ _=>none) (λ_=>none) none) none
def cB(id:Nat)(c:CE):CE:=λcall es=>Option.rec (motive:=λ_=>Option (Exit×ES)) none (λp=>Prod.rec (motive:=λ_=>Option (Exit×ES)) (λe es'=>Exit.casesOn (motive:=λ_=>Option (Exit×ES)) e (some (e,es')) (λi=>Fo (Nat.beq i id) (some (.normal,es')) (some (e,es'))) (λ_=>some (e,es')) (some (e,es')) (λ_=>some (e,es')) (some (e,es'))) p) (c call es)
def cL(n:Nat)(c:CE):CE:=Nat.rec (motive:=λ_=>CE) (λ_ _=>none) (λ_ ih=>cS c ih) n
def cR(nt:Nat)(rd:Bool)(g:EO)(ps:List Nat)(a b:DC):CE:=λcall es=>if rd then none else match (Mz es g).asFn with
 | some (f,cs)=>match call (.fn f) (.yl es.nx::cs) (es.hp.set es.nx (some (.loop ⟨nt,.t es.sl,ps,a,b,.ready,none⟩))) (es.nx+1) with
  | some (_,hp,nx)=>match hp.get es.nx with
   | some (.loop lp)=>match lp.st with
    | .busy=>none
    | _=>match lp.pend with
     | none=>some (.normal,⟨es.sl,hp.set es.nx none,nx⟩)
     | some .ret=>some (.ret,⟨es.sl,hp.set es.nx none,nx⟩)
     | some (.exit i)=>some (.exit i,⟨es.sl,hp.set es.nx none,nx⟩)
     | _=>none
   | _=>none
  | none=>none
 | none=>none
def En(n nt:Nat)(rd:Bool):DC->CE
 | .skip=>cE .normal
 | .ret=>cE .ret
 | .exit id=>cE (.exit id)
 | .seq a b=>cS (En n nt rd a) (En n nt rd b)
 | .cond x a b=>cC (.of x) (En n nt rd a) (En n nt rd b)
 | .blk id c=>cB id (En n nt rd c)
 | .loop c=>cL n (En n nt rd c)
 | .reg draw ops info=>match draw with
  | false=>cN (oI ops)
  | true=>match info.ok with
   | true=>cN (Dg ops.length (Pb ops info.l 0))
   | false=>λ_ _=>none
 | .rng g ps a b=>cR nt rd (.of g) ps a b
 | .dfq t g cap=>match rd with
  | true=>λ_ _=>none
  | false=>cN (Sg (some (Cn t)) (.mkf (.func g) [] cap))
 | .bad=>λ_ _=>none
def Vw(ds:List DV):Tr DV:=List.rec (motive:=λ_=>Nat->Tr DV->Tr DV) (λ_ t=>t) (λd _ ih i t=>ih (i+1) (sP (Cn i) (some d) t)) ds 0 .e
def Lo(ps:List Nat)(ds:List DV):Tr DV->Tr DV:=List.rec (motive:=λ_=>List DV->Tr DV->Tr DV) (λ_ t=>t) (λp _ ih ds t=>List.rec (motive:=λ_=>Tr DV) t (λd fG _=>ih fG (sP (Cn p) (some d) t)) ds) ps ds
structure FE where
 run:CE
 res:List (Nat×Option (Option Nat))
 nt:Nat
def K0(k:Option Nat)(x:EO):XP:=λes=>iU (Ac es x) (λ_=>none) (λid off=>Ub es.hp id (λ_ cs=>Qb k (Jv off cs)) none) none
def Np(es:ES)(q:Nat×Option (Option Nat)):Option DV:=Prod.rec (motive:=λ_=>Option DV) (λt k=>Option.rec (motive:=λ_=>Option DV) (some (Mz es (.t (Cn t)))) (λk=>K0 k (.t (Cn t)) es) k) q
def Uf(ds:Option (List DV)):Option DV:=match ds with
 | some [d]=>some d
 | some ds=>some (.tup ds)
 | none=>none
def Mb(res:List (Nat×Option (Option Nat)))(es:ES):Option (DV×Tr DObj×Nat):=match Uf (res.mapM (Np es)) with
 | some d=>some (d,es.hp,es.nx)
 | none=>none
def Ue(tb:Nat->Option FE)(n:Nat)(call:Bf):Bf:=λtg ds hp nx=>match tg with
  | .fn f=>match tb f with
   | some fe=>if ds.length<=fe.nt then match fe.run (call) ⟨Vw ds,hp,nx⟩ with
     | some (.normal,es)=>Mb fe.res es
     | some (.ret,es)=>Mb fe.res es
     | _=>none
    else none
   | none=>none
  | .yl id=>match hp.get id with
   | some (.loop lp)=>match lp.st,lp.sl with
    | .ready,.t sl=>if ds.length=lp.ps.length/\lp.ps.all (λt=>Nat.blt t lp.nt)=true then
      match En n lp.nt true lp.asg (call) ⟨Lo lp.ps ds sl,hp,nx⟩ with
      | some (.normal,es1)=>match es1.hp.get id with
       | some (.loop So)=>match So.st with
        | .ready=>match En n lp.nt true lp.body (call) { es1 with hp:=es1.hp.set id (some (.loop { So with st:=.busy })) } with
         | some (e,By)=>match By.hp.get id with
          | some (.loop Og)=>match e with
           | .normal=>some (.v (.bool true),By.hp.set id (some (.loop { Og with st:=.ready,pend:=none })),By.nx)
           | .ret=>some (.v (.bool false),By.hp.set id (some (.loop { Og with st:=.done,pend:=some .ret })),By.nx)
           | .exit i=>some (.v (.bool false),By.hp.set id (some (.loop { Og with st:=.done,pend:=some (.exit i) })),By.nx)
           | _=>none
          | _=>none
         | none=>none
        | _=>none
       | _=>none
      | _=>none
     else none
    | _,_=>none
   | _=>none
def kK(tb:Nat->Option FE)(n:Nat):Nat->Bf
 | 0=>λ_ _ _ _=>none
 | k+1=>Ue tb n (kK tb n k)
def N0:Option (DV×Tr DObj×Nat)->Bool
 | some (.v (.bool b),_,_)=>b
 | _=>false
def bs(l:List UInt8):ByteArray:=⟨l.toArray⟩
instance bAq:Coe Bool EO:=⟨λb=>.c (.v (.bool b))⟩
instance bAp:Coe Int EO:=⟨λn=>.c (.v (.int .i64 n))⟩
instance aHt {s:String} [h:CoeDep String s Pa]:CoeDep String s EO:=⟨EO.t h.coe⟩
instance aHs {s:String} [h:CoeDep String s Pa]:CoeDep String s (Option Pa):=⟨some h.coe⟩
instance:CoeDep String "!" Pa:=⟨Pa.o.l.r⟩
instance:CoeDep String "$" Pa:=⟨Pa.o.l.l.r⟩
instance:CoeDep String "%" Pa:=⟨Pa.o.l.r.l⟩
instance:CoeDep String "&" Pa:=⟨Pa.o.r.l.r⟩
instance:CoeDep String "(" Pa:=⟨Pa.o.r.l.l⟩
instance:CoeDep String ")" Pa:=⟨Pa.o.r.r⟩
instance:CoeDep String "*" Pa:=⟨Pa.o.r.r.l⟩
instance:CoeDep String "+" Pa:=⟨Pa.o.l.l.l⟩
instance:CoeDep String "," Pa:=⟨Pa.o.l.r.r⟩
instance:CoeDep String "." Pa:=⟨Pa.o.r.l⟩
instance:CoeDep String "0" Pa:=⟨Pa.o.l.r.r.l⟩
instance:CoeDep String "1" Pa:=⟨Pa.o.r.r.r⟩
instance:CoeDep String "2" Pa:=⟨Pa.o.l.l.r.l⟩
instance:CoeDep String "3" Pa:=⟨Pa.o.l.r.r.r⟩
instance:CoeDep String "4" Pa:=⟨Pa.o.r.l.l.r⟩
instance:CoeDep String "5" Pa:=⟨Pa.o.l.l.l.l⟩
instance:CoeDep String "6" Pa:=⟨Pa.o.l.l.l.r⟩
instance:CoeDep String "7" Pa:=⟨Pa.o.l.l⟩
instance:CoeDep String "8" Pa:=⟨Pa.o.r.l.l.l⟩
instance:CoeDep String "9" Pa:=⟨Pa.o.l.r.l.l⟩
instance:CoeDep String ":" Pa:=⟨Pa.o.r.l.r.r⟩
instance:CoeDep String ";" Pa:=⟨Pa.o.l.l.r.r⟩
instance:CoeDep String "<" Pa:=⟨Pa.o.l.r.l.r⟩
instance:CoeDep String "=" Pa:=⟨Pa.o.r.l.r.l⟩
instance:CoeDep String ">" Pa:=⟨Pa.o.r.r.l.l⟩
instance:CoeDep String "?" Pa:=⟨Pa.o.r.r.l.r⟩
instance:CoeDep String "@" Pa:=⟨Pa.o.r.r.r.l⟩
instance:CoeDep String "A" Pa:=⟨Pa.o.l.l.l.l.l⟩
instance:CoeDep String "B" Pa:=⟨Pa.o.r.r.r.r⟩
instance:CoeDep String "C" Pa:=⟨Pa.o.l.l.l.l.r⟩
instance:CoeDep String "D" Pa:=⟨Pa.o.l.l.l.r.l⟩
instance:CoeDep String "E" Pa:=⟨Pa.o.l.l.l.r.r⟩
instance:CoeDep String "F" Pa:=⟨Pa.o.l.l.r.l.l⟩
instance:CoeDep String "G" Pa:=⟨Pa.o.l.r.l.l.l⟩
instance:CoeDep String "H" Pa:=⟨Pa.o.l.r.l.l.r⟩
instance:CoeDep String "I" Pa:=⟨Pa.o.l.l.r.l.r⟩
instance:CoeDep String "J" Pa:=⟨Pa.o.l.l.r.r.l⟩
instance:CoeDep String "K" Pa:=⟨Pa.o.l.l.r.r.r⟩
instance:CoeDep String "L" Pa:=⟨Pa.o.l.r.r.l.l⟩
instance:CoeDep String "M" Pa:=⟨Pa.o.l.r.l.r.l⟩
instance:CoeDep String "N" Pa:=⟨Pa.o.l.r.l.r.r⟩
instance:CoeDep String "O" Pa:=⟨Pa.o.l.r.r.l.r⟩
instance:CoeDep String "P" Pa:=⟨Pa.o.l.r.r.r.r⟩
instance:CoeDep String "Q" Pa:=⟨Pa.o.l.r.r.r.l⟩
instance:CoeDep String "R" Pa:=⟨Pa.o.r.l.r.r.l⟩
instance:CoeDep String "S" Pa:=⟨Pa.o.r.l.r.r.r⟩
instance:CoeDep String "T" Pa:=⟨Pa.o.r.l.l.l.l⟩
instance:CoeDep String "U" Pa:=⟨Pa.o.r.l.l.r.l⟩
instance:CoeDep String "V" Pa:=⟨Pa.o.r.l.l.l.r⟩
instance:CoeDep String "W" Pa:=⟨Pa.o.r.l.l.r.r⟩
instance:CoeDep String "X" Pa:=⟨Pa.o.r.l.r.l.l⟩
instance:CoeDep String "Y" Pa:=⟨Pa.o.r.r.r.l.l⟩
instance:CoeDep String "Z" Pa:=⟨Pa.o.r.l.r.l.r⟩
instance:CoeDep String "[" Pa:=⟨Pa.o.r.r.l.r.r⟩
instance:CoeDep String "]" Pa:=⟨Pa.o.r.r.r.r.l⟩
instance:CoeDep String "^" Pa:=⟨Pa.o.r.r.l.l.l⟩
instance:CoeDep String "_" Pa:=⟨Pa.o.r.r.r.r.r⟩
instance:CoeDep String "a" Pa:=⟨Pa.o.r.r.l.l.r⟩
instance:CoeDep String "b" Pa:=⟨Pa.o.r.r.l.r.l⟩
instance:CoeDep String "c" Pa:=⟨Pa.o.r.r.r.l.r⟩
instance:CoeDep String "d" Pa:=⟨Pa.o.l.l.l.l.l.r⟩
instance:CoeDep String "e" Pa:=⟨Pa.o.l.l.l.l.l.l⟩
instance:CoeDep String "f" Pa:=⟨Pa.o.l.l.l.l.r.l⟩
instance:CoeDep String "g" Pa:=⟨Pa.o.l.l.l.l.r.r⟩
instance:CoeDep String "h" Pa:=⟨Pa.o.l.r.l.r.l.l⟩
instance:CoeDep String "i" Pa:=⟨Pa.o.l.l.r.l.r.l⟩
instance:CoeDep String "j" Pa:=⟨Pa.o.l.l.l.r.l.l⟩
instance:CoeDep String "k" Pa:=⟨Pa.o.l.l.r.l.l.r⟩
instance:CoeDep String "l" Pa:=⟨Pa.o.l.l.l.r.r.l⟩
instance:CoeDep String "m" Pa:=⟨Pa.o.l.l.l.r.l.r⟩
instance:CoeDep String "n" Pa:=⟨Pa.o.l.l.l.r.r.r⟩
instance:CoeDep String "o" Pa:=⟨Pa.o.l.l.r.l.r.r⟩
instance:CoeDep String "p" Pa:=⟨Pa.o.l.l.r.r.l.r⟩
instance:CoeDep String "q" Pa:=⟨Pa.o.l.r.l.l.r.l⟩
instance:CoeDep String "r" Pa:=⟨Pa.o.l.l.r.l.l.l⟩
instance:CoeDep String "s" Pa:=⟨Pa.o.l.r.r.l.l.l⟩
instance:CoeDep String "t" Pa:=⟨Pa.o.l.l.r.r.r.l⟩
instance:CoeDep String "u" Pa:=⟨Pa.o.l.l.r.r.l.l⟩
instance:CoeDep String "v" Pa:=⟨Pa.o.l.l.r.r.r.r⟩
instance:CoeDep String "w" Pa:=⟨Pa.o.l.r.l.l.l.l⟩
instance:CoeDep String "x" Pa:=⟨Pa.o.l.r.l.l.l.r⟩
instance:CoeDep String "y" Pa:=⟨Pa.o.r.r.r.r.r.r⟩
instance:CoeDep String "z" Pa:=⟨Pa.o.r.l.r.r.l.r⟩
instance:CoeDep String "|" Pa:=⟨Pa.o.l.r.l.r.l.r⟩
instance:CoeDep String "~" Pa:=⟨Pa.o.l.r.l.r.r.l⟩
instance:CoeDep String "aa" Pa:=⟨Pa.o.l.r.l.l.r.r⟩
instance:CoeDep String "ab" Pa:=⟨Pa.o.l.r.r.l.l.r⟩
instance:CoeDep String "ac" Pa:=⟨Pa.o.l.r.r.l.r.l⟩
instance:CoeDep String "ad" Pa:=⟨Pa.o.l.r.l.r.r.r⟩
instance:CoeDep String "ae" Pa:=⟨Pa.o.l.r.r.r.l.r⟩
instance:CoeDep String "af" Pa:=⟨Pa.o.l.r.r.r.r.l⟩
instance:CoeDep String "ag" Pa:=⟨Pa.o.l.r.r.r.l.l⟩
instance:CoeDep String "ah" Pa:=⟨Pa.o.r.l.l.l.r.r⟩
instance:CoeDep String "ai" Pa:=⟨Pa.o.l.r.r.r.r.r⟩
instance:CoeDep String "aj" Pa:=⟨Pa.o.l.r.r.l.r.r⟩
instance:CoeDep String "ak" Pa:=⟨Pa.o.r.l.l.l.l.l⟩
instance:CoeDep String "al" Pa:=⟨Pa.o.r.l.l.l.l.r⟩
instance:CoeDep String "am" Pa:=⟨Pa.o.r.l.l.r.l.l⟩
instance:CoeDep String "an" Pa:=⟨Pa.o.r.l.l.r.l.r⟩
instance:CoeDep String "ao" Pa:=⟨Pa.o.r.l.l.l.r.l⟩
instance:CoeDep String "ap" Pa:=⟨Pa.o.r.l.l.r.r.r⟩
instance:CoeDep String "aq" Pa:=⟨Pa.o.r.l.r.l.l.l⟩
instance:CoeDep String "ar" Pa:=⟨Pa.o.r.l.l.r.r.l⟩
instance:CoeDep String "as" Pa:=⟨Pa.o.r.l.r.l.l.r⟩
instance:CoeDep String "at" Pa:=⟨Pa.o.r.l.r.l.r.l⟩
instance:CoeDep String "au" Pa:=⟨Pa.o.r.r.l.l.l.l⟩
instance:CoeDep String "av" Pa:=⟨Pa.o.r.l.r.r.r.l⟩
instance:CoeDep String "aw" Pa:=⟨Pa.o.r.r.l.r.l.r⟩
instance:CoeDep String "ax" Pa:=⟨Pa.o.r.r.l.r.r.l⟩
instance:CoeDep String "ay" Pa:=⟨Pa.o.l.l.l.l.l.l.l⟩
instance:CoeDep String "az" Pa:=⟨Pa.o.l.l.l.l.l.l.r⟩
instance:CoeDep String "aA" Pa:=⟨Pa.o.l.l.l.l.l.r.l⟩
instance:CoeDep String "aB" Pa:=⟨Pa.o.l.l.l.r.l.r.l⟩
instance:CoeDep String "aC" Pa:=⟨Pa.o.r.l.r.l.r.r⟩
instance:CoeDep String "aD" Pa:=⟨Pa.o.r.l.r.r.r.r⟩
instance:CoeDep String "aE" Pa:=⟨Pa.o.r.r.l.l.r.l⟩
instance:CoeDep String "aF" Pa:=⟨Pa.o.r.r.l.l.r.r⟩
instance:CoeDep String "aG" Pa:=⟨Pa.o.r.r.l.r.l.l⟩
instance:CoeDep String "aH" Pa:=⟨Pa.o.r.r.l.r.r.r⟩
instance:CoeDep String "aI" Pa:=⟨Pa.o.r.r.r.l.l.l⟩
instance:CoeDep String "aJ" Pa:=⟨Pa.o.r.r.r.r.r.l⟩
instance:CoeDep String "aK" Pa:=⟨Pa.o.l.l.l.l.l.r.r⟩
instance:CoeDep String "aL" Pa:=⟨Pa.o.l.l.l.l.r.r.l⟩
instance:CoeDep String "aM" Pa:=⟨Pa.o.l.l.l.r.l.l.l⟩
instance:CoeDep String "aN" Pa:=⟨Pa.o.l.l.l.r.l.r.r⟩
instance:CoeDep String "aO" Pa:=⟨Pa.o.r.r.r.r.l.l⟩
instance:CoeDep String "aP" Pa:=⟨Pa.o.r.r.l.l.l.r⟩
instance:CoeDep String "aQ" Pa:=⟨Pa.o.r.l.r.r.l.l⟩
instance:CoeDep String "aR" Pa:=⟨Pa.o.l.l.l.l.r.l.l⟩
instance:CoeDep String "aS" Pa:=⟨Pa.o.l.l.l.l.r.l.r⟩
instance:CoeDep String "aT" Pa:=⟨Pa.o.l.l.l.l.r.r.r⟩
instance:CoeDep String "aU" Pa:=⟨Pa.o.l.l.l.r.l.l.r⟩
instance:CoeDep String "aV" Pa:=⟨Pa.o.r.r.r.l.l.r⟩
instance:CoeDep String "aW" Pa:=⟨Pa.o.r.r.r.l.r.l⟩
instance:CoeDep String "aX" Pa:=⟨Pa.o.r.r.r.l.r.r⟩
instance:CoeDep String "aY" Pa:=⟨Pa.o.r.r.r.r.l.r⟩
instance:CoeDep String "aZ" Pa:=⟨Pa.o.l.l.l.r.r.l.l⟩
instance:CoeDep String "a0" Pa:=⟨Pa.o.l.l.r.r.r.r.r⟩
instance:CoeDep String "a1" Pa:=⟨Pa.o.l.r.l.l.r.l.l⟩
instance:CoeDep String "a2" Pa:=⟨Pa.o.l.l.l.r.r.l.r⟩
instance:CoeDep String "a3" Pa:=⟨Pa.o.l.l.l.r.r.r.l⟩
instance:CoeDep String "a4" Pa:=⟨Pa.o.l.l.r.l.l.r.r⟩
instance:CoeDep String "a5" Pa:=⟨Pa.o.l.l.r.l.r.l.l⟩
instance:CoeDep String "a6" Pa:=⟨Pa.o.l.l.r.l.r.r.r⟩
instance:CoeDep String "a7" Pa:=⟨Pa.o.l.r.l.l.r.l.r⟩
instance:CoeDep String "a8" Pa:=⟨Pa.o.l.r.l.l.r.r.l⟩
instance:CoeDep String "a9" Pa:=⟨Pa.o.l.r.l.l.r.r.r⟩
instance:CoeDep String "ba" Pa:=⟨Pa.o.l.r.l.r.l.l.r⟩
instance:CoeDep String "bb" Pa:=⟨Pa.o.l.r.l.r.l.r.l⟩
instance:CoeDep String "bc" Pa:=⟨Pa.o.l.l.l.r.r.r.r⟩
instance:CoeDep String "bd" Pa:=⟨Pa.o.l.l.r.l.l.l.l⟩
instance:CoeDep String "be" Pa:=⟨Pa.o.l.l.r.l.l.l.r⟩
instance:CoeDep String "bf" Pa:=⟨Pa.o.l.l.r.l.l.r.l⟩
instance:CoeDep String "bg" Pa:=⟨Pa.o.l.l.r.r.l.l.l⟩
instance:CoeDep String "bh" Pa:=⟨Pa.o.l.l.r.r.l.l.r⟩
instance:CoeDep String "bi" Pa:=⟨Pa.o.l.l.r.r.l.r.r⟩
instance:CoeDep String "bj" Pa:=⟨Pa.o.l.l.r.r.r.l.l⟩
instance:CoeDep String "bk" Pa:=⟨Pa.o.l.r.l.l.l.l.l⟩
instance:CoeDep String "bl" Pa:=⟨Pa.o.l.r.l.l.l.l.r⟩
instance:CoeDep String "bm" Pa:=⟨Pa.o.l.r.l.l.l.r.l⟩
instance:CoeDep String "bn" Pa:=⟨Pa.o.l.r.l.r.l.l.l⟩
instance:CoeDep String "bo" Pa:=⟨Pa.o.l.r.l.r.l.r.r⟩
instance:CoeDep String "bp" Pa:=⟨Pa.o.l.l.r.l.r.l.r⟩
instance:CoeDep String "bq" Pa:=⟨Pa.o.l.l.r.l.r.r.l⟩
instance:CoeDep String "br" Pa:=⟨Pa.o.l.l.r.r.l.r.l⟩
instance:CoeDep String "bs" Pa:=⟨Pa.o.l.l.r.r.r.l.r⟩
instance:CoeDep String "bt" Pa:=⟨Pa.o.l.l.r.r.r.r.l⟩
instance:CoeDep String "bu" Pa:=⟨Pa.o.l.r.l.l.l.r.r⟩
instance:CoeDep String "bv" Pa:=⟨Pa.o.l.r.l.r.r.l.l⟩
instance:CoeDep String "bw" Pa:=⟨Pa.o.l.r.l.r.r.l.r⟩
instance:CoeDep String "bx" Pa:=⟨Pa.o.l.r.l.r.r.r.l⟩
instance:CoeDep String "by" Pa:=⟨Pa.o.l.r.l.r.r.r.r⟩
instance:CoeDep String "bz" Pa:=⟨Pa.o.l.r.r.l.l.l.l⟩
instance:CoeDep String "bA" Pa:=⟨Pa.o.l.r.r.l.l.l.r⟩
instance:CoeDep String "bB" Pa:=⟨Pa.o.l.r.r.l.r.r.l⟩
instance:CoeDep String "bC" Pa:=⟨Pa.o.r.l.l.l.r.l.l⟩
instance:CoeDep String "bD" Pa:=⟨Pa.o.r.l.r.l.l.r.l⟩
end Go.DD
