/- A part. -/
import Derived.Test.YtnphfnhhpcelbaaGreatYc
noncomputable section
namespace Go.DD
open Go.RowKit (Below)
def DS.wanted(s:DS):Option (Nat×Bool)->Option Bool
 | none=>some true
 | some (t,b)=>match s.sv t with
  | .v (.bool c)=>some (c==b)
  | .v (.tuple _)=>some false
  | _=>none
def Nd(P:Program)(r:DR)(s:DS)(K:DS->Prop):Prop:=
 match r.op with
 | .call f args=>Uc P f=true/\dI P f (args.map s.rv) s λs' d=>K (s'.put r.dst d)
 | .cv tb x args=>match (s.ev x).tgt tb with
  | some (f,fr,cs)=>Uc P f=true/\dI P f (fr++args.map s.rv++cs) s λs' d=>K (s'.put r.dst d)
  | none=>match (s.ev x).tgY tb with
   | some i=>PZ P i (args.map s.rv) s λs' d=>K (s'.put r.dst d)
   | none=>False
 | .nxm k x=>match Vw s k x with
  | some l=>∀ p∈l,K ((s.upd s.nx p.2).put r.dst p.1)
  | none=>False
 | op=>match exec s op with
  | some (d,s')=>K (s'.put r.dst d)
  | none=>match To s.nx s op with
   | some l=>∀ p∈l,K (({ s.upd s.nx p.2 with nx:=s.nx+1 } : DS).put r.dst p.1)
   | none=>False
def bK(P:Program):List DR->DS->(DS->Prop)->Prop
 | [],s,K=>K s
 | r::rest,s,K=>match s.wanted r.g with
  | some true=>Nd P r s λs'=>bK P rest s' K
  | some false=>bK P rest (s.put r.dst (.v undef)) K
  | none=>False
theorem At5{P:Program}{c:Call} : dS P (.defer c)=none:=rfl
theorem AK{P:Program}{f:FuncId}(h:Uc P f=true)(vs:Array Value)(w:World):(callFunc f vs).run P w=.ok (.enter f vs) w:=by
 unfold Uc at h
 split at h
 .rename_i fn hf
  simp only [Bo,bne_iff_ne,ne_eq] at h
  obtain ⟨h1,h2⟩:=h
  have h5:¬ fn.body=none:=by intro hb;rw [hb] at h1;cases h1
  simp [callFunc,hf,h2,h5]
 .cases h
theorem xz{dr:Bool}{C:Ctx}{U:Nat->Prop}{s:DS}{β:Nat->Option Nat}{a:Act}{w:World}{ops:Array Oper}{o:Oper}{r:DR}{b:Bool}(hs:HoldsB C U s β a w)(hr:Oq C.P C.nt dr ops o=some r)(hw:s.wanted r.g=some b) :
  Region.wanted o (yielded ops a.tmps)=b:=by
 unfold Oq at hr
 split at hr
 rotate_left
 .cases hr
 split at hr
 rotate_left
 .cases hr
 rename_i hg
 cases hr
 split at hg
 .rename_i zR
  cases hg
  simp [DS.wanted] at hw
  simp [Region.wanted,zR,<- hw]
 .rename_i j want zR
  obtain ⟨t,ht,hg⟩:=Ac.1 hg
  cases hg
  simp only [DS.wanted] at hw
  have h0:=hs.sl t
  split at hw
  .rename_i c hc
   cases hw
   rw [hc] at h0
   have h2:=Eb (h0.2.1 (λid hi=>by simp [DV.refs] at hi))
   have h3:a.tmps[t]?=some (.bool c):=by
    cases hq:a.tmps[t]? with
    | none=>simp [hq,undef] at h2
    | some u=>simp [hq] at h2;rw [h2]
   simp [Region.wanted,zR,yielded,ht,h3]
  .rename_i vs hc
   cases hw
   rw [hc] at h0
   have h2:=Eb (h0.2.1 (λid hi=>by simp [DV.refs] at hi))
   have h3:∀ c,a.tmps[t]?≠some (.bool c):=by
    intro c hq
    simp [hq] at h2
   have h4:yielded ops a.tmps j=none:=by
    simp only [yielded,ht,Oy]
   simp [Region.wanted,zR,h4]
  .cases hw
theorem zn{P:Program}{nt:Nat}{dr:Bool}{ops:Array Oper}{o:Oper}{r:DR}(h:Oq P nt dr ops o=some r):r.dst=o.dst/\(∀ t,r.dst=some t->t<nt)/\r.op=(dS P o.op).getD .bad:=by
 unfold Oq at h
 split at h
 .rename_i hd
  split at h
  .cases h
   refine ⟨rfl,λt ht=>?_,rfl⟩
   simp only at ht
   rw [ht] at hd
   simpa [B4] using hd
  .cases h
 .cases h
theorem Ax4{P:Program}{op:Op}{f:FuncId}{args:List Operand}(h:dS P op=some (.call f args)):∃ c,op=.call c/\c.callee=.value (.func f)/\args=c.args.toList:=by
 unfold dS at h
 split at h
 case h_22 c=>
  split at h
  .rename_i f' hc;cases h;exact ⟨c,rfl,hc,rfl⟩
  .cases h
  all_goals (exfalso;(repeat' split at h) <;> first | (cases h;done) | (simp [Ay] at h;done) | (obtain ⟨z,_,h⟩:=Ay.1 h;split at h <;> cases h))
 all_goals (exfalso;(repeat' split at h) <;> first | (cases h;done) | (simp [Ay] at h;done) | (obtain ⟨z,_,h⟩:=Ay.1 h;split at h <;> cases h))
theorem A89{P:Program}{op:Op}{tb:Option (List (TypeId×FuncId))}{f:Operand}{args:List Operand}(h:dS P op=some (.cv tb f args)):∃ c,op=.call c/\args=c.args.toList/\((tb=none/\c.callee=.value f)\/∃ name,tb=some (nA P name)/\c.callee=.invoke f name):=by
 unfold dS at h
 split at h
 case h_22 c=>
  split at h
  .cases h
  .rename_i f' _ hc;cases h;exact ⟨c,rfl,rfl,.inl ⟨rfl,hc⟩⟩
  .rename_i x name hc;cases h;exact ⟨c,rfl,rfl,.inr ⟨name,rfl,hc⟩⟩
  all_goals (exfalso;(repeat' split at h) <;> first | (cases h;done) | (simp [Ay] at h;done) | (obtain ⟨z,_,h⟩:=Ay.1 h;split at h <;> cases h))
 all_goals (exfalso;(repeat' split at h) <;> first | (cases h;done) | (simp [Ay] at h;done) | (obtain ⟨z,_,h⟩:=Ay.1 h;split at h <;> cases h))
theorem Bp2{P:Program}{op:Op}{k:Bool}{x:Operand}(h:dS P op=some (.nxm k x)):op=if k then .entry x else .next x false:=by
 unfold dS at h
 split at h
 case h_28 y isS=>
  split at h
  .rename_i hS;subst hS;cases h;rfl
  .cases h
 case h_29 y=>cases h;rfl
 all_goals (exfalso;(repeat' split at h) <;> first | (cases h;done) | (simp [Ay] at h;done) | (obtain ⟨z,_,h⟩:=Ay.1 h;split at h <;> cases h))
theorem Bp3{P:Program}{op:Op}{T:TypeId}{es b:Nat}{x y:Operand}(h:dS P op=some (.app T es b x y)):∃ c t z,op=.call c/\c.callee=.builtin .append/\c.args.toList=[x,y]/\c.argTypes.toList=[t,t]/\P.underlying t=some (.slice T)/\Lz P T=some z/\Nh P T=false/\z.length=P.cellsOf T/\es=P.cellsOf T/\b=P.bytesOf T:=by
 unfold dS at h
 split at h
 case h_22 c=>
  split at h
  case h_5 Hn=>
   split at h
   .rename_i x' y' t t' Du eB
    split at h
    .rename_i L7
     subst L7
     split at h
     .rename_i e ht
      obtain ⟨z,hz,h⟩:=Ay.1 h
      split at h
      .rename_i Rb
       cases h
       exact ⟨c,t,z,rfl,Hn,Du,eB,ht,hz,Rb.1,Rb.2,rfl,rfl⟩
      .cases h
     .cases h
    .split at h
     .obtain ⟨z,hz,h⟩:=Ay.1 h
      split at h <;> cases h
     .cases h
   .cases h
  all_goals (exfalso;(repeat' split at h) <;> first | (cases h;done) | (simp [Ay] at h;done) | (obtain ⟨z,_,h⟩:=Ay.1 h;split at h <;> cases h))
 all_goals (exfalso;(repeat' split at h) <;> first | (cases h;done) | (simp [Ay] at h;done) | (obtain ⟨z,_,h⟩:=Ay.1 h;split at h <;> cases h))
theorem Bp4{P:Program}{w:World}{name:String}{T:TypeId}{f:FuncId}(h:sW P name T=some f)(v:Value)(k:Nat):(method (k+1) T v name).run P w=.ok (f,v) w:=by
 unfold sW at h
 split at h
 .rename_i e hu
  split at h
  .rename_i i hi
   split at h
   .rename_i m hm
    split at h
    .rename_i hp
     split at h
     .rename_i f' hf
      cases h
      have JL:m.path.toList=[]:=by
       have:=hp
       simp at this
       rw [this]
      unfold method
      simp only [Sem.run_bind,typeInfo,run_program,hi,Sem.run_pure,Result.andThen_ok,hm,JL,follow,hf,receiverAt,run_underlying hu,Place.get]
     .cases h
    .cases h
   .cases h
  .cases h
 .cases h
theorem Cd8:∀ {l:List (TypeId×FuncId)} {T:TypeId} {f:FuncId},U8 l T=some f->(T,f)∈l
 | [],_,_,h=>by cases h
 | p::l,T,f,h=>by
  simp only [U8] at h
  split at h
  .rename_i e;cases h;subst e;simp
  .exact Bh _ (Cd8 h)
theorem Cn8{P:Program}{name:String}{T:TypeId}{f:FuncId}(h:U8 (nA P name) T=some f):sW P name T=some f:=by
 have:=Cd8 h
 unfold nA at this
 obtain ⟨T',_,hT⟩:=Gq.1 this
 obtain ⟨f',hf,e⟩:=Ac.1 hT
 cases e;exact hf
theorem Ao8{P:Program}{w:World}{name:String}{T:TypeId}{f:FuncId}(h:U8 (nA P name) T=some f)(hc:Uc P f=true)(v:Value)(args:Array Value):(callMethod (.iface T v) name args).run P w=.ok (.enter f (#[v]++args)) w:=by
 have hm:=Bp4 (w:=w) (Cn8 h) v (P.types.size+99)
 have hd:P.types.size+Made.depth=P.types.size+99+1:=rfl
 unfold callMethod
 simp only [Sem.run_bind,run_program,Result.andThen_ok,hd,hm]
 exact AK hc _ _
theorem zm{a:Act}(args:Array Operand):args.map a.eval=(args.toList.map a.eval).toArray:=by apply Dj;simp
structure HoldsS (C:Ctx) (s:DS) (β:Nat->Option Nat) (a:Act) (w:World):Prop where
 b:HoldsB C (Us C s.nx) s β a w
 r:∀ id,C.R id->id<s.nx
theorem Holds.of{C:Ctx}{s:DS}{β:Nat->Option Nat}{a:Act}{w:World}(h:HoldsS C s β a w):Holds C s a w:=⟨h.r,β,h.b⟩
theorem HoldsS.exec{C:Ctx}{s s':DS}{β:Nat->Option Nat}{a:Act}{w:World}{o:Oper}{d:DV}{op:DOp}(hs:HoldsS C s β a w)
  (hc:dS C.P o.op=some op) (he:exec s op=some (d,s')):∃ nx w' β' x,(execOp a.eval o).run C.P w=.ok nx w'/\(nx=.value x\/(nx=.skip/\x=undef))/\HoldsS C s' β' a w'/\WV C (Us C s'.nx) (s'.vw C) β' w' x d:=by
 unfold Go.DD.exec at he
 split at he
 rotate_left
 .cases he
 rename_i d' u hu
 cases he
 obtain ⟨nx,w',β',x,h1,h2,h3,h4⟩:=zp hs.b (λh=>by have:=h.1;omega) hc hu
 have cP:∀ id,Ux (Us C s.nx) s.nx u id->Us C (if u.new=true then s.nx+1 else s.nx) id:=λid hi=>by
  have key:Un (Us C s.nx) s.nx id->Us C (s.nx+1) id:=λh=>by
   rcases h with h | rfl
   .exact ⟨by have:=h.1;omega,h.2⟩
   .exact ⟨by omega,λhr=>by have:=hs.r _ hr;omega⟩
  cases u <;> simp only [Upd.new,Hv,Kp,Gl,Ux] at hi ⊢ <;> first | exact hi | exact key hi
 refine ⟨nx,w',β',x,h1,h2,⟨?_,λid hr=>?_⟩,h4.grow cP⟩
 .obtain ⟨g1,g2,g3,g4,g5,g6⟩:=h3.grow cP
  exact ⟨g1,g2,g3,g4,g5,g6⟩
 .have:=hs.r id hr
  simp only
  split <;> omega
theorem Bt6{nid:Nat}{s:DS}{op:DOp}{l:List (DV×Upd)}(h:To nid s op=some l):(∃ T es b x y,op=.app T es b x y)/\∀ p∈l,∃ i o,p.2=.mv (some i) o/\(s.ho i).isSome=true:=by
 unfold To at h
 split at h
 rotate_left
 .cases h
 rename_i T es b x y
 refine ⟨⟨T,es,b,x,y,rfl⟩,?_⟩
 split at h
 rotate_left
 .cases h
 rename_i id _ _ _ _ _ _ _
 split at h
 rotate_left
 .cases h
 rename_i If
 split at h
 rotate_left
 .cases h
 cases h
 intro p hp
 rcases Ap.1 hp with rfl | hp
 .exact ⟨_,_,rfl,by rw [If];rfl⟩
 .rw [Aj] at hp
  subst hp
  exact ⟨_,_,rfl,by rw [If];rfl⟩
theorem HoldsS.alt{C:Ctx}{s:DS}{β:Nat->Option Nat}{a:Act}{w:World}{o:Oper}{op:DOp}{l:List (DV×Upd)}(hs:HoldsS C s β a w)
  (hc:dS C.P o.op=some op) (he:To s.nx s op=some l):∃ p∈l,∃ nx w' β' x,(execOp a.eval o).run C.P w=.ok nx w'/\(nx=.value x\/(nx=.skip/\x=undef))/\
   HoldsS C { s.upd s.nx p.2 with nx:=s.nx+1 } β' a w'/\WV C (Us C (s.nx+1)) (({ s.upd s.nx p.2 with nx:=s.nx+1 } : DS).vw C) β' w' x p.1:=by
 obtain ⟨⟨T,es,b,x,y,rfl⟩,iB⟩:=Bt6 he
 obtain ⟨c,t,z,ho,Hn,Du,eB,ht,hz,hZ,Rb,rfl,rfl⟩:=Bp3 hc
 obtain ⟨p,hp,nx,w',β',v,h1,h2,h3,h4⟩:=Cx5 hZ ho Hn Du eB ht hz Rb rfl rfl hs.b (λh=>by have:=h.1;omega) he
 have cP:∀ id,Un (Us C s.nx) s.nx id->Us C (s.nx+1) id:=λid h=>by
  rcases h with h | rfl
  .exact ⟨by have:=h.1;omega,h.2⟩
  .exact ⟨by omega,λhr=>by have:=hs.r _ hr;omega⟩
 refine ⟨p,hp,nx,w',β',v,h1,h2,⟨?_,λid hr=>?_⟩,h4.grow cP⟩
 .obtain ⟨g1,g2,g3,g4,g5,g6⟩:=h3.grow cP
  exact ⟨g1,g2,g3,g4,g5,g6⟩
 .have:=hs.r id hr
  simp only
  omega
theorem B65{dr:Bool}{C:Ctx}{s:DS}{β:Nat->Option Nat}{a:Act}{w:World}{ops:Array Oper}{o:Oper}{r:DR}{K:DS->Prop}{next:Act->World->Prop}{Q:Exit->Act->World->Prop}(hs:HoldsS C s β a w)(hr:Oq C.P C.nt dr ops o=some r)
  (hk:Nd C.P r s K) (Qn:∀ s' β' a' w',HoldsS C s' β' a' w'->K s'->next a' w'):o.wpIn C.F 0 C.P a w next Q:=by
 obtain ⟨hd,oU,Mv⟩:=zn hr
 have Um:∀ c,o.op≠.defer c:=λc hc=>by
  rw [hc,At5] at Mv
  simp [Nd,Mv,exec,Ba,To] at hk
 have Re:∀ (s':DS) (β':Nat->Option Nat) (w':World) (x:Value) (d:DV),HoldsS C s' β' a w'->WV C (Us C s'.nx) (s'.vw C) β' w' x d->K (s'.put r.dst d)->next (a.put o.dst x) w':=λs' β' w' x d h1 h2 h3=>by
  rw [<- hd]
  exact Qn _ β' _ w' ⟨by rw [DS.nx_put];exact h1.b.put r.dst oU h2,by rw [DS.nx_put];exact h1.r⟩ h3
 have fQ:∀ f (vs:List Value) (ds:List DV),vs.length=ds.length->(∀ (j:Nat) (v:Value) (d:DV),vs[j]?=some v->ds[j]?=some d->WV C (Us C s.nx) (s.vw C) β w v d)->Uc C.P f=true->
   dI C.P f ds s (λs' d=>K (s'.put r.dst d))->(execOp a.eval o).run C.P w=.ok (.enter f vs.toArray) w->o.wpIn C.F 0 C.P a w next Q:=by
  intro f vs ds hl Cl Uq fP Fm
  refine ⟨λ_ _=>trivial,?_⟩
  rw [Oper.semAt_plain _ _ _ Um,Fm,Oper.uponIn_enter]
  refine ⟨λh=>by simp [Ctx.F,Fence.wide] at h,zo ((Cn7 hs.b hs.r hl Cl fP).mono ?_)⟩
  rintro e w' ⟨v,d,s',β',rfl,hK,lP,hh,Rs⟩
  exact Re s' β' w' v d ⟨hh,lP⟩ Rs hK
 have Du:∀ (args:List Operand) (j:Nat) (v:Value) (d:DV),(args.map a.eval)[j]?=some v->(args.map s.rv)[j]?=some d->WV C (Us C s.nx) (s.vw C) β w v d:=by
  intro args j v d hv hd
  simp only [Dr,Ac] at hv hd
  obtain ⟨x,hx,rfl⟩:=hv
  obtain ⟨y,hy,rfl⟩:=hd
  rw [hx] at hy;cases hy
  exact hs.b.rvw x
 cases hc:dS C.P o.op with
 | none=>rw [hc] at Mv;simp [Nd,Mv,exec,Ba,To] at hk
 | some op=>
  rw [hc] at Mv
  simp only [Hq] at Mv
  unfold Nd at hk
  rw [Mv] at hk
  split at hk
  .rename_i f args
   obtain ⟨c,ho,Hn,rfl⟩:=Ax4 hc
   refine fQ f (c.args.toList.map a.eval) (c.args.toList.map s.rv) (by simp) (Du _) hk.1 hk.2 ?_
   simp [execOp,ho,resolve,Hn,Deferred.ofValue,Act.eval,invoke,AK hk.1,zm]
  .rename_i tb x args
   obtain ⟨c,ho,rfl,Hn⟩:=A89 hc
   split at hk
   .rename_i f fr cs L6
    rcases Hn with ⟨rfl,Hn⟩ | ⟨name,rfl,Hn⟩
    .have hx:=A08 L6
     simp only at hx
     have h1:=hs.b.ev x
     rw [hx] at h1
     obtain ⟨us,vs,e1,Zf,lI,Zd,nX⟩:=wk h1
     refine fQ _ (us++c.args.toList.map a.eval++vs) (fr++c.args.toList.map s.rv++cs) (by simp [Zf,lI]) (TY (by simp [Zf]) (TY Zf (λj v d hv hd=>?_) (Du _)) λj v d hv hd=>?_) hk.1 hk.2 ?_
     .exact hs.b.evp x (Zd _ v d hv hd) λid hi=>by rw [hx,DV.refs,DV.refsL,DV.refs];exact Cj _ (DV.refsL_mem (Aw hd) hi)
     .exact hs.b.evp x (nX _ v d hv hd) λid hi=>by rw [hx,DV.refs,DV.refsL];exact Ce _ (DV.refsL_mem (Aw hd) hi)
     .have h3:(us.toArray++(c.args.map a.eval++vs.toArray):Array Value)=(us++(c.args.toList.map a.eval++vs)).toArray:=by apply Dj;simp
      simp [execOp,ho,resolve,Hn,e1,Deferred.ofValue,invoke]
      rw [h3]
      exact AK hk.1 _ _
    .simp only [DV.tgt] at L6
     split at L6
     .rename_i T e hx
      obtain ⟨f',Ta,II⟩:=Ac.1 L6
      cases II
      have h1:=hs.b.ev x
      rw [hx] at h1
      obtain ⟨u,e1,Cl⟩:=E7 h1
      refine fQ _ ([u]++c.args.toList.map a.eval) ([e]++c.args.toList.map s.rv ++ []) (by simp) (λj v d hv hd=>?_) hk.1 hk.2 ?_
      .rw [Da] at hd
       cases j with
       | zero=>
        simp at hv hd
        subst hv hd
        exact hs.b.evp x Cl λid hi=>by rw [hx,DV.refs];exact hi
       | succ j=>exact Du c.args.toList j v d hv hd
      .have h3:=Ao8 (w:=w) Ta hk.1 u (c.args.map a.eval)
       have h4:(#[u]++c.args.map a.eval:Array Value)=([u]++c.args.toList.map a.eval).toArray:=by apply Dj;simp
       rw [h4] at h3
       have h5:Array.extract (#[a.eval x]++c.args.map a.eval) 1 (#[a.eval x]++c.args.map a.eval).size=c.args.map a.eval:=by
        apply Dj
        simp [Ss]
        exact Bq (by simp)
       have h6:(#[a.eval x]++c.args.map a.eval:Array Value)[0]?=some (.iface T u):=by rw [e1];first | rfl | simp [Yc]
       simp only [execOp,ho,resolve,Hn,Sem.run_bind,Sem.run_pure,Result.andThen_ok,invoke,h6,h5,h3]
     .cases L6
   .split at hk
    .rename_i i hi
     have V3:=(Bg5 hi).2
     obtain ⟨rfl,_⟩:=Bg5 hi
     rcases Hn with ⟨_,Hn⟩ | ⟨name,h,_⟩
     rotate_left
     .cases h
     have h1:=hs.b.ev x
     rw [V3] at h1
     obtain ⟨b,e1,hb⟩:=TX h1
     obtain ⟨fn,tmps,assign,body,hy,M3⟩:=B64 (vs:=c.args.toList.map a.eval) (ds:=c.args.toList.map s.rv) hs.b hs.r hb (by simp) (Du _) hk
     refine ⟨λ_ _=>trivial,?_⟩
     have Fm:(execOp a.eval o).run C.P w=.ok (.round b fn tmps assign body) w:=by
      rw [<- hy]
      simp [execOp,ho,resolve,Hn,e1,Deferred.ofValue,invoke,zm]
     rw [Oper.semAt_plain _ _ _ Um,Fm,Oper.uponIn_round]
     refine ⟨λh=>by simp [Ctx.F,Fence.wide] at h,M3.mono ?_⟩
     rintro e w' ⟨v,d,s',β',rfl,hK,lP,hh,Rs⟩
     exact Re s' β' w' v d ⟨hh,lP⟩ Rs hK
    .exact hk.elim
  .rename_i k x
   have ho:=Bp2 hc
   split at hk
   .rename_i l hl
    obtain ⟨p,hp,nx,w',β',y,h1,h2,h3,h4⟩:=Cy4 (nid:=s.nx) ho hs.b hl
    refine ⟨λ_ _=>trivial,?_⟩
    rw [Oper.semAt_plain _ _ _ Um,h1]
    have h5:HoldsS C (s.upd s.nx p.2) β' a w':=⟨h3,hs.r⟩
    rcases h2 with rfl | ⟨rfl,rfl⟩
    .exact Re _ β' w' y p.1 h5 h4 (hk p hp)
    .exact Re _ β' w' undef p.1 h5 h4 (hk p hp)
   .exact hk.elim
  .rename_i aTl aTk aTj
   split at hk
   .rename_i d s' he
    obtain ⟨nx,w',β',x,h1,h2,h3,h4⟩:=hs.exec hc he
    refine ⟨λ_ _=>trivial,?_⟩
    rw [Oper.semAt_plain _ _ _ Um,h1]
    rcases h2 with rfl | ⟨rfl,rfl⟩
    .exact Re s' β' w' x d h3 h4 hk
    .exact Re s' β' w' undef d h3 h4 hk
   .split at hk
    .rename_i l hl
     obtain ⟨p,hp,nx,w',β',y,h1,h2,h3,h4⟩:=hs.alt hc hl
     refine ⟨λ_ _=>trivial,?_⟩
     rw [Oper.semAt_plain _ _ _ Um,h1]
     rcases h2 with rfl | ⟨rfl,rfl⟩
     .exact Re _ β' w' y p.1 h3 h4 (hk p hp)
     .exact Re _ β' w' undef p.1 h3 h4 (hk p hp)
    .exact hk.elim
theorem xy{dr:Bool}{C:Ctx}{ops:Array Oper}{K:DS->Prop}{Q:Exit->Act->World->Prop}(hQ:∀ s β a w,HoldsS C s β a w->K s->Q .normal a w) :
  ∀ (l:List DR) (i:Nat) (s:DS) (β:Nat->Option Nat) (a:Act) (w:World),(∀ (j:Nat) (r:DR),l[j]?=some r->∃ o,ops[i+j]?=some o/\Oq C.P C.nt dr ops o=some r)->
   HoldsS C s β a w->bK C.P l s K->wpOpsIn C.F 0 C.P ops Q (List.range' i l.length) a w
 | [],i,s,β,a,w,_,hs,hk=>by simp only [Mh,List.range'_zero,wpOpsIn];exact hQ s β a w hs hk
 | r::rest,i,s,β,a,w,hl,hs,hk=>by
  obtain ⟨o,ho,hr⟩:=hl 0 r rfl
  simp only [Lb] at ho
  have Zc:∀ (j:Nat) (r':DR),rest[j]?=some r'->∃ o,ops[i+1+j]?=some o/\Oq C.P C.nt dr ops o=some r':=λj r' hj=>by
   have:=hl (j+1) r' (by simpa using hj)
   rwa [show i+(j+1)=i+1+j by omega] at this
  obtain ⟨hd,oU,_⟩:=zn hr
  simp only [bK] at hk
  simp only [Ec,List.range'_succ,wpOpsIn,ho]
  split at hk
  .rename_i hw
   rw [Af (xz hs.b hr hw)]
   exact B65 hs hr hk (λs' β' a' w' h1 h2=>xy hQ rest (i+1) s' β' a' w' Zc h1 h2)
  .rename_i hw
   rw [xz hs.b hr hw]
   simp only [Hv,Kp]
   refine ⟨λ_ _=>trivial,xy hQ rest (i+1) _ β _ w Zc ?_ hk⟩
   rw [<- hd]
   exact ⟨by rw [DS.nx_put];exact hs.b.put r.dst oU (WV.v undef),by rw [DS.nx_put];exact hs.r⟩
  .exact hk.elim
def vT(next:DS->Prop)(Q:Exit->DS->Prop):Exit->DS->Prop
 | .normal,s=>next s
 | e,s=>Q e s
def fZ(id:Nat)(Q:Exit->DS->Prop):Exit->DS->Prop
 | .exit Vy,s=>if Vy=id then Q .normal s else Q (.exit Vy) s
 | e,s=>Q e s
section rules
variable {C:Ctx} {Q:Exit->DS->Prop} {s:DS}
theorem DW.reg{ops:List DR}{info:RI}(h:bK C.P ops s λs'=>Q .normal s'):DW C (.reg false ops info) Q s:=by
 intro code hc a w ⟨hR,β,hs⟩
 obtain ⟨id,os,rfl,hl,_⟩:=yf hc
 obtain ⟨h1,h2⟩:=mapM_some hl
 refine wpIn_region ?_
 have:=xy (dr:=false) (ops:=os) (K:=λs'=>Q .normal s') (Q:=Vc C Q) (λs β a w hh hk=>⟨s,hk,.of hh⟩) ops 0 s β a w (λj r hj=>?_) ⟨hs,hR⟩ h
 .rw [h1,Cv,<- List.range_eq_range'] at this
  exact this
 .have Wb:j<os.toList.length:=by have:=(Aq.1 hj).1;omega
  have:=h2 j os.toList[j] r (Aa Wb) hj
  exact ⟨os.toList[j],by simp at Wb ⊢,this⟩
theorem DW.mono{c:DC}{Q':Exit->DS->Prop}(h:DW C c Q s)(hq:∀ e s,Q e s->Q' e s):DW C c Q' s:=
 λcode hc a w hs=>wpIn_mono (h code hc a w hs) λ_ _ _ ⟨s,h1,h2⟩=>⟨s,hq _ _ h1,h2⟩
theorem DW.dfq{t:Nat}{g:FuncId}{cap:List Operand}(Hs:C.rd=none)(h:Q .normal (s.put (some t) (.fn (.func g) (.tup []::cap.map s.ev)))):DW C (.dfq t g cap) Q s:=by
 intro code hc a w ⟨hR,β,hs⟩
 obtain ⟨id,os,rfl,hd⟩:=Br8 hc
 obtain ⟨o,p,first,c,cs,rfl,Mv,rfl,tV,hg,gj,JK,hpg,Hn,hf0,hc0,ht,hq⟩:=Bo1 hd
 have ki:first = #[]:=Jc hf0
 obtain ⟨nx,w1,β1,x,h1,h2,h3,h4⟩:=Cc8 Mv hs
 rw [ki] at h4
 have Fm:(execOp a.eval o).run C.P w=.ok (.value (.func (.func g) #[] (cs.map a.eval))) w:=by
  have:first = #[]:=Jc hf0
  simp [execOp,Mv,Instr.makeFunc,this]
 rw [Fm] at h1
 cases h1
 have hx:x=.func (.func g) #[] (cs.map a.eval):=by
  rcases h2 with h2 | ⟨h2,_⟩
  .cases h2;rfl
  .cases h2
 subst hx
 refine wpIn_region ?_
 have g0:(#[o,p]:Array Oper)[0]?=some o:=rfl
 have g1:(#[o,p]:Array Oper)[1]?=some p:=rfl
 have gw0:∀ y,Region.wanted o y=true:=λy=>by unfold Region.wanted;rw [hg]
 have gw1:∀ y,Region.wanted p y=true:=λy=>by unfold Region.wanted;rw [hpg]
 show wpOpsIn C.F 0 C.P #[o,p] (Vc C Q) [0,1] a w
 simp only [wpOpsIn,g0,g1,gw0,gw1,Gl]
 have Um:∀ c,o.op≠.defer c:=λc hc=>by rw [Mv] at hc;cases hc
 refine ⟨λ_ _=>trivial,?_⟩
 rw [Oper.semAt_plain _ _ _ Um,Fm,Oper.uponIn_value,tV]
 have hp:=h3.put (some t) (λt' e=>by cases e;exact ht) h4
 have Td:(a.put (some t) (.func (.func g) #[] (cs.map a.eval))).eval (.tmp t)=.func (.func g) #[] (cs.map a.eval):=by
  have:t<a.tmps.size:=by rw [hs.sz];exact ht
  simp [Act.put,Act.eval,this]
 have hrn:C.F.round=none:=by
  show C.rd=none
  exact Hs
 refine ⟨λ_ _=>trivial,?_⟩
 have Du:c.args = #[]:=Jc hc0
 have JC:(execOp (a.put (some t) (.func (.func g) #[] (cs.map a.eval))).eval p).run C.P w=.ok (.defer { target:=.fn (.func g) (cs.map a.eval),args:=#[] }) w:=by
  simp [execOp,gj,resolve,Hn,Du,Td,Deferred.ofValue]
 rw [hrn,Oper.semAt_none,JC,Oper.uponIn_defer,JK]
 refine ⟨_,h,by rw [DS.nx_put];exact hR,β1,?_⟩
 rw [DS.nx_put]
 exact ⟨hp.hh,hp.df.quiet ⟨g,_,hq,rfl⟩,hp.sz,hp.sl,hp.gh,hp.yd⟩
theorem DW.skip(h:Q .normal s):DW C .skip Q s:=by
 intro code hc a w hs
 obtain rfl:=Bo2 hc
 exact wpIn_skip ⟨s,h,hs⟩
theorem DW.ret(h:Q .ret s):DW C .ret Q s:=by
 intro code hc a w hs
 obtain rfl:=Br9 hc
 exact wpIn_ret ⟨s,h,hs⟩
theorem DW.exit{id:Nat}(h:Q (.exit id) s):DW C (.exit id) Q s:=by
 intro code hc a w hs
 obtain rfl:=Bo3 hc
 exact wpIn_exit ⟨s,h,hs⟩
theorem DW.seq{x y:DC}(h:DW C x (vT (DW C y Q) Q) s):DW C (.seq x y) Q s:=by
 intro code hc a w hs
 obtain ⟨p,q,rfl,hx,hy⟩:=Bs0 hc
 refine wpIn_seq (wpIn_mono (h p hx a w hs) ?_)
 rintro e a w ⟨s',h1,h2⟩
 cases e <;> first | exact h1 q hy a w h2 | exact ⟨s',h1,h2⟩
theorem DW.cond{x:Operand}{y z:DC}{b:Bool}(hb:s.ev x=.v (.bool b))(ht:b=true->DW C y Q s)(hf:b=false->DW C z Q s):DW C (.cond x y z) Q s:=by
 intro code hc a w hs
 obtain ⟨p,q,rfl,hy,hz⟩:=Bo4 hc
 have Uk:=hs
 obtain ⟨hR,β,hh⟩:=hs
 have h1:=hh.ev x
 rw [hb] at h1
 exact wpIn_cond_split (Eb h1) (λh=>ht h _ hy a w Uk) (λh=>hf h _ hz a w Uk)
theorem DW.blk{id:Nat}{c:DC}(h:DW C c (fZ id Q) s):DW C (.blk id c) Q s:=by
 intro code hc a w hs
 obtain ⟨p,rfl,Km⟩:=Bs1 hc
 refine wpIn_block (wpIn_mono (h _ Km a w hs) ?_)
 rintro e a w ⟨s',h1,h2⟩
 cases e <;> first | exact ⟨s',h1,h2⟩ | skip
 rename_i Vy
 simp only [fZ] at h1
 simp only [Exit.inBlock]
 split
 .rename_i he;rw [Af he] at h1;exact ⟨s',h1,h2⟩
 .rename_i he;rw [Ae he] at h1;exact ⟨s',h1,h2⟩
theorem DW.loop{c:DC}(I:Nat->DS->Prop)(n:Nat)(h0:I n s)(round:∀ n s,I n s->DW C c (vT (λs'=>∃ m,m<n/\I m s') Q) s):DW C (.loop c) Q s:=by
 intro code hc a w hs
 obtain ⟨p,rfl,Km⟩:=Bo5 hc
 intro b k cs hro hb hr
 have key:∀ (n:Nat) (s:DS),I n s->∀ a w,Holds C s a w->∃ e a' w',Vc C Q e a' w'/\ArrivesIn (Machine.fenced C.P C.F) C.P (lone (b.atR a (.code p :: .inLoop p::k)) cs w) b k cs e a' w':=by
  intro n
  induction n using Nat.strongRecOn with
  | _ n ih=>
   intro s hI a w hs
   obtain ⟨e,a₁,w₁,⟨s',h1,h2⟩,dB⟩:=round n s hI _ Km a w hs b (.inLoop p::k) cs hro hb hr
   cases e with
   | normal=>
    obtain ⟨m,hm,hI'⟩:=h1
    obtain ⟨e₂,a₂,w₂,hq₂,LV⟩:=ih m hm s' hI' a₁ w₁ h2
    exact ⟨e₂,a₂,w₂,hq₂,.of_steps (StepsIn.trans dB (.one (fenced_calm hb hr rfl) stepR_inLoop)) LV⟩
   | exit id=>exact ⟨_,a₁,w₁,⟨s',h1,h2⟩,.pass (x:=.inLoop p) rfl (λ_ _=>.inl (by simp)) dB⟩
   | goto l=>exact ⟨_,a₁,w₁,⟨s',h1,h2⟩,.pass (x:=.inLoop p) rfl (λ_ _=>.inl (by simp)) dB⟩
   | ret=>exact ⟨_,a₁,w₁,⟨s',h1,h2⟩,.pass (x:=.inLoop p) rfl (λ_ _=>.inl (by simp)) dB⟩
   | panic ch=>exact ⟨_,a₁,w₁,⟨s',h1,h2⟩,.pass (x:=.inLoop p) rfl (λ_ _=>.inl (by simp)) dB⟩
   | outgrown=>exact ⟨_,a₁,w₁,⟨s',h1,h2⟩,.pass (x:=.inLoop p) rfl (λ_ _=>.inl (by simp)) dB⟩
 obtain ⟨e,a',w',hq,dB⟩:=key n s h0 a w hs
 exact ⟨e,a',w',hq,.of_steps (.one (fenced_calm hb hr rfl) stepR_loop) dB⟩
theorem DW.rng{g:Operand}{ps:List Nat}{x y:DC}{sl:Sl}(tH:sl.get=s.sv)(Hs:C.rd=none){f:FuncId}{Lm:List DV}
  (hg:(s.ev g).asFn=some (f,Lm)) (Uq:Uc C.P f=true)
  (h:Tj C.P f (.yl s.nx::Lm) { s with ho:=Gf s.ho s.nx (some (.loop ⟨C.nt,sl,ps,x,y,.ready,none⟩)),nx:=s.nx+1 } λs2 _=>∃ lp,s2.ho s.nx=some (.loop lp)/\lp.st≠.busy/\match lp.pend with
   | none=>Q .normal (s2.lay s.nx none)
   | some .ret=>Q .ret (s2.lay s.nx none)
   | some (.exit i)=>Q (.exit i) (s2.lay s.nx none)
   | _=>False):DW C (.rng g ps x y) Q s:=by
 intro code hc a w ⟨hR,β,hs⟩
 obtain ⟨qs,ac,bc,rfl,hqs,aCj,hx,hy⟩:=Bs2 hc
 refine wpIn_rangeFunc λfn _=>?_
 have hFr:C.F.round=none:=Hs
 rw [hFr]
 obtain ⟨rec,fH⟩:∃ rec:Loop,rec = { state:=.ready,pending:=none,fn,tmps:=a.tmps,params:=qs,assign:=ac,body:=bc,defers:=w.heap.size }:=⟨_,rfl⟩
 obtain ⟨w1,lF⟩:∃ w1,(w.alloc (.deferred (some []))).alloc (.loop rec)=w1:=⟨_,rfl⟩
 have aSt:w1.heap.size=w.heap.size+2:=by rw [<- lF];simp
 have hD:w1.heap[w.heap.size]?=some (.deferred (some [])):=by
  rw [<- lF];exact (Below.heap_alloc _ _ _ (by simp)).trans (World.alloc_heap_new w _)
 have hL:w1.heap[w.heap.size+1]?=some (.loop rec):=by
  rw [<- lF];have:=World.alloc_heap_new (w.alloc (.deferred (some []))) (.loop rec);rwa [World.size_alloc] at this
 have Mb:Below w.heap.size w w1:=by
  rw [<- lF];exact ((Below.refl _ w).alloc (Ag _) _).alloc (by simp) _
 obtain ⟨id,hid⟩:∃ id,s.nx=id:=⟨_,rfl⟩
 have Sj:¬ Us C s.nx id:=λh=>by have:=h.1;omega
 obtain ⟨s1,Mi⟩:∃ s1:DS,{ s with ho:=Gf s.ho s.nx (some (.loop ⟨C.nt,sl,ps,x,y,.ready,none⟩)),nx:=s.nx+1 } = s1:=⟨_,rfl⟩
 have oI:s1.nx=id+1:=by rw [<- Mi,<- hid]
 have mi:∀ i,C.R i->i<s1.nx:=λi hi=>by have:=hR i hi;omega
 have Zf:HoldsB C (Us C s1.nx) s1 (upd β id (some (w.heap.size+1))) a w1:=by
  have ht:=(hs.turned (β':=upd β id (some (w.heap.size+1))) (w':=w1) Sj none (λ_ h=>by cases h) (.loop ⟨C.nt,sl,ps,x,y,.ready,none⟩) (λb hb _=>Mb.block b hb) Mb.os Mb.tape Mb.output Mb.size (λj hj _=>Zv β _ hj) (λ_ h=>by cases h)
   (λb hb=>by rw [De] at hb;cases hb;exact ⟨.inr (by omega),by omega⟩)
   (λCl=>by
    subst fH
    exact ⟨_,_,De _ _ _,hL,hqs,hs.sz,hx,hy,rfl,rfl,λt=>by rw [tH];exact Cl _ _ (hs.sl t)⟩)).1
  have Wi:=ht.grow (U':=Us C s1.nx) λi hi=>by
   rcases hi with hi | rfl
   .exact ⟨by have:=hi.1;omega,hi.2⟩
   .exact ⟨by omega,λhr=>by have:=hR _ hr;omega⟩
  have e:s1.ho=(s.upd id (.mv none (.loop ⟨C.nt,sl,ps,x,y,.ready,none⟩))).ho:=by rw [<- Mi,hid];rfl
  have e2:s1.vw C=(s.upd id (.mv none (.loop ⟨C.nt,sl,ps,x,y,.ready,none⟩))).vw C:=by unfold DS.vw;rw [e]
  have e3:s1.sv=s.sv:=by rw [<- Mi]
  obtain ⟨g1,g2,g3,g4,g5,g6⟩:=Wi
  exact ⟨by rw [e2];exact g1,g2,g3,by rw [e2,e3];exact g4,by rw [e2];exact g5,by rw [e];exact g6⟩
 have zG:∀ (d:Deferred) (D:Nat) (β':Nat->Option Nat),Mark C β' w d->d = { target:=.collected D,args:=#[] }->D<w.heap.size:=λd D β' hm e=>by
  obtain ⟨D',e',h1,_⟩:=hm
  rw [e] at e'
  simp only [Deferred.mk.injEq,Target.collected.injEq,and_true] at e'
  subst e'
  exact (Bu.1 h1).1
 have fG:HoldsB C (Us C s1.nx) s1 (upd β id (some (w.heap.size+1))) { a with defers:=[{ target:=.collected w.heap.size,args:=#[] }]++a.defers } w1:=by
  refine ⟨Zf.hh,⟨?_,λd hd=>?_,Zf.df.out,λD rG hM=>?_⟩,Zf.sz,Zf.sl,Zf.gh,Zf.yd⟩
  .rw [List.singleton_append,Vq (by rfl),Jr]
   exact ⟨λhm=>by have:=zG _ _ _ (hs.df.ownC (Dp.1 hm).1) rfl;omega,hs.df.nodup⟩
  .rcases Ap.1 hd with rfl | hd
   .refine .inl ⟨_,rfl,hD,hs.hh.bel.size,λj hj=>?_⟩
    by_cases Nt:j=id
    .subst Nt;rw [De] at hj;simp at hj
    .rw [Zv β _ Nt] at hj;have:=hs.hh.lt hj;omega
   .exact Zf.df.own d hd
  .rcases Ap.1 rG with e | rG
   .simp only [Deferred.mk.injEq,Target.collected.injEq,and_true] at e
    subst e
    have:=zG _ _ _ (hs.df.out _ hM) rfl
    omega
   .exact hs.df.apart D rG hM
 have Xj:=hs.ev g
 have aP:=Bs3 hg
 simp only at aP
 rw [aP] at Xj
 obtain ⟨us,vs,e1,eb,hl,_,Cl⟩:=wk Xj
 have dz:us=[]:=Ef (by simpa using eb)
 subst dz
 have kJ:a.eval g=.func (.func f) #[] vs.toArray:=by rw [<- e1]
 -- what was captured is as it was
 have Ol:∀ (j:Nat) (v:Value) (d:DV),vs[j]?=some v->Lm[j]?=some d->WV C (Us C s1.nx) (s1.vw C) (upd β id (some (w.heap.size+1))) w1 v d:=λj v d hv hd=>by
  have h1:=hs.evp g (Cl j v d hv hd) λi hi=>by rw [aP,DV.refs,DV.refsL];exact Ce _ (DV.refsL_mem (Aw hd) hi)
  have ht:=(hs.turned (β':=upd β id (some (w.heap.size+1))) (w':=w1) Sj none (λ_ h=>by cases h) (.loop ⟨C.nt,sl,ps,x,y,.ready,none⟩) (λb hb _=>Mb.block b hb) Mb.os Mb.tape Mb.output Mb.size (λj hj _=>Zv β _ hj) (λ_ h=>by cases h)
   (λb hb=>by rw [De] at hb;cases hb;exact ⟨.inr (by omega),by omega⟩)
   (λCl=>by
    subst fH
    exact ⟨_,_,De _ _ _,hL,hqs,hs.sz,hx,hy,rfl,rfl,λt=>by rw [tH];exact Cl _ _ (hs.sl t)⟩)).2 _ _ h1
  have e2:s1.vw C=(s.upd id (.mv none (.loop ⟨C.nt,sl,ps,x,y,.ready,none⟩))).vw C:=by rw [<- Mi,hid];rfl
  rw [e2]
  refine ht.grow λi hi=>?_
  rcases hi with hi | rfl
  .exact ⟨by have:=hi.1;omega,hi.2⟩
  .exact ⟨by omega,λhr=>by have:=hR _ hr;omega⟩
 have jn:s1.ho id=some (.loop ⟨C.nt,sl,ps,x,y,.ready,none⟩):=by rw [<- Mi,hid];simp
 have V3:WV C (Us C s1.nx) (s1.vw C) (upd β id (some (w.heap.size+1))) w1 (.func (.yield (w.heap.size+1)) #[] #[]) (.yl id):=
  Zf.hh.wv (.yl id _ (De _ _ _)) λi hi=>by
   obtain rfl:i=id:=by simpa [DV.refs] using hi
   exact kV (by rw [jn];rfl)
 rw [Mi,hid] at h
 refine ⟨w.heap.size+1,[{ target:=.collected w.heap.size,args:=#[] }],w1,{ target:=.fn (.func f) vs.toArray,args:=#[.func (.yield (w.heap.size+1)) #[] #[]] },w1,f,
  #[.func (.yield (w.heap.size+1)) #[] #[]]++vs.toArray,w1,?_,?_,λ_ _=>trivial,?_,λh=>by simp [Ctx.F,Fence.wide] at h,?_⟩
 .rw [<- lF,fH];exact run_enterLoop_outer _ _ _ _ _
 .simp only [resolve,kJ]
  simp [go_sem]
 .simp [invoke,AK Uq]
 .refine zo ?_
  have N4:Tj C.P f (.yl id::Lm) s1 λs2 _=>∃ lp,s2.ho id=some (.loop lp)/\lp.st≠.busy/\match lp.pend with
   | none=>Q .normal (s2.lay id none)
   | some .ret=>Q .ret (s2.lay id none)
   | some (.exit i)=>Q (.exit i) (s2.lay id none)
   | _=>False:=h
  have hX':=fG
  -- the yield's record goes on lying where it lies: others hold it
  obtain ⟨C2,Pk⟩:∃ C2:Ctx,C2 = { C with X:=λx d=>C.X x d\/(x=.func (.yield (w.heap.size+1)) #[] #[]/\d=.yl id) }:=⟨_,rfl⟩
  have hsX:HoldsB C2 (Us C2 s1.nx) s1 (upd β id (some (w.heap.size+1))) { a with defers:=[{ target:=.collected w.heap.size,args:=#[] }]++a.defers } w1:=by
   obtain ⟨g1,g2,g3,g4,g5,g6⟩:=fG
   obtain ⟨q1,q2⟩:=HH.ctx (C:=C) (C':=C2) (by rw [Pk]) (by rw [Pk]) (by rw [Pk]) (by rw [Pk]) g1
   have eU:Us C2 s1.nx=Us C s1.nx:=by rw [Pk];rfl
   have eV:s1.vw C2=s1.vw C:=by rw [Pk];rfl
   refine ⟨by rw [eU,eV];exact q1,⟨g2.nodup,λd hd=>?_,λD hD=>?_,λD hD=>?_⟩,by rw [Pk];exact g3,λt=>by rw [eU,eV];exact (q2 _ _).2 (g4 t),λv d hx=>?_,by rw [Pk];exact g6⟩
   .have:=g2.own d hd;rw [Pk];exact this
   .rw [Pk] at hD ⊢;exact g2.out D hD
   .rw [Pk];exact g2.apart D hD
   .rw [eU,eV,q2]
    rw [Pk] at hx
    rcases hx with (hx | ⟨rfl,rfl⟩) | hx
    .exact g5 _ _ (.inl hx)
    .exact V3
    .exact g5 _ _ (.inr hx)
  have hP2:C2.P=C.P:=by rw [Pk]
  have Om:=Bh9 (C:=C2) (vs:=.func (.yield (w.heap.size+1)) #[] #[]::vs) (ds:=.yl id::Lm) hsX (by rw [Pk];exact mi) (by simp [hl]) (λj v d hv hd=>by
   have e:∀ v d,WV C2 (Us C2 s1.nx) (s1.vw C2) (upd β id (some (w.heap.size+1))) w1 v d↔WV C (Us C s1.nx) (s1.vw C) (upd β id (some (w.heap.size+1))) w1 v d:=λv d=>by rw [Pk];exact Dg
   rw [e]
   cases j with
   | zero=>simp at hv hd;subst hv hd;exact V3
   | succ j=>exact Ol j v d (by simpa using hv) (by simpa using hd)) (by rw [hP2];exact N4)
  rw [hP2] at Om
  have Du:(Value.func (.yield (w.heap.size+1)) #[] #[]::vs).toArray = #[.func (.yield (w.heap.size+1)) #[] #[]]++vs.toArray:=by simp
  rw [Du] at Om
  refine Om.mono ?_
  rintro e w3 ⟨v,d,s2,β2,rfl,⟨lp,gY,Ib,cG⟩,SG,JA,_⟩
  have aR:β2 id=some (w.heap.size+1):=by
   have h1:=(JA.gh (.func (.yield (w.heap.size+1)) #[] #[]) (.yl id) (.inl (by rw [Pk];exact .inr ⟨rfl,rfl⟩))).2.1 λi hi=>by
    obtain rfl:i=id:=by simpa [DV.refs] using hi
    exact kV (by rw [gY];rfl)
   obtain ⟨b2,e,aR⟩:=TX h1
   cases e;exact aR
  have Uj:HoldsB C (Us C s2.nx) s2 β2 { a with defers:=[{ target:=.collected w.heap.size,args:=#[] }]++a.defers } w3:=by
   obtain ⟨g1,g2,g3,g4,g5,g6⟩:=JA
   obtain ⟨q1,q2⟩:=HH.ctx (C:=C2) (C':=C) (by rw [Pk]) (by rw [Pk]) (by rw [Pk]) (by rw [Pk]) g1
   have eU:Us C2 s2.nx=Us C s2.nx:=by rw [Pk];rfl
   have eV:s2.vw C2=s2.vw C:=by rw [Pk];rfl
   rw [eU,eV] at q1 q2
   refine ⟨q1,⟨g2.nodup,λd hd=>?_,λD hD=>?_,λD hD=>?_⟩,by rw [Pk] at g3;exact g3,λt=>(q2 _ _).2 (by have:=g4 t;rwa [eU,eV] at this),λv d hx=>(q2 _ _).2 (by have:=g5 v d (hx.imp (λhx=>by rw [Pk];exact .inl hx) (λh=>h));rwa [eU,eV] at this),by rw [Pk] at g6;exact g6⟩
   .have:=g2.own d hd;rw [Pk] at this;exact this
   .have:=g2.out D (by rw [Pk];exact hD);rw [Pk] at this;exact this
   .have:=g2.apart D hD;rw [Pk] at this;exact this
  obtain ⟨b',r2,Gz,tK,_,_,_,_,q5,q6,_⟩:=Uj.hh.hp id _ (bL gY)
  rw [aR] at Gz;cases Gz
  have aTr:=(Bu.1 tK).1
  have LI:=run_endLoop (P:=C.P) tK (by rw [q5];exact Ib)
  have Ui:Holds C (s2.lay id none) { a with defers:=[{ target:=.collected w.heap.size,args:=#[] }]++a.defers } (w3.putObj (w.heap.size+1) (.loop { r2 with state:=.exhausted })):=by
   -- first the record is written,then it is forgotten
   have hm:=Uj.mark aR gY tK .exhausted r2.pending
   have KC:=hm.hh.less (U':=Us C s2.nx) (V':=(s2.lay id none).vw C) (β':=upd β2 id none) (λ_ h=>h) (λi=>?_) (λi=>?_)
   .refine ⟨by rw [Pk] at SG;exact SG,_,hm.carry (s':=s2.lay id none) rfl (λi o hy=>?_) KC⟩
    by_cases hi:i=id
    .subst hi;simp
    .rw [DS.ho_lay_other _ _ hi];have:=Uj.yd i o hy;exact this
   .by_cases hi:i=id
    .subst hi
     refine .inr ⟨De _ _ _,?_⟩
     have:=Uj.apart (i:=i) (by rw [gY];rfl)
     simp [DS.vw,Lc,DS.lay,this]
    .exact .inl (Zv _ _ hi)
   .by_cases hi:i=id
    .subst hi
     have:=Uj.apart (i:=i) (by rw [gY];rfl)
     exact .inr (by simp [DS.vw,Lc,DS.lay,this])
    .exact .inl (by simp [DS.vw,Lc,DS.lay,Gf,hi])
  obtain ⟨w4,hw4⟩:∃ w4,w3.putObj (w.heap.size+1) (.loop { r2 with state:=.exhausted })=w4:=⟨_,rfl⟩
  rw [hw4] at LI Ui
  refine ⟨r2.pending,w4,LI,?_⟩
  rw [q6]
  split at cG
  .rename_i hp;rw [hp];exact ⟨_,cG,Ui⟩
  .rename_i hp;rw [hp];exact wpIn_ret ⟨_,cG,Ui⟩
  .rename_i i hp;rw [hp];exact wpIn_exit ⟨_,cG,Ui⟩
  .exact cG.elim
def Imp(s s':DS):Prop:=∀ C a w,Holds C s a w->Holds C s' a w
end rules
end Go.DD

/- Regions that draw their order: one run in the text's order serves every order. The operations that write, and the calls, stand in one order by their edges; what is only made lies by itself; all others read the same at every moment at which they may come. -/
namespace Go.DD
open Go.RowKit (Below)
structure Agree (op:DOp) (s s':DS):Prop where
 ev:∀ x∈op.opnds,s'.ev x=s.ev x
 rv:∀ x∈op.opnds,s'.rv x=s.rv x
 ho:op.rdC=true->∀ x∈op.opnds,∀ id∈(s.ev x).refs,s'.ho id=s.ho id
theorem VB{s s':DS}{Yn:Int}{x:Option Operand}(h:∀ y∈x.toList,s'.ev y=s.ev y):Ig s' Yn x=Ig s Yn x:=by
 cases x with
 | none=>rfl
 | some y=>simp [Ig,h y (by simp)]
theorem VC{nid:Nat}{s s':DS}{op:DOp}(h:Agree op s s'):Ba nid s' op=Ba nid s op:=by
 obtain ⟨h1,A0,h2⟩:=h
 cases op with
 | bld z ps=>
  have:ps.map (λp=>(p.1,p.2.1,s'.ev p.2.2))=ps.map λp=>(p.1,p.2.1,s.ev p.2.2):=
   El λp hp=>by rw [h1 p.2.2 (by simp only [DOp.opnds,Bn];exact ⟨p,hp,rfl⟩)]
  simp only [Ba,this]
 | bsl T n es z ps=>
  have:ps.map (λp=>(p.1,p.2.1,s'.ev p.2.2))=ps.map λp=>(p.1,p.2.1,s.ev p.2.2):=
   El λp hp=>by rw [h1 p.2.2 (by simp only [DOp.opnds,Bn];exact ⟨p,hp,rfl⟩)]
  simp only [Ba,this]
 | mkf f fst cap=>
  have e1:fst.map s'.ev=fst.map s.ev:=El λx hx=>h1 x (by simp [DOp.opnds,hx])
  have e2:cap.map s'.ev=cap.map s.ev:=El λx hx=>h1 x (by simp [DOp.opnds,hx])
  simp only [Ba,e1,e2]
 | sli es x lo hi=>
  have hx:=h1 x (by simp [DOp.opnds])
  have Gi:∀ d,Ig s' d lo=Ig s d lo:=λd=>VB λy hy=>h1 y (by simp [DOp.opnds];exact .inr (.inl (by simpa using hy)))
  have Si:∀ d,Ig s' d hi=Ig s d hi:=λd=>VB λy hy=>h1 y (by simp [DOp.opnds];exact .inr (.inr (by simpa using hy)))
  simp only [Ba,hx,Gi,Si]
 | sls x lo hi=>
  have hx:=h1 x (by simp [DOp.opnds])
  have Gi:∀ d,Ig s' d lo=Ig s d lo:=λd=>VB λy hy=>h1 y (by simp [DOp.opnds];exact .inr (.inl (by simpa using hy)))
  have Si:∀ d,Ig s' d hi=Ig s d hi:=λd=>VB λy hy=>h1 y (by simp [DOp.opnds];exact .inr (.inr (by simpa using hy)))
  simp only [Ba,hx,Gi,Si]
 | ld k x=>
  have hx:=h1 x (by simp [DOp.opnds])
  have hh:=h2 rfl x (by simp [DOp.opnds])
  simp only [Ba,hx]
  split
  .rfl
  .rename_i id off e
   rw [hh id (by rw [e];simp [DV.refs])]
  .rfl
 | st n p x=>
  have hp:=h1 p (by simp [DOp.opnds])
  have hx:=h1 x (by simp [DOp.opnds])
  have hh:=h2 rfl p (by simp [DOp.opnds])
  simp only [Ba,hp,hx]
  split
  .rename_i id off e
   rw [hh id (by rw [e];simp [DV.refs])]
  .rfl
 | app T es bytes d x=>
  have hd:=h1 d (by simp [DOp.opnds])
  have hx:=h1 x (by simp [DOp.opnds])
  have hhd:=h2 rfl d (by simp [DOp.opnds])
  have N9:=h2 rfl x (by simp [DOp.opnds])
  have e1:dstD s' T es (s.ev d)=dstD s T es (s.ev d):=by
   unfold dstD
   split
   .rfl
   .rename_i id n es' e
    rw [hhd id (by rw [e];simp [DV.refs])]
   .rfl
  have e2:srcD s' T es (s.ev x)=srcD s T es (s.ev x):=by
   unfold srcD
   split
   .rfl
   .rfl
   .rfl
   .rename_i id off n es' e
    rw [N9 id (by rw [e];simp [DV.refs])]
   .rfl
  simp only [Ba,hd,hx,e1,e2]
 | mkm=>rfl
 | lkp kd z x k ok=>
  have hx:=h1 x (by simp [DOp.opnds])
  have hh:=h2 rfl x (by simp [DOp.opnds])
  simp only [Ba,hx,h1 k (by simp [DOp.opnds])]
  split
  .split
   .split
    .rfl
    .rename_i id e
     rw [hh id (by rw [e];simp [DV.refs])]
    .rfl
   .rfl
  .rfl
 | men kd z x k=>
  have hx:=h1 x (by simp [DOp.opnds])
  have hh:=h2 rfl x (by simp [DOp.opnds])
  simp only [Ba,hx,h1 k (by simp [DOp.opnds])]
  split
  .split
   .split
    .rename_i id e
     rw [hh id (by rw [e];simp [DV.refs])]
    .rfl
   .rfl
  .rfl
 | mes x q y=>
  have hx:=h1 x (by simp [DOp.opnds])
  have hh:=h2 rfl x (by simp [DOp.opnds])
  simp only [Ba,hx,h1 q (by simp [DOp.opnds]),h1 y (by simp [DOp.opnds])]
  split
  .rename_i id n e _
   rw [hh id (by rw [e];simp [DV.refs])]
  .rfl
 | rgm x=>
  have hx:=h1 x (by simp [DOp.opnds])
  have hh:=h2 rfl x (by simp [DOp.opnds])
  simp only [Ba,hx]
  split
  .rfl
  .rename_i id e
   rw [hh id (by rw [e];simp [DV.refs])]
  .rfl
 | nxm k x=>rfl
 | rgs x=>simp only [Ba,h1 x (by simp [DOp.opnds])]
 | nxs x=>
  have hx:=h1 x (by simp [DOp.opnds])
  have hh:=h2 rfl x (by simp [DOp.opnds])
  simp only [Ba,hx]
  split
  .rename_i id e
   rw [hh id (by rw [e];simp [DV.refs])]
  .rfl
 | mki T x=>simp only [Ba,h1 x (by simp [DOp.opnds])]
 | tas T z x ok=>simp only [Ba,h1 x (by simp [DOp.opnds])]
 | sla T n es x=>
  have hx:=h1 x (by simp [DOp.opnds])
  have hh:=h2 rfl x (by simp [DOp.opnds])
  simp only [Ba,hx]
  split
  .rename_i id e
   rw [hh id (by rw [e];simp [DV.refs])]
  .rfl
 | cpy es x y=>
  have hx:=h1 x (by simp [DOp.opnds])
  have hy:=h1 y (by simp [DOp.opnds])
  have N9:=h2 rfl x (by simp [DOp.opnds])
  have hhy:=h2 rfl y (by simp [DOp.opnds])
  have e2:Vu s' es (s.ev y)=Vu s es (s.ev y):=by
   unfold Vu
   split
   .rfl
   .rfl
   .rename_i id off n es' e
    rw [hhy id (by rw [e];simp [DV.refs])]
   .rfl
  simp only [Ba,hx,hy,e2]
  split
  .rename_i id off n es' news m e _
   rw [N9 id (by rw [e];simp [DV.refs])]
  .rfl
 | mup kd x k y=>
  have hx:=h1 x (by simp [DOp.opnds])
  have hh:=h2 rfl x (by simp [DOp.opnds])
  simp only [Ba,hx,h1 k (by simp [DOp.opnds]),h1 y (by simp [DOp.opnds])]
  split
  .split
   .split
    .rename_i id e
     rw [hh id (by rw [e];simp [DV.refs])]
    .rfl
   .rfl
  .rfl
 | lnm x=>
  have hx:=h1 x (by simp [DOp.opnds])
  have hh:=h2 rfl x (by simp [DOp.opnds])
  simp only [Ba,hx]
  split
  .rfl
  .rename_i id e
   rw [hh id (by rw [e];simp [DV.refs])]
  .rfl
 | mv x=>simp only [Ba,A0 x (by simp [DOp.opnds])]
 | pick c p q=>simp only [Ba,h1 c (by simp [DOp.opnds]),A0 p (by simp [DOp.opnds]),A0 q (by simp [DOp.opnds])]
 | al T z=>rfl
 | bx T x=>simp only [Ba,h1 x (by simp [DOp.opnds])]
 | nck x=>simp only [Ba,h1 x (by simp [DOp.opnds])]
 | bin o x y=>simp only [Ba,h1 x (by simp [DOp.opnds]),h1 y (by simp [DOp.opnds])]
 | bb o x y=>simp only [Ba,h1 x (by simp [DOp.opnds]),h1 y (by simp [DOp.opnds])]
 | eqs o k x y=>simp only [Ba,h1 x (by simp [DOp.opnds]),h1 y (by simp [DOp.opnds])]
 | nilq o k x y=>simp only [Ba,h1 x (by simp [DOp.opnds]),h1 y (by simp [DOp.opnds])]
 | un o x=>simp only [Ba,h1 x (by simp [DOp.opnds])]
 | cvi o x=>simp only [Ba,h1 x (by simp [DOp.opnds])]
 | fa o x=>simp only [Ba,h1 x (by simp [DOp.opnds])]
 | fld o k x=>simp only [Ba,h1 x (by simp [DOp.opnds])]
 | ia es x i=>simp only [Ba,h1 x (by simp [DOp.opnds]),h1 i (by simp [DOp.opnds])]
 | ixs x i=>simp only [Ba,h1 x (by simp [DOp.opnds]),h1 i (by simp [DOp.opnds])]
 | len x=>simp only [Ba,h1 x (by simp [DOp.opnds])]
 | lns x=>simp only [Ba,h1 x (by simp [DOp.opnds])]
 | fx n es x i=>simp only [Ba,h1 x (by simp [DOp.opnds]),h1 i (by simp [DOp.opnds])]
 | s2b x=>simp only [Ba,h1 x (by simp [DOp.opnds])]
 | b2s x=>
  have hx:=h1 x (by simp [DOp.opnds])
  have N9:=h2 rfl x (by simp [DOp.opnds])
  have e2:Vu s' 1 (s.ev x)=Vu s 1 (s.ev x):=by
   unfold Vu
   split
   .rfl
   .rfl
   .rename_i id off m es' e
    rw [N9 id (by rw [e];simp [DV.refs])]
   .rfl
  simp only [Ba,hx,e2]
 | frz x=>
  have hx:=h1 x (by simp [DOp.opnds])
  have N9:=h2 rfl x (by simp [DOp.opnds])
  simp only [Ba,hx]
  split
  .rename_i id n e
   rw [N9 id (by rw [e];simp [DV.refs])]
  .rfl
 | cpn x=>simp only [Ba,h1 x (by simp [DOp.opnds])]
 | apz T es b d n=>simp only [Ba,h1 d (by simp [DOp.opnds]),h1 n (by simp [DOp.opnds])]
 | mks T es b z l c=>simp only [Ba,h1 l (by simp [DOp.opnds]),h1 c (by simp [DOp.opnds])]
 | ext x i=>simp only [Ba,h1 x (by simp [DOp.opnds]),A0 x (by simp [DOp.opnds])]
 | mm o x y=>simp only [Ba,h1 x (by simp [DOp.opnds]),h1 y (by simp [DOp.opnds])]
 | call f args=>rfl
 | cv tb f args=>rfl
 | bad=>rfl
theorem UM:∀ (rs:List DR) (acc:List (List Nat)),(Kx rs acc).length=acc.length+rs.length
 | [],acc=>by simp [Kx]
 | r::rs,acc=>by simp [Kx,UM rs];omega
theorem PO:∀ (rs:List DR) (acc:List (List Nat)) (k:Nat),k<acc.length->(Kx rs acc)[k]?=acc[k]?
 | [],acc,k,_=>rfl
 | r::rs,acc,k,h=>by
  simp only [Kx]
  rw [PO rs _ k (by simp;omega),Ci h]
theorem VT:∀ (rs:List DR) (acc:List (List Nat)) (k:Nat) (r:DR) (l:List Nat),rs[k]?=some r->(∀ (k:Nat) (r:DR),rs[k]?=some r->∀ j∈r.pre,j<acc.length+k)->(Kx rs acc)[acc.length+k]?=some l->
  ∀ x∈l,x∈r.pre\/∃ j∈r.pre,∃ l',(Kx rs acc)[j]?=some l'/\x∈l'
 | [],acc,k,r,l,h,_,_=>by simp at h
 | r0::rs,acc,0,r,l,h,hb,hl=>by
  simp at h;subst h
  intro x hx
  have cK:l=(r0.pre++r0.pre.flatMap λj=>(acc[j]?).getD []).eraseDups:=by
   simp only [Kx] at hl
   rw [PO rs _ _ (by simp)] at hl
   simpa using hl.symm
  rw [cK,Sc,Ax] at hx
  rcases hx with hx | hx
  .exact .inl hx
  .obtain ⟨j,hj,hx⟩:=Pc.1 hx
   have Wb:j<acc.length:=hb 0 r0 rfl j hj
   refine .inr ⟨j,hj,acc[j],?_,by simpa [Aa Wb] using hx⟩
   simp only [Kx]
   rw [PO rs _ j (by simp;omega),Ci Wb,Aa Wb]
 | r0::rs,acc,k+1,r,l,h,hb,hl=>by
  have key:=VT rs (acc ++ [(r0.pre++r0.pre.flatMap λj=>(acc[j]?).getD []).eraseDups]) k r l (by simpa using h)
   (λk' r' fI j hj=>by have:=hb (k'+1) r' (by simpa using fI) j hj;simp;omega)
   (by simp only [Kx] at hl;rw [<- hl];congr 1;simp;omega)
  simpa only [Kx] using key
def sE:List Bool->Nat
 | []=>0
 | b::bs=>(if b then 0 else 1)+sE bs
theorem Bt7:∀ (l:List Bool) (i:Nat),l[i]?=some false->sE (l.set i true)+1=sE l
 | [],i,h=>by simp at h
 | b::bs,0,h=>by simp at h;subst h;simp [sE];omega
 | b::bs,i+1,h=>by
  have:=Bt7 bs i (by simpa using h)
  simp only [List.set_cons_succ,sE]
  omega
theorem Bi0:∀ (l:List Bool),sE l=0->∀ b∈l,b=true
 | [],_,b,hb=>by cases hb
 | c::bs,h,b,hb=>by
  simp only [sE] at h
  rcases Ap.1 hb with rfl | hb
  .cases b
   .simp at h
   .rfl
  .exact Bi0 bs (by omega) b hb
theorem Bd8{rs:List DR}{L:List Bool}(Ul:∀ (k:Nat) (r:DR),rs[k]?=some r->∀ j∈r.pre,j<k)(Tz:∀ (i:Nat) (r:DR),L[i]?=some true->rs[i]?=some r->∀ j∈r.pre,L[j]?=some true) :
  ∀ (i:Nat) (r:DR) (l:List Nat),rs[i]?=some r->(∀ j∈r.pre,L[j]?=some true)->(Kx rs [])[i]?=some l->∀ x∈l,L[x]?=some true:=by
 intro i
 induction i using Nat.strongRecOn with
 | _ i ih=>
  intro r l hr hp hl x hx
  rcases VT rs [] i r l hr (λk r' hk j hj=>by have:=Ul k r' hk j hj;simp;omega) (by simpa using hl) x hx with h | ⟨j,hj,l',cK,IK⟩
  .exact hp x h
  .have Nt:=Ul i r hr j hj
   have oM:i<rs.length:=(Aq.1 hr).1
   have RO:rs[j]?=some rs[j]:=Aa (by omega)
   exact ih j Nt rs[j] l' RO (Tz j rs[j] (hp j hj) RO) cK x IK
structure RG where
 d:Nat->DV
 lay:Nat->Option DObj
 tgt:Nat->Option Nat
 ob:Nat->DObj
 main:List Nat
 H:Nat->Nat->Option DObj
 N:Nat->Nat
section
variable (rs:List DR) (s0:DS) (D:RG)
def Uv(i:Nat):List Nat:=((Kx rs [])[i]?).getD []
def Eu(i j:Nat):Bool:=(Uv rs i).contains j
def RG.pr(k j:Nat):Bool:=(D.main.take k).any λq=>Eu rs q j
def RG.unp(k id:Nat):Option Nat:=if s0.nx<=id/\id<s0.nx+rs.length/\(D.lay (id-s0.nx)).isSome=true/\D.pr rs k (id-s0.nx)=false then some (id-s0.nx) else none
def Rq(tgt:Nat->Option Nat)(L:Nat->Bool)(j:Nat):Nat->Option Nat
 | 0=>none
 | n+1=>if tgt n=some j/\L n=true then some n else Rq tgt L j n
def RG.cur(L:Nat->Bool)(j:Nat):Option DObj:=match Rq D.tgt L j rs.length with
 | some w=>some (D.ob w)
 | none=>D.lay j
def RG.full(L:Nat->Bool)(k:Nat):Nat->Option DObj:=λid=>match D.unp rs s0 k id with
 | some j=>if L j then D.cur rs L j else none
 | none=>D.H k id
def RG.sv(L:Nat->Bool):Nat->DV:=λt=>match rs.findIdx? (λr=>r.dst==some t) with
 | some p=>if L p then D.d p else s0.sv t
 | none=>s0.sv t
def RG.at_(L:Nat->Bool)(k:Nat):DS:=⟨D.sv rs s0 L,D.full rs s0 L k,D.N k⟩
def RG.st(i k:Nat):DS:=D.at_ rs s0 (Eu rs i) k
def Rp(s:DS)(r:DR):Prop:=∀ t,.tmp t∈r.op.opnds->s.live (s.sv t)=true
def RG.may(i k:Nat):Prop:=k<=D.main.length/\(∀ (q j:Nat),q<k->D.main[q]?=some j->Eu rs j i=false)/\(∀ (q j:Nat),k<=q->D.main[q]?=some j->Eu rs i j=false)
def DS.hasU(s:DS):Upd->Bool
 | .wr id _=>(s.ho id).isSome
 | .mv (some id) _=>(s.ho id).isSome
 | _=>true
def Zq(P:Program)(f:FuncId)(ds:List DV)(s:DS)(d:DV)(H':Nat->Option DObj)(n':Nat):Prop:=
 Uc P f=true/\(Tj P f ds s (λs' d'=>d'=d/\s'.ho=H'/\s'.nx=n')\/(H'=s.ho/\n'=s.nx/\(∀ x∈ds,x.refs=[])/\DCall P f ds λd'=>d'=d))
def RG.ev(P:Program)(i:Nat)(r:DR):Prop:=
 match (D.st rs s0 i 0).wanted r.g with
 | none=>False
 | some false=>D.d i=.v undef/\D.lay i=none/\D.tgt i=none/\i∉D.main
 | some true=>match r.op with
  | .call f args=>∃ k,D.main[k]?=some i/\Rp (D.st rs s0 i k) r/\Zq P f (args.map (D.st rs s0 i k).rv) (D.st rs s0 i k) (D.d i) (D.H (k+1)) (D.N (k+1))
  | .cv tb x args=>∃ k f fr cs,D.main[k]?=some i/\Rp (D.st rs s0 i k) r/\((D.st rs s0 i k).ev x).tgt tb=some (f,fr,cs)/\Zq P f (fr++args.map (D.st rs s0 i k).rv++cs) (D.st rs s0 i k) (D.d i) (D.H (k+1)) (D.N (k+1))
  | op=>(∃ k u,D.main[k]?=some i/\Rp (D.st rs s0 i k) r/\(D.st rs s0 i k).hasU u=true/\Ba (D.N k) (D.st rs s0 i k) op=some (D.d i,u)/\D.H (k+1)=u.app (D.N k) (D.st rs s0 i k).ho/\D.N (k+1)=if u.new then D.N k+1 else D.N k)\/
    (i∉D.main/\∀ k,D.may rs i k->Rp (D.st rs s0 i k) r/\∃ u,Ba (s0.nx+i) (D.st rs s0 i k) op=some (D.d i,u)/\match u with
     | .keep=>D.lay i=none/\D.tgt i=none
     | .lay o=>D.lay i=some o/\D.tgt i=none
     | .wr id o=>∃ j,D.unp rs s0 k id=some j/\Eu rs i j=true/\D.tgt i=some j/\D.ob i=o/\D.lay i=none
     | _=>False)
structure RG.OKs:Prop where
 pre:∀ (k:Nat) (r:DR),rs[k]?=some r->∀ j∈r.pre,j<k
 dst:∀ (i j:Nat) (r r':DR) (t:Nat),rs[i]?=some r->rs[j]?=some r'->r.dst=some t->r'.dst=some t->i=j
 rd:∀ (i:Nat) (r:DR) (t p:Nat),rs[i]?=some r->t∈r.tmps->rs.findIdx? (λr=>r.dst==some t)=some p->Eu rs i p=true\/Eu rs p i=true\/p=i
 chain:∀ (a b i j:Nat),D.main[a]?=some i->D.main[b]?=some j->a<b->Eu rs j i=true
 mlt:∀ (a i:Nat),D.main[a]?=some i->i<rs.length/\D.lay i=none/\D.tgt i=none
 wr1:∀ (w j:Nat),D.tgt w=some j->Eu rs w j=true
 wr2:∀ (i j w:Nat),i<rs.length->w<rs.length->Eu rs i j=true->D.tgt w=some j->Eu rs i w=true\/Eu rs w i=true\/w=i
 h0:D.H 0=s0.ho
 n0:D.N 0=s0.nx+rs.length
 mono:∀ k,D.N k<=D.N (k+1)
structure RG.OK (P:Program):Prop extends RG.OKs rs s0 D where
 ev:∀ (i:Nat) (r:DR),rs[i]?=some r->D.ev rs s0 P i r
end
end Go.DD

/- Regions that draw their order, second part: the theorem. -/
namespace Go.DD
open Go.RowKit (Below)
theorem HoldsB.congr{C:Ctx}{U:Nat->Prop}{s s':DS}{β:Nat->Option Nat}{a:Act}{w:World}(h:HoldsB C U s β a w)(h1:s'.sv=s.sv)(h2:s'.ho=s.ho):HoldsB C U s' β a w:=by
 have e:s'.vw C=s.vw C:=by unfold DS.vw;rw [h2]
 obtain ⟨g1,g2,g3,g4,g5,g6⟩:=h
 exact ⟨by rw [e];exact g1,g2,g3,by rw [e,h1];exact g4,by rw [e];exact g5,by rw [h2];exact g6⟩
section
variable {C:Ctx} {rs:List DR} {s0:DS} {D:RG} {L L':Nat->Bool} {i k:Nat} {r:DR}
theorem PY(Hx:D.OKs rs s0){i j:Nat}(hi:i<rs.length)(h:Eu rs i j=true):j<i:=by
 have key:∀ (i:Nat),i<rs.length->∀ j∈Uv rs i,j<i:=by
  intro i
  induction i using Nat.strongRecOn with
  | _ i ih=>
   intro hi j hj
   have oM:i<(Kx rs []).length:=by rw [UM];simpa using hi
   have hr:rs[i]?=some rs[i]:=Aa hi
   have hl:(Kx rs [])[i]?=some (Uv rs i):=by simp [Uv,Aa oM]
   rcases VT rs [] i rs[i] _ hr (λk r' hk j hj=>by have:=Hx.pre k r' hk j hj;simp;omega) (by simpa using hl) j hj with h | ⟨x,hx,l',cK,zN⟩
   .exact Hx.pre i _ hr j h
   .have h1:=Hx.pre i _ hr x hx
    have:=ih x h1 (by omega) j (by simp only [Uv,cK,Hq];exact zN)
    omega
 exact key i hi j (by simpa [Eu] using h)
theorem A10{tgt:Nat->Option Nat}{L:Nat->Bool}{j:Nat} : ∀ {n w:Nat},Rq tgt L j n=some w->w<n/\tgt w=some j/\L w=true
 | 0,w,h=>by cases h
 | n+1,w,h=>by
  simp only [Rq] at h
  split at h
  .rename_i hc;cases h;exact ⟨by omega,hc.1,hc.2⟩
  .have:=A10 h;exact ⟨by omega,this.2⟩
theorem PS{tgt:Nat->Option Nat}{L L':Nat->Bool}{j:Nat} : ∀ {n:Nat},(∀ w,w<n->tgt w=some j->L' w=L w)->Rq tgt L' j n=Rq tgt L j n
 | 0,h=>rfl
 | n+1,h=>by
  simp only [Rq]
  rw [PS (n:=n) λw hw=>h w (by omega)]
  by_cases ht:tgt n=some j
  .rw [h n (by omega) ht]
  .simp [ht]
theorem A91{tgt:Nat->Option Nat}{L:Nat->Bool}{j i:Nat}(ht:tgt i=some j)(hL:L i=true):∀ {n:Nat},i<n->(∀ w,w<n->i<w->tgt w=some j->L w=false)->Rq tgt L j n=some i
 | 0,h,_=>by omega
 | n+1,h,hl=>by
  simp only [Rq]
  by_cases hn:i=n
  .subst hn;rw [Af ⟨ht,hL⟩]
  .have hc:¬ (tgt n=some j/\L n=true):=λ⟨h1,h2⟩=>by rw [hl n (by omega) (by omega) h1] at h2;cases h2
   rw [Ae hc]
   exact A91 ht hL (by omega) λw hw=>hl w (by omega)
theorem Bi1{L:Nat->Bool}{j:Nat}(h:(D.lay j).isSome=true):(D.cur rs L j).isSome=true:=by
 unfold RG.cur
 split
 .rfl
 .exact h
structure Done (rs:List DR) (D:RG) (L:Nat->Bool) (k:Nat):Prop where
 cl:∀ i,i<rs.length->L i=true->∀ j,Eu rs i j=true->L j=true
 le:k<=D.main.length
 mn:∀ (q j:Nat),D.main[q]?=some j->(L j=true↔q<k)
variable (Hx:D.OKs rs s0) (hD:Done rs D L k) (hr:rs[i]?=some r) (hi:L i=false) (Jx:∀ j,Eu rs i j=true->L j=true)
include Hx hr
omit Hx in
theorem Sv:i<rs.length:=(Aq.1 hr).1
include hD hi Jx
omit hr in
theorem VS:D.may rs i k:=by
 refine ⟨hD.le,λq j hq hj=>?_,λq j hq hj=>?_⟩
 .cases h:Eu rs j i with
  | false=>rfl
  | true=>have:=hD.cl j (Hx.mlt q j hj).1 ((hD.mn q j hj).2 hq) i h;rw [hi] at this;cases this
 .cases h:Eu rs i j with
  | false=>rfl
  | true=>have:=(hD.mn q j hj).1 (Jx j h);omega
omit hr in
theorem UL{k0:Nat}(h:D.main[k0]?=some i):k0=k:=by
 have h1:¬ k0<k:=λEt=>by have:=(hD.mn k0 i h).2 Et;rw [hi] at this;cases this
 rcases Cr k k0 with Et | Xj
 .have hk:k<D.main.length:=by have:=(Aq.1 h).1;omega
  have hm:D.main[k]?=some D.main[k]:=Aa hk
  have:=(hD.mn k _ hm).1 (Jx _ (Hx.chain k k0 _ _ hm h Et))
  omega
 .omega
theorem TU(t:Nat)(ht:t∈r.tmps):D.sv rs s0 L t=D.sv rs s0 (Eu rs i) t:=by
 unfold RG.sv
 cases hp:rs.findIdx? (λr=>r.dst==some t) with
 | none=>rfl
 | some p=>
  simp only
  have M5:p<rs.length:=(Hi.1 hp).1
  rcases Hx.rd i r t p hr ht hp with h | h | rfl
  .rw [Af (Jx p h),Af h]
  .have h1:Eu rs i p=false:=by
    cases hx:Eu rs i p with
    | false=>rfl
    | true=>
     have h2:=PY Hx (Sv hr) hx
     have h3:=PY Hx M5 h
     omega
   have h2:L p=false:=by
    cases hx:L p with
    | false=>rfl
    | true=>have:=hD.cl p M5 hx i h;rw [hi] at this;cases this
   rw [h1,h2]
  .have h1:Eu rs p p=false:=by
    cases hx:Eu rs p p with
    | false=>rfl
    | true=>have:=PY Hx (Sv hr) hx;omega
   rw [h1,hi]
theorem Bi3{j:Nat}(ha:Eu rs i j=true):D.cur rs (Eu rs i) j=D.cur rs L j:=by
 unfold RG.cur
 rw [PS (L:=L) (L':=Eu rs i) λw hw ht=>?_]
 rcases Hx.wr2 i j w (Sv hr) hw ha ht with h | h | rfl
 .rw [h,Jx w h]
 .have h1:L w=false:=by
   cases hx:L w with
   | false=>rfl
   | true=>have:=hD.cl w hw hx i h;rw [hi] at this;cases this
  have h2:Eu rs i w=false:=by
   cases hx:Eu rs i w with
   | false=>rfl
   | true=>have:=Jx w hx;rw [h1] at this;cases this
  rw [h1,h2]
 .have h2:Eu rs w w=false:=by
   cases hx:Eu rs w w with
   | false=>rfl
   | true=>have:=PY Hx hw hx;omega
  rw [h2,hi]
theorem Bi4{id:Nat}{o:DObj}(h:D.full rs s0 (Eu rs i) k id=some o):D.full rs s0 L k id=some o:=by
 unfold RG.full at h ⊢
 split at h
 .rename_i j hj
  split at h
  .rename_i ha;rw [Af (Jx j ha),<- Bi3 Hx hD hr hi Jx ha];exact h
  .cases h
 .exact h
theorem Bp5:(D.at_ rs s0 L k).wanted r.g=(D.st rs s0 i 0).wanted r.g:=by
 unfold DS.wanted
 cases hg:r.g with
 | none=>rfl
 | some p=>
  obtain ⟨t,b⟩:=p
  have:=TU Hx hD hr hi Jx t (by simp [DR.tmps,hg])
  simp only [RG.st,RG.at_,this]
theorem UT(hl:Rp (D.st rs s0 i k) r):Agree r.op (D.st rs s0 i k) (D.at_ rs s0 L k):=by
 have Td:∀ x∈r.op.opnds,(D.at_ rs s0 L k).ev x=(D.st rs s0 i k).ev x:=λx hx=>by
  cases x with
  | tmp t=>
   have h1:D.sv rs s0 L t=D.sv rs s0 (Eu rs i) t:=TU Hx hD hr hi Jx t (by
    simp only [DR.tmps,Ax,Gq]
    exact .inl ⟨_,hx,rfl⟩)
   have h2:=hl t hx
   have h3:(D.at_ rs s0 L k).live ((D.at_ rs s0 L k).sv t)=true:=by
    have e:(D.at_ rs s0 L k).sv t=(D.st rs s0 i k).sv t:=h1
    rw [e]
    refine Bd.2 λid hid=>?_
    have h4:=Bd.1 h2 id hid
    obtain ⟨o,ho⟩:=Dw.1 h4
    have:=Bi4 Hx hD hr hi Jx (id:=id) (o:=o) ho
    show (D.full rs s0 L k id).isSome=true
    rw [this];rfl
   simp only [DS.ev]
   rw [Af h3,Af h2]
   exact h1
  | _=>rfl
 have hrv:∀ x∈r.op.opnds,(D.at_ rs s0 L k).rv x=(D.st rs s0 i k).rv x:=λx hx=>by
  cases x with
  | tmp t=>exact TU Hx hD hr hi Jx t (by
    simp only [DR.tmps,Ax,Gq]
    exact .inl ⟨_,hx,rfl⟩)
  | _=>rfl
 refine ⟨Td,hrv,λ_ x hx id hid=>?_⟩
 have h4:=HoldsB.eva (s:=D.st rs s0 i k) x id hid
 obtain ⟨o,ho⟩:=Dw.1 h4
 have:=Bi4 Hx hD hr hi Jx (id:=id) (o:=o) ho
 exact this.trans ho.symm
omit hD hi Jx in
theorem Bt8(Mu:∀ j,L' j=(j==i||L j))(k':Nat)(s:DS)(hs:s.sv=D.sv rs s0 L)(hh:s.ho=D.full rs s0 L' k'):(D.at_ rs s0 L' k').sv=(s.put r.dst (D.d i)).sv/\(D.at_ rs s0 L' k').ho=(s.put r.dst (D.d i)).ho:=by
 refine ⟨?_,by rw [DS.ho_put,hh];rfl⟩
 funext t
 show D.sv rs s0 L' t=_
 have tV:∀ p,rs.findIdx? (λr=>r.dst==some t)=some p->∃ r',rs[p]?=some r'/\r'.dst=some t:=λp hp=>by
  obtain ⟨h1,h2⟩:=Hi.1 hp
  have h3:=List.findIdx_getElem (xs:=rs) (p:=λr=>r.dst==some t) (w:=by omega)
  subst h2
  exact ⟨_,Aa h1,by simpa using h3⟩
 have He:r.dst≠some t->D.sv rs s0 L' t=D.sv rs s0 L t:=λGt=>by
  unfold RG.sv
  cases hp:rs.findIdx? (λr=>r.dst==some t) with
  | none=>rfl
  | some p=>
   obtain ⟨r',h1,h2⟩:=tV p hp
   have hpi:p≠i:=λe=>by subst e;rw [hr] at h1;cases h1;exact Gt h2
   simp [Mu,hpi]
 cases hd:r.dst with
 | none=>
  rw [He (by rw [hd];simp)]
  show _=s.sv t
  rw [hs]
 | some u=>
  by_cases hu:u=t
  .subst hu
   rw [DS.sv_put_same]
   unfold RG.sv
   cases hp:rs.findIdx? (λr=>r.dst==some u) with
   | none=>
    have:=List.findIdx?_eq_none_iff.1 hp r (Aw hr)
    simp [hd] at this
   | some p=>
    obtain ⟨r',h1,h2⟩:=tV p hp
    have:p=i:=Hx.dst p i r' r u h1 hr h2 hd
    subst this
    simp [Mu]
  .rw [DS.sv_put_other _ _ hu,He (by rw [hd];simpa using hu),hs]
omit hr hi Jx in
theorem Bd9{j:Nat}(hj:D.lay j≠none)(Wb:j<rs.length)(fT:L j=false):D.unp rs s0 k (s0.nx+j)=some j:=by
 unfold RG.unp
 have e:s0.nx+j-s0.nx=j:=by omega
 rw [e]
 rw [Af]
 refine ⟨by omega,by omega,Option.isSome_iff_ne_none.2 hj,?_⟩
 cases h:D.pr rs k j with
 | false=>rfl
 | true=>
  unfold RG.pr at h
  obtain ⟨q,hq,hqa⟩:=Vs.1 h
  obtain ⟨p,hp,rfl⟩:=Br.1 hq
  have hpk:p<k/\p<D.main.length:=by rw [Bt] at hp;omega
  have hm:D.main[p]?=some (D.main.take k)[p]:=by
   rw [Er];exact Aa hpk.2
  have:=hD.cl _ (Hx.mlt p _ hm).1 ((hD.mn p _ hm).2 hpk.1) j hqa
  rw [fT] at this;cases this
omit Hx hD hr hi Jx in
theorem bJ{id j:Nat}(h:D.unp rs s0 k id=some j):id=s0.nx+j/\j<rs.length/\(D.lay j).isSome=true/\D.pr rs k j=false:=by
 unfold RG.unp at h
 split at h
 .rename_i hc
  cases h
  exact ⟨by omega,by omega,hc.2.2.1,hc.2.2.2⟩
 .cases h
omit Hx hD hr hi Jx in
theorem UK(Mu:∀ j,L' j=(j==i||L j)){j:Nat}(ht:D.tgt i≠some j):D.cur rs L' j=D.cur rs L j:=by
 unfold RG.cur
 rw [PS (L:=L) (L':=L') λw _ hw=>by
  have dn:w≠i:=λe=>ht (by rw [<- e];exact hw)
  rw [Mu,Dl.2 dn,Gs]]
omit Jx in
theorem Bi5(Mu:∀ j,L' j=(j==i||L j)){o:DObj}(ho:D.lay i=some o)(ht:D.tgt i=none):D.full rs s0 L' k=Gf (D.full rs s0 L k) (s0.nx+i) (some o):=by
 funext id
 by_cases hid:id=s0.nx+i
 .subst hid
  rw [Qt]
  unfold RG.full
  rw [Bd9 Hx hD (by rw [ho];simp) (Sv hr) hi]
  have hc:D.cur rs L' i=some o:=by
   unfold RG.cur
   cases hl:Rq D.tgt L' i rs.length with
   | none=>exact ho
   | some w=>
    exfalso
    obtain ⟨h1,h2,h3⟩:=A10 hl
    have dn:w≠i:=λe=>by rw [e,ht] at h2;cases h2
    rw [Mu,Dl.2 dn,Gs] at h3
    have:=hD.cl w h1 h3 i (Hx.wr1 w i h2)
    rw [hi] at this;cases this
  simp [Mu,hc]
 .rw [rY _ _ hid]
  unfold RG.full
  cases hu:D.unp rs s0 k id with
  | none=>rfl
  | some j=>
   have Nt:j≠i:=λe=>hid (by rw [(bJ hu).1,e])
   simp only [UK Mu (j:=j) (by rw [ht];simp)]
   simp [Mu,Nt]
theorem Bt9(Mu:∀ j,L' j=(j==i||L j)){Za j:Nat}(hu0:D.unp rs s0 k Za=some j)(ha:Eu rs i j=true)(ht:D.tgt i=some j)(Yk:D.lay i=none):D.full rs s0 L' k=Gf (D.full rs s0 L k) Za (some (D.ob i)):=by
 funext id
 by_cases hid:id=Za
 .subst hid
  rw [Qt]
  unfold RG.full
  rw [hu0]
  have fT:L' j=true:=by rw [Mu,Jx j ha];simp
  have hc:D.cur rs L' j=some (D.ob i):=by
   unfold RG.cur
   rw [A91 ht (by rw [Mu];simp) (Sv hr) λw hw hiw hwt=>?_]
   rw [Mu,Dl.2 (by omega),Gs]
   cases hx:L w with
   | false=>rfl
   | true=>
    rcases Hx.wr2 i j w (Sv hr) hw ha hwt with h | h | h
    .have:=PY Hx (Sv hr) h;omega
    .have:=hD.cl w hw hx i h;rw [hi] at this;cases this
    .omega
  simp [fT,hc]
 .rw [rY _ _ hid]
  unfold RG.full
  cases hu:D.unp rs s0 k id with
  | none=>rfl
  | some j'=>
   have hjj:j'≠j:=λe=>hid (by rw [(bJ hu).1,(bJ hu0).1,e])
   have Nt:j'≠i:=λe=>by have:=(bJ hu).2.2.1;rw [e,Yk] at this;cases this
   simp only [UK Mu (j:=j') (by rw [ht];simpa using λe=>hjj e.symm)]
   simp [Mu,Nt]
omit Hx hD hr hi Jx in
theorem US(Mu:∀ j,L' j=(j==i||L j))(ho:D.lay i=none)(ht:D.tgt i=none):D.full rs s0 L' k=D.full rs s0 L k:=by
 funext id
 unfold RG.full
 cases hu:D.unp rs s0 k id with
 | none=>rfl
 | some j=>
  have Nt:j≠i:=λe=>by have:=(bJ hu).2.2.1;rw [e,ho] at this;cases this
  simp only [UK Mu (j:=j) (by rw [ht];simp)]
  simp [Mu,Nt]
omit Hx hD hr hi Jx in
theorem OY(hm:D.main[k]?=some i)(j:Nat):D.pr rs (k+1) j=(D.pr rs k j||Eu rs i j):=by
 unfold RG.pr
 rw [List.take_add_one,hm]
 simp
omit Hx hD hr hi Jx in
theorem xx(Mu:∀ j,L' j=(j==i||L j))(hm:D.main[k]?=some i)(Yk:D.lay i=none)(ht:D.tgt i=none)(id:Nat):D.full rs s0 L' (k+1) id=match D.unp rs s0 k id with
  | some j=>if Eu rs i j then D.H (k+1) id else if L j then D.cur rs L j else none
  | none=>D.H (k+1) id:=by
 cases hu:D.unp rs s0 k id with
 | none=>
  have:D.unp rs s0 (k+1) id=none:=by
   cases h:D.unp rs s0 (k+1) id with
   | none=>rfl
   | some j=>
    obtain ⟨e1,e2,e3,e4⟩:=bJ h
    rw [OY hm,Kr] at e4
    have:D.unp rs s0 k id=some j:=by
     unfold RG.unp
     have e:id-s0.nx=j:=by omega
     rw [e,Af ⟨by omega,by omega,e3,e4.1⟩]
    rw [hu] at this;cases this
  unfold RG.full
  rw [this]
 | some j=>
  obtain ⟨e1,e2,e3,e4⟩:=bJ hu
  have e:id-s0.nx=j:=by omega
  simp only
  by_cases ha:Eu rs i j=true
  .rw [Af ha]
   have:D.unp rs s0 (k+1) id=none:=by
    unfold RG.unp
    rw [e,Ae (λhc=>by rw [OY hm,ha] at hc;simp at hc)]
   unfold RG.full
   rw [this]
  .rw [Ae ha]
   have:D.unp rs s0 (k+1) id=some j:=by
    unfold RG.unp
    rw [e,Af ⟨by omega,by omega,e3,by rw [OY hm,e4];simpa using ha⟩]
   unfold RG.full
   rw [this]
   have Nt:j≠i:=λe=>by rw [e,Yk] at e3;cases e3
   simp only [UK Mu (j:=j) (by rw [ht];simp)]
   simp [Mu,Nt]
theorem xw(id:Nat):D.full rs s0 (Eu rs i) k id=match D.unp rs s0 k id with
  | some j=>if Eu rs i j then D.full rs s0 L k id else none
  | none=>D.full rs s0 L k id:=by
 unfold RG.full
 cases hu:D.unp rs s0 k id with
 | none=>rfl
 | some j=>
  simp only
  by_cases ha:Eu rs i j=true
  .rw [Af ha,Af ha,Af (Jx j ha),Bi3 Hx hD hr hi Jx ha]
  .rw [Ae ha,Ae ha]
theorem Bi6(Mu:∀ j,L' j=(j==i||L j))(hm:D.main[k]?=some i)(Yk:D.lay i=none)(ht:D.tgt i=none){u:Upd}(hN:s0.nx+rs.length<=D.N k)(hU:(D.st rs s0 i k).hasU u=true)
  (hH:D.H (k+1)=u.app (D.N k) (D.st rs s0 i k).ho):D.full rs s0 L' (k+1)=u.app (D.N k) (D.full rs s0 L k):=by
 have nO:D.unp rs s0 k (D.N k)=none:=by
  unfold RG.unp
  rw [Ae]
  intro hc;omega
 have bZ:=xw (D:=D) (rs:=rs) (s0:=s0) (L:=L) (k:=k) Hx hD hr hi Jx
 have Ib:(D.st rs s0 i k).ho=D.full rs s0 (Eu rs i) k:=rfl
 rw [Ib] at hH
 funext id
 rw [xx Mu hm Yk ht]
 have dA:∀ id,(match D.unp rs s0 k id with
  | some j=>if Eu rs i j then D.full rs s0 (Eu rs i) k id else if L j then D.cur rs L j else none
  | none=>D.full rs s0 (Eu rs i) k id)=D.full rs s0 L k id:=λid=>by
  rw [bZ id]
  cases hu:D.unp rs s0 k id with
  | none=>rfl
  | some j=>
   simp only
   by_cases ha:Eu rs i j=true
   .rw [Af ha,Af ha]
   .rw [Ae ha];unfold RG.full;rw [hu]
 have yZ:∀ Za,(D.full rs s0 (Eu rs i) k Za).isSome=true->∀ j,D.unp rs s0 k Za=some j->Eu rs i j=true:=λZa h j hj=>by
  rw [bZ,hj] at h
  simp only at h
  split at h
  .assumption
  .cases h
 -- a change at one number
 have Iq:∀ (ho Ns:Nat->Option DObj) (Za:Nat) (x:Option DObj),(∀ j,D.unp rs s0 k Za=some j->Eu rs i j=true)->
   (∀ id,(match D.unp rs s0 k id with
    | some j=>if Eu rs i j then ho id else if L j then D.cur rs L j else none
    | none=>ho id)=Ns id)->
   ∀ id,(match D.unp rs s0 k id with
    | some j=>if Eu rs i j then Gf ho Za x id else if L j then D.cur rs L j else none
    | none=>Gf ho Za x id)=Gf Ns Za x id:=λho Ns Za x h1 h2 id=>by
  by_cases he:id=Za
  .subst he
   rw [Qt,Qt]
   cases hu:D.unp rs s0 k id with
   | none=>rfl
   | some j=>simp only;rw [Af (h1 j hu)]
  .rw [rY _ _ he,rY _ _ he];exact h2 id
 rw [hH]
 cases u with
 | keep=>exact dA id
 | lay o=>exact Iq _ _ _ _ (λj hj=>by rw [nO] at hj;cases hj) dA id
 | wr Za o=>exact Iq _ _ _ _ (yZ Za hU) dA id
 | mv Hr o=>
  cases Hr with
  | none=>exact Iq _ _ _ _ (λj hj=>by rw [nO] at hj;cases hj) dA id
  | some Za=>exact Iq _ _ _ _ (λj hj=>by rw [nO] at hj;cases hj) (Iq _ _ _ _ (yZ Za hU) dA) id
end
def Ur(C:Ctx)(rs:List DR)(s0:DS)(D:RG)(L:Nat->Bool)(k id:Nat):Prop:=id<D.N k/\¬ (C.R id\/(s0.nx<=id/\id<s0.nx+rs.length/\L (id-s0.nx)=false))
theorem gD{rs:List DR}{s0:DS}{D:RG}(Hx:D.OKs rs s0):∀ k,s0.nx+rs.length<=D.N k
 | 0=>by rw [Hx.n0];omega
 | k+1=>Dz (gD Hx k) (Hx.mono k)
theorem A92{C:Ctx}{U:Nat->Prop}{a:Act}{w:World}{o:Oper}{d:DV}{s':DS}{next:Act->World->Prop}{Q:Exit->Act->World->Prop}(Um:∀ c,o.op≠.defer c)(h:OpOk C U a w o d s')
  (Qn:∀ β' w' x,HoldsB C U s' β' a w'->WV C U (s'.vw C) β' w' x d->next (a.put o.dst x) w'):o.wpIn C.F 0 C.P a w next Q:=by
 obtain ⟨nx,w',β',x,h1,h2,h3,h4⟩:=h
 refine ⟨λ_ _=>trivial,?_⟩
 rw [Oper.semAt_plain _ _ _ Um,h1]
 rcases h2 with rfl | ⟨rfl,rfl⟩
 .exact Qn β' w' x h3 h4
 .exact Qn β' w' undef h3 h4
theorem A93{C:Ctx}{a:Act}{w:World}{o:Oper}{f:FuncId}{vs:Array Value}{R:Ending->World->Prop}{next:Act->World->Prop}{Q:Exit->Act->World->Prop}(Um:∀ c,o.op≠.defer c)
  (Fm:(execOp a.eval o).run C.P w=.ok (.enter f vs) w) (hc:Calls C.P f vs w R) (Qn:∀ e w',R e w'->∃ v,e=.returned v/\next (a.put o.dst v) w'):o.wpIn C.F 0 C.P a w next Q:=by
 refine ⟨λ_ _=>trivial,?_⟩
 rw [Oper.semAt_plain _ _ _ Um,Fm,Oper.uponIn_enter]
 refine ⟨λh=>by simp [Ctx.F,Fence.wide] at h,zo (hc.mono ?_)⟩
 intro e w' h
 obtain ⟨v,rfl,hn⟩:=Qn e w' h
 exact hn
theorem B66{C:Ctx}{rs:List DR}{s0:DS}{D:RG}{L L':Nat->Bool}{i k:Nat}{r:DR}{ops:Array Oper}{o:Oper}{a:Act}{w:World}{β:Nat->Option Nat}{next:Act->World->Prop}{Q:Exit->Act->World->Prop}
  (pK:D.OK rs s0 C.P) (hD:Done rs D L k) (hr:rs[i]?=some r) (hi:L i=false) (Jx:∀ j,Eu rs i j=true->L j=true) (Mu:∀ j,L' j=(j==i||L j)) (hR:∀ id,C.R id->id<s0.nx)
  (hc:Oq C.P C.nt true ops o=some r) (hs:HoldsB C (Ur C rs s0 D L k) (D.at_ rs s0 L k) β a w)
  (Qn:∀ k' β' a' w',Done rs D L' k'->HoldsB C (Ur C rs s0 D L' k') (D.at_ rs s0 L' k') β' a' w'->next a' w') :
  ∃ b,Region.wanted o (yielded ops a.tmps)=b/\(b=true->o.wpIn C.F 0 C.P a w next Q)/\(b=false->next (a.put o.dst undef) w):=by
 obtain ⟨hd,oU,Mv⟩:=zn hc
 have Hx:=pK.toOKs
 have Td:=pK.ev i r hr
 unfold RG.ev at Td
 rw [<- Bp5 Hx hD hr hi Jx (k:=k)] at Td
 have Mn:∀ k',D.N k<=D.N k'->∀ id,Ur C rs s0 D L k id->Ur C rs s0 D L' k' id:=λk' hk id ⟨h1,h2⟩=>by
  refine ⟨by omega,λh=>h2 ?_⟩
  rcases h with h | ⟨g1,g2,g3⟩
  .exact .inl h
  .refine .inr ⟨g1,g2,?_⟩
   rw [Mu] at g3
   exact (Kr.1 g3).2
 have aU:i∉D.main->Done rs D L' k:=λhn=>by
  refine ⟨λj hj fT x hx=>?_,hD.le,λq j hq=>?_⟩
  .rw [Mu] at fT ⊢
   rcases Bool.or_eq_true_iff.1 fT with h | h
   .have:j=i:=by simpa using h
    subst this
    rw [Jx x hx];simp
   .rw [hD.cl j hj h x hx];simp
  .have Nt:j≠i:=λe=>hn (by rw [<- e];exact Aw hq)
   rw [Mu];simp only [Dl.2 Nt,Gs]
   exact hD.mn q j hq
 have fU:D.main[k]?=some i->Done rs D L' (k+1):=λhm=>by
  refine ⟨λj hj fT x hx=>?_,by have:=(Aq.1 hm).1;omega,λq j hq=>?_⟩
  .rw [Mu] at fT ⊢
   rcases Bool.or_eq_true_iff.1 fT with h | h
   .have:j=i:=by simpa using h
    subst this
    rw [Jx x hx];simp
   .rw [hD.cl j hj h x hx];simp
  .rw [Mu]
   by_cases Nt:j=i
   .subst Nt
    have:q=k:=UL Hx hD hi Jx hq
    simp;omega
   .simp only [Dl.2 Nt,Gs]
    rw [hD.mn q j hq]
    have:q≠k:=λe=>Nt (by rw [e,hm] at hq;exact (Hc hq).symm)
    omega
 -- what the next state is
 have Re:∀ (k':Nat) (s':DS) (β':Nat->Option Nat) (w':World) (x:Value),Done rs D L' k'->s'.sv=D.sv rs s0 L->s'.ho=D.full rs s0 L' k'->HoldsB C (Ur C rs s0 D L' k') s' β' a w'->WV C (Ur C rs s0 D L' k') (s'.vw C) β' w' x (D.d i)->next (a.put o.dst x) w':=
  λk' s' β' w' x h1 h2 h3 h4 h5=>by
   rw [<- hd]
   obtain ⟨e1,e2⟩:=Bt8 Hx hr Mu k' s' h2 h3
   exact Qn k' β' _ w' h1 ((h4.put r.dst oU h5).congr e1 e2)
 cases hw:(D.at_ rs s0 L k).wanted r.g with
 | none=>rw [hw] at Td;exact Td.elim
 | some b=>
  refine ⟨b,xz hs hc hw,λhb=>?_,λhb=>?_⟩
  .subst hb
   rw [hw] at Td
   simp only at Td
   have Um:∀ c,o.op≠.defer c:=λc LM=>by
    rw [LM,At5] at Mv
    simp only [Option.getD_none] at Mv
    rw [Mv] at Td
    simp only [Ba] at Td
    rcases Td with ⟨k,u,h⟩ | ⟨h1,h2⟩
    .simp at h
    .obtain ⟨_,u,h,_⟩:=h2 k (VS Hx hD hi Jx)
     cases h
   -- calls
   have Ut:∀ (f:FuncId) (vs:List Value) (ds:List DV),D.main[k]?=some i->vs.length=ds.length->(∀ (j:Nat) (v:Value) (d:DV),vs[j]?=some v->ds[j]?=some d->WV C (Ur C rs s0 D L k) ((D.at_ rs s0 L k).vw C) β w v d)->
     Zq C.P f ds (D.st rs s0 i k) (D.d i) (D.H (k+1)) (D.N (k+1))->(Uc C.P f=true->(execOp a.eval o).run C.P w=.ok (.enter f vs.toArray) w)->o.wpIn C.F 0 C.P a w next Q:=by
    intro f vs ds hm hl Cl ⟨Uq,Zh⟩ Fm
    have Yk:=(Hx.mlt k i hm).2.1
    have RJ:=(Hx.mlt k i hm).2.2
    rcases Zh with Zh | ⟨hH,hN,N8,Om⟩
    .
     let hid:Nat->Option DObj:=λid=>match D.unp rs s0 k id with
      | some j=>if L j=true/\Eu rs i j=false then D.cur rs L j else none
      | none=>none
     have Xf:(D.at_ rs s0 L k).ho=Lc hid (D.full rs s0 (Eu rs i) k):=by
      funext id
      show D.full rs s0 L k id=_
      unfold Lc
      rw [xw (L:=L) Hx hD hr hi Jx]
      simp only [hid]
      cases hu:D.unp rs s0 k id with
      | none=>simp only;cases D.full rs s0 L k id <;> rfl
      | some j=>
       simp only
       by_cases ha:Eu rs i j=true
       .rw [Af ha]
        have:D.full rs s0 L k id=D.cur rs L j:=by unfold RG.full;rw [hu];simp [Jx j ha]
        rw [this]
        obtain ⟨o',Ns⟩:=Dw.1 (Bi1 (rs:=rs) (L:=L) (bJ hu).2.2.1)
        rw [Ns]
       .rw [Ae ha]
        simp only
        unfold RG.full;rw [hu]
        have uA:Eu rs i j=false:=by simpa using ha
        simp [uA]
     have P7:∀ id o,hid id=some o->D.full rs s0 (Eu rs i) k id=none:=λid o' h=>by
      simp only [hid] at h
      split at h
      .rename_i j hu
       split at h
       .rename_i Km
        unfold RG.full;rw [hu];simp [Km.2]
       .cases h
      .cases h
     have Tz:=Bh7 (vis:=D.full rs s0 (Eu rs i) k) (hid:=hid) (R:=λid=>C.R id\/(s0.nx<=id/\id<s0.nx+rs.length/\L (id-s0.nx)=false)) (K:=λs' d'=>d'=D.d i/\s'.ho=D.H (k+1)/\s'.nx=D.N (k+1)) (f:=f) (ds:=ds) (vs:=vs)
      hs (λ_=>Dg) (λid h=>by
       have:=gD Hx k
       show id<D.N k
       rcases h with h | h
       .have:=hR id h;omega
       .omega) Xf P7 hl Cl Zh
     refine A93 Um (Fm Uq) Tz ?_
     rintro e w' ⟨v,d,Ns,Bm,β',rfl,⟨rfl,iD,Tw⟩,Sh,_,hh,hv⟩
     simp only at iD Tw
     subst iD Tw
     refine ⟨v,rfl,?_⟩
     have hg:∀ id,(id<D.N (k+1)/\¬ (C.R id\/(s0.nx<=id/\id<s0.nx+rs.length/\L (id-s0.nx)=false)))->Ur C rs s0 D L' (k+1) id:=λid ⟨h1,h2⟩=>
      ⟨h1,λh=>h2 (h.imp_right λ⟨g1,g2,g3⟩=>⟨g1,g2,by rw [Mu] at g3;exact (Kr.1 g3).2⟩)⟩
     refine Re (k+1) ⟨D.sv rs s0 L,Lc hid (D.H (k+1)),D.N (k+1)⟩ β' w' v (fU hm) rfl ?_ (hh.grow hg) (hv.grow hg)
     funext id
     rw [xx Mu hm Yk RJ]
     show Lc hid (D.H (k+1)) id=_
     unfold Lc
     cases hu:D.unp rs s0 k id with
     | none=>
      have:hid id=none:=by simp only [hid,hu]
      rw [this];simp only;cases D.H (k+1) id <;> rfl
     | some j=>
      simp only
      by_cases ha:Eu rs i j=true
      .rw [Af ha]
       have:hid id=none:=by simp only [hid,hu,ha];simp
       rw [this];cases D.H (k+1) id <;> rfl
      .have uA:Eu rs i j=false:=by simpa using ha
       have KQ:hid id=if L j=true then D.cur rs L j else none:=by simp only [hid,hu,uA,and_true]
       rw [Ae ha,KQ]
       by_cases fT:L j=true
       .obtain ⟨o',Ns⟩:=Dw.1 (Bi1 (rs:=rs) (L:=L) (bJ hu).2.2.1)
        have:=Sh id o' (by rw [KQ,Af fT,Ns])
        rw [this]
       .have cH:(⟨D.sv rs s0 L,Lc hid (D.H (k+1)),D.N (k+1)⟩:DS).vw C id=none:=hh.hh.fr id λh=>h.2 (.inr ⟨by have:=(bJ hu).1;omega,by have:=bJ hu;omega,by
         have e:id-s0.nx=j:=by have:=(bJ hu).1;omega
         rw [e];simpa using fT⟩)
        have:D.H (k+1) id=none:=by
         simp only [DS.vw,Lc] at cH
         cases hx:D.H (k+1) id with
         | none=>rfl
         | some y=>rw [hx] at cH;cases cH
        rw [this]
    .
     refine A93 Um (Fm Uq) (wh (R:=λd'=>d'=D.d i) hs hl (λj v d hv hd=>?_) Om) ?_
     .have h0:=N8 d (Aw hd)
      exact VU ((Cl j v d hv hd).2.1 λid hid=>by rw [h0] at hid;cases hid) h0
     .rintro e w' ⟨v,d,rfl,rfl,hh,hv⟩
      refine ⟨v,rfl,?_⟩
      have mj:D.N k<=D.N (k+1):=Hx.mono k
      have hf:=Bi6 (L:=L) (L':=L') (u:=.keep) Hx hD hr hi Jx Mu hm Yk RJ (gD Hx k) rfl hH
      exact Re (k+1) (D.at_ rs s0 L k) β w' v (fU hm) rfl hf.symm (hh.grow (Mn _ mj)) (hv.grow (Mn _ mj))
   have Du:∀ (args:List Operand),(∀ x∈args,x∈r.op.opnds)->Rp (D.st rs s0 i k) r->∀ (j:Nat) (v:Value) (d:DV),(args.map a.eval)[j]?=some v->(args.map (D.st rs s0 i k).rv)[j]?=some d->WV C (Ur C rs s0 D L k) ((D.at_ rs s0 L k).vw C) β w v d:=by
    intro args Oe Xx j v d hv cX
    simp only [Dr,Ac] at hv cX
    obtain ⟨x,hx,rfl⟩:=hv
    obtain ⟨y,hy,rfl⟩:=cX
    rw [hx] at hy;cases hy
    rw [<- (UT Hx hD hr hi Jx Xx).rv x (Oe x (Aw hx))]
    exact hs.rvw x
   cases Qg:dS C.P o.op with
   | none=>
    exfalso
    rw [Qg] at Mv
    simp only [Option.getD_none] at Mv
    rw [Mv] at Td
    rcases Td with ⟨k,u,h⟩ | ⟨h1,h2⟩
    .simp [Ba] at h
    .obtain ⟨_,u,h,_⟩:=h2 k (VS Hx hD hi Jx)
     cases h
   | some op=>
    rw [Qg] at Mv
    simp only [Hq] at Mv
    -- operations that are no calls
    have tI:((∃ k u,D.main[k]?=some i/\Rp (D.st rs s0 i k) r/\(D.st rs s0 i k).hasU u=true/\Ba (D.N k) (D.st rs s0 i k) op=some (D.d i,u)/\D.H (k+1)=u.app (D.N k) (D.st rs s0 i k).ho/\D.N (k+1)=if u.new then D.N k+1 else D.N k)\/
      (i∉D.main/\∀ k,D.may rs i k->Rp (D.st rs s0 i k) r/\∃ u,Ba (s0.nx+i) (D.st rs s0 i k) op=some (D.d i,u)/\match u with
       | .keep=>D.lay i=none/\D.tgt i=none
       | .lay o=>D.lay i=some o/\D.tgt i=none
       | .wr id o=>∃ j,D.unp rs s0 k id=some j/\Eu rs i j=true/\D.tgt i=some j/\D.ob i=o/\D.lay i=none
       | _=>False))->o.wpIn C.F 0 C.P a w next Q:=by
     rintro (⟨k0,u,hm,Xx,hU,hex,hH,hN⟩ | ⟨V8,Ju⟩)
     .obtain rfl:=UL Hx hD hi Jx hm
      have pI:=UT Hx hD hr hi Jx Xx
      rw [Mv] at pI
      have P2:Ba (D.N k0) (D.at_ rs s0 L k0) op=some (D.d i,u):=by rw [VC pI];exact hex
      have Ph:=zp hs (nid:=D.N k0) (λh=>by have:=h.1;omega) Qg P2
      have Yk:=(Hx.mlt k0 i hm).2.1
      have RJ:=(Hx.mlt k0 i hm).2.2
      refine A92 Um Ph λβ' w' x h1 h2=>?_
      have hg:∀ id,Ux (Ur C rs s0 D L k0) (D.N k0) u id->Ur C rs s0 D L' (k0+1) id:=λid h=>by
       have hle:=Hx.mono k0
       have key:Un (Ur C rs s0 D L k0) (D.N k0) id->D.N (k0+1)=D.N k0+1->Ur C rs s0 D L' (k0+1) id:=λh mj=>by
        rcases h with h | rfl
        .exact Mn (k0+1) hle id h
        .have Xj:=gD Hx k0
         refine ⟨by omega,λh=>?_⟩
         rcases h with h | h
         .have:=hR _ h;omega
         .omega
       cases u with
       | keep=>exact Mn (k0+1) hle id h
       | wr _ _=>exact Mn (k0+1) hle id h
       | lay _=>exact key h (by rw [hN];rfl)
       | mv _ _=>exact key h (by rw [hN];rfl)
      exact Re (k0+1) _ β' w' x (fU hm) rfl (Bi6 (L:=L) (L':=L') Hx hD hr hi Jx Mu hm Yk RJ (gD Hx k0) hU hH).symm (h1.grow hg) (h2.grow hg)
     .obtain ⟨Xx,u,hex,hu⟩:=Ju k (VS Hx hD hi Jx)
      have pI:=UT Hx hD hr hi Jx Xx
      rw [Mv] at pI
      have P2:Ba (s0.nx+i) (D.at_ rs s0 L k) op=some (D.d i,u):=by rw [VC pI];exact hex
      have Sj:¬ Ur C rs s0 D L k (s0.nx+i):=λh=>h.2 (.inr ⟨by omega,by have:=Sv hr;omega,by
       have e:s0.nx+i-s0.nx=i:=by omega
       rw [e];exact hi⟩)
      have Ph:=zp hs (nid:=s0.nx+i) Sj Qg P2
      refine A92 Um Ph λβ' w' x h1 h2=>?_
      cases u with
      | keep=>exact Re k _ β' w' x (aU V8) rfl (US Mu hu.1 hu.2).symm (h1.grow (Mn k (Ag _))) (h2.grow (Mn k (Ag _)))
      | lay ob=>
       have hg:∀ id,Ux (Ur C rs s0 D L k) (s0.nx+i) (.lay ob) id->Ur C rs s0 D L' k id:=λid h=>by
        rcases h with h | rfl
        .exact Mn k (Ag _) id h
        .have Xj:=gD Hx k
         have:=Sv hr
         refine ⟨by omega,λh=>?_⟩
         rcases h with h | h
         .have:=hR _ h;omega
         .have e:s0.nx+i-s0.nx=i:=by omega
          have:=h.2.2
          rw [e,Mu] at this
          simp at this
       exact Re k _ β' w' x (aU V8) rfl (Bi5 Hx hD hr hi Mu hu.1 hu.2).symm (h1.grow hg) (h2.grow hg)
      | wr id ob=>
       obtain ⟨j,g1,g2,g3,rfl,g5⟩:=hu
       exact Re k _ β' w' x (aU V8) rfl (Bt9 Hx hD hr hi Jx Mu g1 g2 g3 g5).symm (h1.grow (Mn k (Ag _))) (h2.grow (Mn k (Ag _)))
      | mv _ _=>exact hu.elim
    rw [Mv] at Td
    split at Td
    .rename_i f args
     obtain ⟨k0,hm,Xx,Zh⟩:=Td
     obtain rfl:=UL Hx hD hi Jx hm
     obtain ⟨c,ho,Hn,rfl⟩:=Ax4 Qg
     refine Ut f (c.args.toList.map a.eval) (c.args.toList.map (D.st rs s0 i k0).rv) hm (by simp) (Du _ (λx hx=>by rw [Mv];exact hx) Xx) Zh λUq=>?_
     simp [execOp,ho,resolve,Hn,Deferred.ofValue,Act.eval,invoke,AK Uq,zm]
    .rename_i tb x args
     obtain ⟨k0,f,fr,cs,hm,Xx,iI,Zh⟩:=Td
     obtain rfl:=UL Hx hD hi Jx hm
     obtain ⟨c,ho,rfl,Hn⟩:=A89 Qg
     have pI:=UT Hx hD hr hi Jx Xx
     rw [<- pI.ev x (by rw [Mv];simp [DOp.opnds])] at iI
     rcases Hn with ⟨rfl,Hn⟩ | ⟨name,rfl,Hn⟩
     .have hx:=A08 iI
      simp only at hx
      have h1:=hs.ev x
      rw [hx] at h1
      obtain ⟨us,vs,e1,Zf,lI,Zd,nX⟩:=wk h1
      refine Ut _ (us++c.args.toList.map a.eval++vs) (fr++c.args.toList.map (D.st rs s0 i k0).rv++cs) hm (by simp [Zf,lI]) (TY (by simp [Zf]) (TY Zf (λj v d hv cX=>?_) (Du _ (λy hy=>by rw [Mv];simp [DOp.opnds,hy]) Xx)) λj v d hv cX=>?_) Zh λUq=>?_
      .exact hs.evp x (Zd _ v d hv cX) λid hid=>by rw [hx,DV.refs,DV.refsL,DV.refs];exact Cj _ (DV.refsL_mem (Aw cX) hid)
      .exact hs.evp x (nX _ v d hv cX) λid hid=>by rw [hx,DV.refs,DV.refsL];exact Ce _ (DV.refsL_mem (Aw cX) hid)
      .have h3:(us.toArray++(c.args.map a.eval++vs.toArray):Array Value)=(us++(c.args.toList.map a.eval++vs)).toArray:=by apply Dj;simp
       simp [execOp,ho,resolve,Hn,e1,Deferred.ofValue,invoke]
       rw [h3]
       exact AK Uq _ _
     .simp only [DV.tgt] at iI
      split at iI
      .rename_i T e hx
       obtain ⟨f',Ta,II⟩:=Ac.1 iI
       cases II
       have h1:=hs.ev x
       rw [hx] at h1
       obtain ⟨u,e1,Cl⟩:=E7 h1
       refine Ut _ ([u]++c.args.toList.map a.eval) ([e]++c.args.toList.map (D.st rs s0 i k0).rv ++ []) hm (by simp) (λj v d hv cX=>?_) Zh λUq=>?_
       .rw [Da] at cX
        cases j with
        | zero=>
         simp at hv cX
         subst hv cX
         exact hs.evp x Cl λid hid=>by rw [hx,DV.refs];exact hid
        | succ j=>exact Du c.args.toList (λy hy=>by rw [Mv];simp [DOp.opnds];exact .inr (by simpa using hy)) Xx j v d hv cX
       .have h3:=Ao8 (w:=w) Ta Uq u (c.args.map a.eval)
        have h4:(#[u]++c.args.map a.eval:Array Value)=([u]++c.args.toList.map a.eval).toArray:=by apply Dj;simp
        rw [h4] at h3
        have h5:Array.extract (#[a.eval x]++c.args.map a.eval) 1 (#[a.eval x]++c.args.map a.eval).size=c.args.map a.eval:=by
         apply Dj
         simp [Ss]
         exact Bq (by simp)
        have h6:(#[a.eval x]++c.args.map a.eval:Array Value)[0]?=some (.iface T u):=by rw [e1];first | rfl | simp [Yc]
        simp only [execOp,ho,resolve,Hn,Sem.run_bind,Sem.run_pure,Result.andThen_ok,invoke,h6,h5,h3]
      .cases iI
    .exact tI Td
  .subst hb
   rw [hw] at Td
   simp only at Td
   obtain ⟨h1,h2,zZ,h3⟩:=Td
   exact Re k (D.at_ rs s0 L k) β w undef (aU h3) rfl (US Mu h2 zZ).symm (hs.grow (Mn k (Ag _))) (by rw [h1];exact WV.v undef)
end Go.DD

/- Regions that draw their order, third part: every order. -/
namespace Go.DD
open Go.RowKit (Below)
def Lf(L:Array Bool)(j:Nat):Bool:=(L.toList[j]?).getD false
theorem B67{C:Ctx}{ops:Array Oper}{rs:List DR}{s0:DS}{D:RG}{Q:Exit->DS->Prop}(V7:ops.toList.mapM (Oq C.P C.nt true ops)=some rs)(pK:D.OK rs s0 C.P)(hR:∀ id,C.R id->id<s0.nx)
  (hQ:Q .normal (D.at_ rs s0 (λ_=>true) D.main.length)) :
  ∀ (fuel:Nat) (L:Array Bool) (k:Nat) (a:Act) (w:World) (β:Nat->Option Nat),L.size=ops.size->sE L.toList=fuel->
   (∀ (i:Nat) (r:DR),L.toList[i]?=some true->rs[i]?=some r->∀ j∈r.pre,L.toList[j]?=some true)->Done rs D (Lf L) k->HoldsB C (Ur C rs s0 D (Lf L) k) (D.at_ rs s0 (Lf L) k) β a w->wpAnyIn C.F 0 C.P .any ops (Vc C Q) fuel L a w:=by
 have Hx:=pK.toOKs
 obtain ⟨hlen,Wc⟩:=mapM_some V7
 replace hlen:rs.length=ops.size:=by rw [hlen];exact Cv
 have Ul:=Hx.pre
 have zU:∀ (L:Array Bool) (k:Nat) (a:Act) (w:World) (β:Nat->Option Nat),L.size=ops.size->(∀ b∈L.toList,b=true)->Done rs D (Lf L) k->HoldsB C (Ur C rs s0 D (Lf L) k) (D.at_ rs s0 (Lf L) k) β a w->Vc C Q .normal a w:=by
  intro L k a w β hL Ju hD hs
  have SH:∀ j,j<rs.length->Lf L j=true:=λj hj=>by
   have Wb:j<L.toList.length:=by simp;omega
   simp only [Lf,Aa Wb,Hq]
   exact Ju _ (Be _)
  have hk:k=D.main.length:=by
   rcases Cr k D.main.length with h | h
   .have hm:D.main[k]?=some D.main[k]:=Aa h
    have:=(hD.mn k _ hm).1 (SH _ (Hx.mlt k _ hm).1)
    omega
   .have:=hD.le;omega
  subst hk
  have e1:(D.at_ rs s0 (λ_=>true) D.main.length).sv=(D.at_ rs s0 (Lf L) D.main.length).sv:=by
   funext t
   show D.sv rs s0 (λ_=>true) t=D.sv rs s0 (Lf L) t
   unfold RG.sv
   cases hp:rs.findIdx? (λr=>r.dst==some t) with
   | none=>rfl
   | some p=>simp [SH p (Hi.1 hp).1]
  have e2:(D.at_ rs s0 (λ_=>true) D.main.length).ho=(D.at_ rs s0 (Lf L) D.main.length).ho:=by
   funext id
   show D.full rs s0 (λ_=>true) D.main.length id=D.full rs s0 (Lf L) D.main.length id
   unfold RG.full
   cases hu:D.unp rs s0 D.main.length id with
   | none=>rfl
   | some j=>
    have hc:D.cur rs (λ_=>true) j=D.cur rs (Lf L) j:=by
     unfold RG.cur
     rw [PS (L:=Lf L) (L':=λ_=>true) λw hw _=>(SH w hw).symm]
    simp [SH j (bJ hu).2.1,hc]
  have Xj:=gD Hx D.main.length
  refine ⟨_,hQ,λid h=>by have:=hR id h;show id<D.N D.main.length;omega,β,(hs.congr e1 e2).grow λid ⟨h1,h2⟩=>⟨h1,λh=>h2 (.inl h)⟩⟩
 have M4:∀ (L:Array Bool),L.size=ops.size->Region.ready .any ops L=[]->∀ b∈L.toList,b=true:=by
  intro L hL hr
  have key:∀ i,i<L.size->L.toList[i]?=some true:=by
   intro i
   induction i using Nat.strongRecOn with
   | _ i ih=>
    intro hi
    rw [Aa (by simpa using hi)]
    cases hb:L.toList[i]'(by simpa using hi) with
    | true=>rfl
    | false=>
     exfalso
     have Lw:i∈Region.ready .any ops L:=by
      unfold Region.ready
      rw [Dp]
      refine ⟨by simp;omega,?_⟩
      have ho:ops[i]?=some ops[i]:=Lq (by omega)
      simp only [ho,Ca,Hq,Bo]
      refine ⟨?_,?_⟩
      .have:L[i]?=some false:=by rw [<- Dk,Aa (by simpa using hi),hb]
       simp [Fs,this]
      .rw [Array.all_eq_true']
       intro e he
       rw [Ii]
       by_cases Yl:Region.binds .any e=true
       .refine .inr ?_
        have fI:=Wc i (ops[i]) (rs[i]'(by omega)) (by rw [Dk];exact ho) (Aa (by omega))
        have JI:e.on∈(rs[i]'(by omega)).pre:=by
         unfold Oq at fI
         split at fI
         .split at fI
          .rw [<- Hc fI]
           simp only [Gl]
           rw [Sc,Gq]
           exact ⟨e,by simpa using he,by simp [Yl]⟩
          .cases fI
         .cases fI
        have Et:=Ul i _ (Aa (by omega)) e.on JI
        have:=ih e.on Et (by omega)
        rw [Dk] at this
        simp [Fs,this]
       .simp [Yl]
     rw [hr] at Lw;cases Lw
  intro b hb
  obtain ⟨i,hi,rfl⟩:=Br.1 hb
  have:=key i (by simpa using hi)
  rw [Aa hi] at this
  exact Hc this
 intro fuel
 induction fuel with
 | zero=>
  intro L k a w β hL hu Tz hD hs
  have Ju:=Bi0 _ hu
  refine ⟨?_,zU L k a w β hL Ju hD hs⟩
  unfold Region.ready
  rw [List.filter_eq_nil_iff]
  intro i hi
  have oM:i<L.size:=by simp at hi;omega
  have:L[i]?=some true:=by rw [<- Dk,Aa (by simpa using oM),Ju _ (Be _)]
  simp [Fs,this]
 | succ fuel ih=>
  intro L k a w β hL hu Tz hD hs
  refine ⟨λhr=>zU L k a w β hL (M4 L hL hr) hD hs,λi hi=>?_⟩
  unfold Region.ready at hi
  rw [Dp] at hi
  obtain ⟨W4,Ic⟩:=hi
  have lJ:i<ops.size:=by simpa using W4
  have ho:ops[i]?=some ops[i]:=Lq lJ
  simp only [ho,Ca,Hq,Bo] at Ic
  obtain ⟨hiL,hiE⟩:=Ic
  have mq:L.toList[i]?=some false:=by
   have Et:i<L.size:=by omega
   rw [Dk,Lq Et]
   simp [Fs,Lq Et] at hiL
   simp [hiL]
  have JE:rs[i]?=some (rs[i]'(by omega)):=Aa (by omega)
  generalize (rs[i]'(by omega))=r at JE
  have fO:=Wc i ops[i] r (by rw [Dk];exact ho) JE
  have zD:∀ j∈r.pre,L.toList[j]?=some true:=by
   intro j hj
   have:∃ ed∈ops[i].after,Region.binds .any ed=true/\ed.on=j:=by
    unfold Oq at fO
    split at fO
    .split at fO
     .cases fO
      simp only [Gl] at hj
      rw [Sc,Gq] at hj
      obtain ⟨ed,h1,h2⟩:=hj
      split at h2
      .rename_i Yl;cases h2;exact ⟨ed,by simpa using h1,Yl,rfl⟩
      .cases h2
     .cases fO
    .cases fO
   obtain ⟨ed,h1,h2,rfl⟩:=this
   rw [Array.all_eq_true'] at hiE
   have:=hiE ed h1
   rw [h2] at this
   simp only [Bool.not_true,Gs] at this
   rw [Dk]
   cases hq:L[ed.on]? with
   | none=>simp [Fs,hq] at this
   | some b=>simp [Fs,hq] at this;simp [this]
  have Jx:∀ j,Eu rs i j=true->Lf L j=true:=by
   intro j hj
   have oM:i<(Kx rs []).length:=by rw [UM];simp;omega
   have hl:(Kx rs [])[i]?=some (Uv rs i):=by simp [Uv,Aa oM]
   have:=Bd8 Ul Tz i r _ JE zD hl j (by simpa [Eu] using hj)
   simp [Lf,this]
  have MD:∀ j,Lf (L.setIfInBounds i true) j=(j==i||Lf L j):=λj=>by
   simp only [Lf,Ks,List.getElem?_set]
   by_cases Nu:i=j
   .subst Nu
    have:i<L.size:=by omega
    simp [this]
   .simp [Nu,Eo Nu]
  obtain ⟨b,hw,ht,hf⟩:=B66 (Q:=Vc C Q) (next:=λa' w'=>wpAnyIn C.F 0 C.P .any ops (Vc C Q) fuel (L.setIfInBounds i true) a' w') pK hD JE (by simp [Lf,mq]) Jx MD hR fO hs (λk' β' a' w' rG hh=>by
   refine ih (L.setIfInBounds i true) k' a' w' β' (by simpa using hL) ?_ ?_ rG hh
   .rw [Ks]
    have:=Bt7 L.toList i mq
    omega
   .intro k rk hk fk j hj
    rw [Ks] at hk ⊢
    rw [List.getElem?_set] at hk ⊢
    have oA:L.toList[j]?=some true:=by
     by_cases hik:i=k
     .subst hik;rw [JE] at fk;cases fk;exact zD j hj
     .rw [Ae hik] at hk;exact Tz k rk hk fk j hj
    by_cases Nu:i=j
    .subst Nu;rw [mq] at oA;cases oA
    .rw [Ae Nu];exact oA)
  unfold wpOpIn
  rw [ho]
  simp only
  rw [hw]
  cases b with
  | true=>simp only [Gl];exact ht rfl
  | false=>
   simp only [Hv,Kp]
   exact ⟨λ_ _=>trivial,hf rfl⟩
theorem DW.regd{C:Ctx}{Q:Exit->DS->Prop}{s:DS}{rs:List DR}{info:RI}(D:RG)(hm:C.P.follows .mixedOrders=true)(Hx:D.OK rs s C.P)(h:Q .normal (D.at_ rs s (λ_=>true) D.main.length)):DW C (.reg true rs info) Q s:=by
 intro code hc a w ⟨hR,β,hs⟩
 obtain ⟨id,os,rfl,hl,_⟩:=yf hc
 refine wpIn_region_any hm ?_
 have fG:HoldsB C (Us C s.nx) s β a { w with drawn:=w.drawn+1 }:=hs.keep ⟨rfl,rfl,rfl,Ag _,λ_ _=>rfl⟩
 have SI:∀ j,Lf (Array.replicate os.size false) j=false:=λj=>by
  simp only [Lf,Wr,Vo]
  split <;> rfl
 refine B67 hl Hx hR h os.size _ 0 a _ β (by simp) ?_ (λi r hi=>?_) ⟨λi _ hi=>(by rw [SI] at hi;cases hi),Fo _,λq j _=>(by rw [SI];simp)⟩ ?_
 .simp only [Wr]
  generalize os.size=n
  induction n with
  | zero=>rfl
  | succ n ih=>simp [Ix,sE,ih];omega
 .rw [Wr,Vo] at hi
  split at hi <;> simp at hi
 .refine (fG.grow λid hi=>?_).congr ?_ ?_
  .refine ⟨by have:=hi.1;rw [Hx.n0];omega,λh=>?_⟩
   rcases h with h | h
   .exact hi.2 h
   .have:=hi.1;omega
  .funext t
   show D.sv rs s _ t=s.sv t
   unfold RG.sv
   split
   .rw [SI];rfl
   .rfl
  .funext id
   show D.full rs s _ 0 id=s.ho id
   unfold RG.full
   cases hu:D.unp rs s 0 id with
   | none=>simp only;rw [Hx.h0]
   | some j=>
    simp only
    rw [SI]
    have h1:s.vw C id=none:=hs.hh.fr id λh=>by have:=(bJ hu).1;have:=h.1;omega
    have:s.ho id=none:=by
     cases hx:s.ho id with
     | none=>rfl
     | some o=>rw [bL hx] at h1;cases h1
    rw [this];rfl
end Go.DD

/- An evaluator of deep code on closed states, laid out so that the kernel runs it: slots by paths, operations as functions, integers forced. -/
namespace Go.DD
inductive Pa where
 | o
 | l (p:Pa)
 | r (p:Pa)
def Ug:Nat->Nat->Pa
 | 0,_=>.o
 | f+1,k=>match k with
  | 0=>.o
  | k+1=>if k % 2=0 then .l (Ug f (k / 2)) else .r (Ug f (k / 2))
def Cq(k:Nat):Pa:=Ug k k
def gP{α:Type}(p:Pa):Tr α->Option α:=
 Pa.rec (motive:=λ_=>Tr α->Option α) (λt=>Tr.rec (motive:=λ_=>Option α) none (λ_ v _ _ _=>v) t)
  (λ_ ih t=>Tr.rec (motive:=λ_=>Option α) none (λl _ _ _ _=>ih l) t) (λ_ ih t=>Tr.rec (motive:=λ_=>Option α) none (λ_ _ r _ _=>ih r) t) p
def sP{α:Type}(p:Pa)(v:Option α):Tr α->Tr α:=
 Pa.rec (motive:=λ_=>Tr α->Tr α) (λt=>Tr.rec (motive:=λ_=>Tr α) (.n .e v .e) (λl _ r _ _=>.n l v r) t)
  (λ_ ih t=>Tr.rec (motive:=λ_=>Tr α) (.n (ih .e) none .e) (λl x r _ _=>.n (ih l) x r) t) (λ_ ih t=>Tr.rec (motive:=λ_=>Tr α) (.n .e none (ih .e)) (λl x r _ _=>.n l x (ih r)) t) p
def gN{α:Type}(t:Tr α):Nat->Option α:=
 Tr.rec (motive:=λ_=>Nat->Option α) (λ_=>none) (λ_ v _ il ir k=>Nat.rec (motive:=λ_=>Option α) v (λj _=>Bool.rec (motive:=λ_=>Option α) (ir (Nat.div j 2)) (il (Nat.div j 2)) (Nat.beq (Nat.mod j 2) 0)) k) t
def sN{α:Type}(f:Nat)(v:Option α):Tr α->Nat->Tr α:=
 Nat.rec (motive:=λ_=>Tr α->Nat->Tr α) (λt _=>Tr.rec (motive:=λ_=>Tr α) (.n .e v .e) (λl _ r _ _=>.n l v r) t)
  (λ_ ih t k=>Nat.rec (motive:=λ_=>Tr α) (Tr.rec (motive:=λ_=>Tr α) (.n .e v .e) (λl _ r _ _=>.n l v r) t)
   (λj _=>Bool.rec (motive:=λ_=>Tr α) (Tr.rec (motive:=λ_=>Tr α) (.n .e none (ih .e (Nat.div j 2))) (λl x r _ _=>.n l x (ih r (Nat.div j 2))) t)
    (Tr.rec (motive:=λ_=>Tr α) (.n (ih .e (Nat.div j 2)) none .e) (λl x r _ _=>.n (ih l (Nat.div j 2)) x r) t) (Nat.beq (Nat.mod j 2) 0)) k) f
def Ka{α:Type}(t:Tr α)(k:Nat)(v:Option α):Tr α:=sN k v t k
structure ES where
 sl:Tr DV
 hp:Tr DObj
 nx:Nat
 deriving Inhabited
def ES.ds(es:ES):DS:=⟨λt=>(es.sl.get t).getD .any,es.hp.get,es.nx⟩
inductive EO where
 | t (p:Pa)
 | c (d:DV)
def EO.of:Operand->EO
 | .tmp u=>.t (Cq u)
 | .const x=>.c (Qf x)
 | .func f=>.c (.fn (.func f) [.tup []])
 | .global g=>.c (X3 g)
def Ad(es:ES)(x:EO):DV:=EO.rec (motive:=λ_=>DV) (λp=>Option.rec (motive:=λ_=>DV) .any (λd=>d) (gP p es.sl)) (λd=>d) x
def Rm{α:Type}(x:Option α):Bool:=Option.rec (motive:=λ_=>Bool) false (λ_=>true) x
def Uz(d:DV):List Nat:=DV.casesOn (motive_1:=λ_=>List Nat) d [] (λ_=>[]) (λcs=>DV.refsL cs) (λcs=>DV.refsL cs) (λ_ _=>[]) (λ_=>[]) (λ_ cs=>DV.refsL cs) (λ_ d=>DV.refs d)
 (λid _ _ _=>[id]) (λid _=>[id]) (λid=>[id]) (λid=>[id])
def Tp{α:Type}(l:List α)(f:α->Bool):Bool:=List.rec (motive:=λ_=>Bool) true (λa _ ih=>Bool.rec (motive:=λ_=>Bool) false ih (f a)) l
def Fv{α:Type}(b:Bool)(x y:α):α:=Bool.rec (motive:=λ_=>α) y x b
def Cg(hp:Tr DObj)(d:DV):DV:=Fv (Tp (Uz d) λid=>Rm (gN hp id)) d .any
def My(es:ES)(x:EO):DV:=EO.rec (motive:=λ_=>DV) (λp=>Cg es.hp (Option.rec (motive:=λ_=>DV) .any (λd=>d) (gP p es.sl))) (λd=>d) x
def aX{α:Type}(n:Nat)(k:Nat->α):α:=Nat.rec (motive:=λ_=>α) (k 0) (λm _=>k (m+1)) n
def uz{α:Type}(n:Int)(k:Int->α):α:=Int.rec (motive:=λ_=>α) (λm=>aX m λm=>k (.ofNat m)) (λm=>aX m λm=>k (.negSucc m)) n
def cV{α:Type}(d:DV)(f:Value->α)(e:α):α:=DV.casesOn (motive_1:=λ_=>α) d e f (λ_=>e) (λ_=>e) (λ_ _=>e) (λ_=>e) (λ_ _=>e) (λ_ _=>e) (λ_ _ _ _=>e) (λ_ _=>e) (λ_=>e) (λ_=>e)
def dJ{α:Type}(x:Value)(fb:Bool->α)(fi:IntKind->Int->α)(fs:ByteArray->α)(e:α):α:=
 Value.casesOn (motive_1:=λ_=>α) x fb fi (λ_ _=>e) (λ_ _ _=>e) fs (λ_=>e) (λ_ _ _=>e) (λ_=>e) (λ_=>e) (λ_ _ _=>e) e (λ_ _=>e) e (λ_=>e) (λ_=>e)
def Yg(x:Option Value):Option DV:=Option.rec (motive:=λ_=>Option DV) none (λv=>dJ v (λb=>Bool.rec (motive:=λ_=>Option DV) (some (.v (.bool false))) (some (.v (.bool true))) b) (λk n=>uz n λn=>some (.v (.int k n))) (λs=>some (.v (.string s))) (some (.v v))) x
abbrev XP:Type:=ES->Option DV
abbrev XU:Type:=ES->Nat->Option (DV×Upd)
def Ar(op:BinOp)(x y:EO):XP:=λes=>cV (Ad es x) (λv=>cV (Ad es y) (λw=>
 dJ v (λ_=>none) (λk a=>dJ w (λ_=>none) (λk' b=>Yg (Fv (Qm op) (qO op k a b) (Fv (Nat.beq k.ctorIdx k'.ctorIdx) (Qp op k a b) none))) (λ_=>none) none) (λs=>dJ w (λ_=>none) (λ_ _=>none) (λs'=>Yg (dK op s s')) none) none) none) none
def Co(c x y:EO):XP:=λes=>cV (Ad es c) (λv=>dJ v (λb=>some (Fv b (Ad es x) (Ad es y))) (λ_ _=>none) (λ_=>none) none) none
def Nz(op:UnOp)(x:EO):XP:=λes=>cV (Ad es x) (λv=>Yg (CB op (.v v))) none
def Xs{α:Type}(hp:Tr DObj)(id:Nat)(f:TypeId->List DV->α)(e:α):α:=
 Option.rec (motive:=λ_=>α) e (λo=>DObj.casesOn (motive:=λ_=>α) o f (λ_ _=>e) (λ_=>e) (λ_ _=>e) (λ_ _ _ _=>e)) (gN hp id)
def Lk{α:Type}(n:Nat)(l:List α):List α:=Nat.rec (motive:=λ_=>List α->List α) (λl=>l) (λ_ ih l=>List.rec (motive:=λ_=>List α) [] (λ_ t _=>ih t) l) n l
def Wu{α:Type}(n:Nat)(l:List α):List α:=Nat.rec (motive:=λ_=>List α->List α) (λ_=>[]) (λ_ ih l=>List.rec (motive:=λ_=>List α) [] (λa t _=>a::ih t) l) n l
def Sx(k:Option Nat)(cs:List DV):Option DV:=Option.rec (motive:=λ_=>Option DV) (List.rec (motive:=λ_=>Option DV) none (λc _ _=>some c) cs) (λn=>Fv (Nat.ble n cs.length) (some (.agg (Wu n cs))) none) k
def kO{α:Type}(d:DV)(fi:List DV->α)(fp:Nat->Nat->α)(e:α):α:=DV.casesOn (motive_1:=λ_=>α) d e (λ_=>e) (λ_=>e) (λ_=>e) (λ_ _=>e) fi (λ_ _=>e) (λ_ _=>e) (λ_ _ _ _=>e) fp (λ_=>e) (λ_=>e)
def Cf(k:Option Nat)(x:EO):XP:=λes=>kO (Ad es x) (λcs=>Sx k cs) (λid off=>Xs es.hp id (λ_ cs=>Sx k (Lk off cs)) none) none
def Ea(off:Nat)(x:EO):XP:=λes=>kO (Ad es x) (λcs=>some (.ia (Lk off cs))) (λid o=>Fv (Rm (gN es.hp id)) (aX (o+off) λn=>some (.pt id n)) none) none
def TH{α:Type}(d:DV)(fv:Value->α)(fs:List DV->Nat->α)(fm:Nat->Nat->Nat->Nat->α)(e:α):α:=DV.casesOn (motive_1:=λ_=>α) d e fv (λ_=>e) (λ_=>e) fs (λ_=>e) (λ_ _=>e) (λ_ _=>e) fm (λ_ _=>e) (λ_=>e) (λ_=>e)
def cI{α:Type}(d:DV)(f:Int->α)(e:α):α:=cV d (λv=>dJ v (λ_=>e) (λ_ n=>f n) (λ_=>e) e) e
def uH{α:Type}(j:Int)(n:Nat)(f:Nat->α)(e:α):α:=Int.rec (motive:=λ_=>α) (λm=>Fv (Nat.blt m n) (f m) e) (λ_=>e) j
def Fg(es':Nat)(x i:EO):XP:=λes=>cI (Ad es i) (λj=>TH (Ad es x) (λ_=>none) (λcs n=>uH j n (λm=>some (.ia (Lk (m*es') cs))) none)
 (λid off n _=>Fv (Rm (gN es.hp id)) (uH j n (λm=>aX (off+m*es') λo=>some (.pt id o)) none) none) none) none
def xFx(n es':Nat)(x i:EO):XP:=λes=>cI (Ad es i) (λj=>kO (Ad es x) (λcs=>uH j n (λm=>some (.ia (Lk (m*es') cs))) none)
 (λid off=>Fv (Rm (gN es.hp id)) (uH j n (λm=>aX (off+m*es') λo=>some (.pt id o)) none) none) none) none
def bp(v:Value):Option DV:=Value.casesOn (motive_1:=λ_=>Option DV) v (λ_=>none) (λ_ _=>none) (λ_ _=>none) (λ_ _ _=>none) (λ_=>none) (λ_=>none)
 (λa n _=>Option.rec (motive:=λ_=>Option DV) (some (.v (.int .i64 n))) (λ_=>none) a) (λ_=>none) (λ_=>none) (λ_ _ _=>none) none (λ_ _=>none) none (λ_=>none) (λ_=>none)
def Cu(x:EO):XP:=λes=>TH (Ad es x) bp (λ_ n=>aX n λn=>some (.v (.int .i64 (.ofNat n)))) (λid _ n _=>Fv (Rm (gN es.hp id)) (aX n λn=>some (.v (.int .i64 (.ofNat n)))) none) none
def qB{α:Type}(d:DV)(f:List DV->α)(e:α):α:=DV.casesOn (motive_1:=λ_=>α) d e (λ_=>e) (λ_=>e) f (λ_ _=>e) (λ_=>e) (λ_ _=>e) (λ_ _=>e) (λ_ _ _ _=>e) (λ_ _=>e) (λ_=>e) (λ_=>e)
def aF{α:Type}(n:Nat)(l:List α):Option α:=List.rec (motive:=λ_=>Option α) none (λa _ _=>some a) (Lk n l)
def vD{α:Type}(d:DV)(f:Value->α)(e:α):α:=DV.casesOn (motive_1:=λ_=>α) d e f (λ_=>e) (λ_=>e) (λ_ _=>e) (λ_=>e) (λ_ _=>e) (λ_ _=>e) (λ_ _ _ _=>e) (λ_ _=>e) (λ_=>e) (λ_=>e)
def Gd(x:EO)(i:Nat):XP:=λes=>qB (Ad es x) (λds=>Option.rec (motive:=λ_=>Option DV) none (λd=>vD d (λv=>some (.v v)) (qB (My es x) (λds=>aF i ds) none)) (aF i ds)) none
def Bi(o:DOp):XU:=λes nid=>Ba nid es.ds o
def E1{β α:Type}(l:List β)(k:List β->α):α:=List.rec (motive:=λ_=>(List β->α)->α) (λk=>k []) (λa _ ih k=>ih λt=>k (a::t)) l k
def Kw{α:Type}(a b:List α):List α:=List.rec (motive:=λ_=>List α) b (λx _ ih=>x::ih) a
def AX(d:DV):List DV:=DV.casesOn (motive_1:=λ_=>List DV) d [d] (λ_=>[d]) (λcs=>cs) (λ_=>[d]) (λ_ _=>[d]) (λ_=>[d]) (λ_ _=>[d]) (λ_ _=>[d]) (λ_ _ _ _=>[d]) (λ_ _=>[d]) (λ_=>[d]) (λ_=>[d])
def QW(d:DV):Bool:=DV.casesOn (motive_1:=λ_=>Bool) d false (λx=>x.oneCell') (λ_=>true) (λ_=>false) (λ_ _=>true) (λ_=>true) (λ_ _=>true) (λ_ _=>true) (λ_ _ _ _=>true) (λ_ _=>true) (λ_=>true) (λ_=>true)
def Is(n:Nat)(a x:EO):XU:=λes _=>kO (Ad es a) (λ_=>none) (λid off=>Xs es.hp id (λT cs=>
 Fv (QW (My es x)) (Fv (Nat.beq (AX (My es x)).length n) (Fv (Nat.ble (off+n) cs.length) (E1 (Kw (Wu off cs) (Kw (AX (My es x)) (Lk (off+n) cs))) λl=>some (.any,.wr id (.row T l))) none) none) none) none) none
def Nx(T:TypeId)(x:EO):XU:=λes nid=>Fv (QW (My es x)) (some (.pt nid 0,.lay (.row T (AX (My es x))))) none
def bT{α β:Type}(f:α->β)(l:List α):List β:=List.rec (motive:=λ_=>List β) [] (λa _ ih=>f a::ih) l
def Qe(T:TypeId)(z:List DV):XU:=λ_ nid=>some (.pt nid 0,.lay (.row T z))
inductive Tg where
 | fn (f:Nat)
 | yl (id:Nat)
def Bg:Type:=Tg->List DV->Tr DObj->Nat->Option (DV×Tr DObj×Nat)
def ES.cs{α:Type}(es:ES)(f:Tr DV->Tr DObj->Nat->α):α:=ES.rec (motive:=λ_=>α) f es
def ES.putE(es:ES)(dst:Option Pa)(d:DV):ES:=ES.rec (motive:=λ_=>ES) (λsl hp nx=>Option.rec (motive:=λ_=>ES) ⟨sl,hp,nx⟩ (λp=>⟨sP p (some d) sl,hp,nx⟩) dst) es
def Lv(hp:Tr DObj)(nid:Nat)(u:Upd):Tr DObj:=Upd.casesOn (motive:=λ_=>Tr DObj) u hp (λo=>Ka hp nid (some o)) (λid o=>Ka hp id (some o))
 (λHr o=>Option.rec (motive:=λ_=>Tr DObj) (Ka hp nid (some o)) (λi=>Ka (Ka hp i none) nid (some o)) Hr)
abbrev Nw:Type:=Bg->ES->Option ES
def sM(dst:Option Pa)(x:EO):Nw:=λ_ es=>some (es.putE dst (Ad es x))
def sX(dst:Option Pa)(x:XP):Nw:=λ_ es=>Option.rec (motive:=λ_=>Option ES) none (λd=>some (es.putE dst d)) (x es)
def sU(dst:Option Pa)(x:XU):Nw:=λ_ es=>Option.rec (motive:=λ_=>Option ES) none (λp=>Prod.rec (motive:=λ_=>Option ES) (λd u=>
 es.cs λsl hp nx=>Fv u.new (aX (nx+1) λn=>some ((ES.mk sl (Lv hp nx u) n).putE dst d)) (some ((ES.mk sl (Lv hp nx u) nx).putE dst d))) p) (x es es.nx)
def gH(tg:Tg)(ds:List DV)(dst:Option Pa):Nw:=λcall es=>Option.rec (motive:=λ_=>Option ES) none (λp=>Prod.rec (motive:=λ_=>Option ES) (λd q=>Prod.rec (motive:=λ_=>Option ES) (λhp nx=>es.cs λsl _ _=>some ((ES.mk sl hp nx).putE dst d)) q) p) (call tg ds es.hp es.nx)
def Zk(es:ES)(args:List EO):List DV:=bT (Ad es) args
def Bj(f:Nat)(args:List EO)(dst:Option Pa):Nw:=λcall es=>gH (.fn f) (Zk es args) dst call es
def eA(tb:Option (List (TypeId×FuncId)))(x:EO)(args:List EO)(dst:Option Pa):Nw:=λcall es=>
 Option.rec (motive:=λ_=>Option ES) (Option.rec (motive:=λ_=>Option ES) none (λi=>gH (.yl i) (Zk es args) dst call es) ((My es x).tgY tb)) (λp=>gH (.fn p.1) (Kw p.2.1 (Kw (Zk es args) p.2.2)) dst call es) ((My es x).tgt tb)
def YP(k:Bool)(x:Operand)(dst:Option Pa):Nw:=λ_ es=>match Vw es.ds k x with
 | some [p]=>if p.2.new then none else some ((ES.mk es.sl (Lv es.hp es.nx p.2) es.nx).putE dst p.1)
 | _=>none
def Yd:DOp->Option XP
 | .bin op x y=>some (Ar op (.of x) (.of y))
 | .pick c x y=>some (Co (.of c) (.of x) (.of y))
 | .un op x=>some (Nz op (.of x))
 | .ld k x=>some (Cf k (.of x))
 | .fa off x=>some (Ea off (.of x))
 | .ia es x i=>some (Fg es (.of x) (.of i))
 | .fx n es x i=>some (xFx n es (.of x) (.of i))
 | .len x=>some (Cu (.of x))
 | .ext x i=>some (Gd (.of x) i)
 | _=>none
def Ue:DOp->XU
 | .st n a x=>Is n (.of a) (.of x)
 | .bx T x=>Nx T (.of x)
 | .al T z=>Qe T (z.map .v)
 | o=>Bi o
def Su(dst:Option Pa)(o:DOp):Nw:=match o with
 | .mv x=>sM dst (.of x)
 | .call f args=>Bj f (args.map EO.of) dst
 | .cv tb x args=>eA tb (.of x) (args.map EO.of) dst
 | .nxm k x=>YP k x dst
 | o=>match Yd o with
  | some x=>sX dst x
  | none=>sU dst (Ue o)
def jF(tb:Option (List (TypeId×FuncId)))(x:EO)(args:List EO)(dst:Option Pa):Nw:=λcall es=>
 Option.rec (motive:=λ_=>Option ES) none (λp=>gH (.fn p.1) (Kw p.2.1 (Kw (Zk es args) p.2.2)) dst call es) ((My es x).tgt tb)
def Ys(dst:Option Pa)(o:DOp):Nw:=match o with
 | .cv tb x args=>jF tb (.of x) (args.map EO.of) dst
 | .nxm _ _=>λ_ _=>none
 | o=>Su dst o
def Kk(es:ES)(p:Pa)(b:Bool):Option Bool:=cV (Ad es (.t p)) (λv=>Value.casesOn (motive_1:=λ_=>Option Bool) v (λc=>some (c==b)) (λ_ _=>none) (λ_ _=>none) (λ_ _ _=>none) (λ_=>none) (λ_=>none) (λ_ _ _=>none) (λ_=>none) (λ_=>none) (λ_ _ _=>none) none (λ_ _=>none) none (λ_=>none) (λ_=>some false)) none
def sG(p:Pa)(b:Bool)(dst:Option Pa)(s:Nw):Nw:=λcall es=>Option.rec (motive:=λ_=>Option ES) none (λc=>Bool.rec (motive:=λ_=>Option ES) (some (es.putE dst (.v undef))) (s call es) c) (Kk es p b)
def sq(s k:Nw):Nw:=λcall es=>Option.rec (motive:=λ_=>Option ES) none (λes'=>es'.cs λsl hp nx=>k call ⟨sl,hp,nx⟩) (s call es)
def sF:Nw:=λ_ es=>some es
def sL(l:List Nw):Nw:=List.rec (motive:=λ_=>Nw) sF (λs _ ih=>sq s ih) l
def Fp:Option Nat->Option Pa
 | some t=>some (Cq t)
 | none=>none
def Ye(r:DR):Nw:=match r.g with
 | none=>Su (Fp r.dst) r.op
 | some (t,b)=>sG (Cq t) b (Fp r.dst) (Su (Fp r.dst) r.op)
def mR:List DR->Nw
 | []=>sF
 | r::rest=>sq (Ye r) (mR rest)
def Qh:Value->Value->Bool
 | .bool a,.bool b=>a==b
 | .int k a,.int k' b=>k==k'&&a==b
 | .string a,.string b=>a.data.toList==b.data.toList
 | .pointer none,.pointer none=>true
 | .slice none a b,.slice none c d=>a==c&&b==d
 | .map none,.map none=>true
 | .nilFunc,.nilFunc=>true
 | .nilIface,.nilIface=>true
 | _,_=>false
def Je(f:DV->DV->Bool):List DV->List DV->Bool
 | [],[]=>true
 | a::as,b::bs=>f a b&&Je f as bs
 | _,_=>false
def uy:Fn->Fn->Bool
 | .func f,.func g=>f==g
 | _,_=>false
def Nk:Nat->DV->DV->Bool
 | 0,_,_=>false
 | n+1,a,b=>match a,b with
  | .any,.any=>true
  | .v x,.v y=>Qh x y
  | .agg a,.agg b=>Je (Nk n) a b
  | .tup a,.tup b=>Je (Nk n) a b
  | .sl a m,.sl b m'=>m==m'&&Je (Nk n) a b
  | .ia a,.ia b=>Je (Nk n) a b
  | .fn f a,.fn g b=>uy f g&&Je (Nk n) a b
  | .ifc T a,.ifc T' b=>T==T'&&Nk n a b
  | .ms i o k e,.ms i' o' k' e'=>i==i'&&o==o'&&k==k'&&e==e'
  | .pt i o,.pt i' o'=>i==i'&&o==o'
  | .mp i,.mp j=>i==j
  | .yl i,.yl j=>i==j
  | _,_=>false
def ux:Value->Value->Bool
 | .agg a,.agg b=>Je (λx y=>match x,y with | .v x,.v y=>Qh x y | _,_=>false) (a.toList.map .v) (b.toList.map .v)
 | a,b=>Qh a b
def Yt(n:Nat):List ME->List ME->Bool
 | [],[]=>true
 | a::as,b::bs=>ux a.k b.k&&Nk n a.v b.v&&a.b==b.b&&Yt n as bs
 | _,_=>false
def AW:List Nat->List Nat->Bool
 | [],[]=>true
 | a::as,b::bs=>a==b&&AW as bs
 | _,_=>false
def gK:DObj->DObj->Bool
 | .row T a,.row T' b=>T==T'&&Je (Nk 6) a b
 | .mapo c a,.mapo d b=>c==d&&Yt 6 a b
 | .miter m c s l,.miter m' c' s' l'=>Nk 2 m m'&&c==c'&&AW s s'&&l==l'
 | _,_=>false
structure Look where
 i:Nat
 an:List Nat
 id:Nat
 own:Bool
 c:Bool
structure Past where
 q:Nat
 an:List Nat
 a:Tr DObj
 b:Tr DObj
def sameAt(a b:Tr DObj)(id:Nat):Bool:=match a.get id,b.get id with
 | some x,some y=>gK x y
 | _,_=>false
def rL(a b:Tr DObj)(id:Nat):Bool:=(a.get id).isSome==(b.get id).isSome
def Pl(n0 m:Nat)(ws:List Look)(ps:List Past):Bool:=ws.all λw=>ps.all λp=>w.an.contains p.q||p.an.contains w.i ||
 (if Nat.blt w.id n0||Nat.ble (n0+m) w.id then (if w.c then sameAt p.a p.b w.id else rL p.a p.b w.id) else w.own && !p.an.contains (w.id-n0))
def Cp(n0 m:Nat)(an:List Nat)(hp:Tr DObj)(id:Nat):Bool:=Fv (Rm (gN hp id)) (Fv (Nat.blt id n0) true (Fv (Nat.ble (n0+m) id) true (an.contains (id-n0)))) false
def refsL(es:ES)(ps:List Pa):List Nat:=List.rec (motive:=λ_=>List Nat) [] (λp _ ih=>Kw (Uz (Ad es (.t p))) ih) ps
structure DSt where
 es:ES
 lo:List Nat
 ws:List Look
 ps:List Past
def T9(n0:Nat)(hp:Tr DObj):List Nat->Tr DObj
 | []=>hp
 | j::js=>T9 n0 (hp.set (n0+j) none) js
def Tm(n0:Nat)(Hr hp:Tr DObj):List Nat->Tr DObj
 | []=>hp
 | j::js=>Tm n0 Hr (hp.set (n0+j) (Hr.get (n0+j))) js
abbrev Jw:Type:=Bg->Nat->Nat->DSt->Option DSt
def DSt.cs{α:Type}(d:DSt)(f:ES->List Nat->List Look->List Past->α):α:=DSt.rec (motive:=λ_=>α) f d
def Cx(i:Nat)(an:List Nat)(s:Nw):Jw:=λcall n0 _ d=>
 d.cs λes lo ws ps=>es.cs λsl hp nx=>E1 (lo.filter λj=>!an.contains j) λhid=>
 Option.rec (motive:=λ_=>Option DSt) none (λes'=>es'.cs λYO An Bm=>Fv (Nat.ble nx Bm) (some ⟨⟨YO,Tm n0 hp An hid,Bm⟩,hid,ws,⟨i,an,hp,Tm n0 hp An hid⟩::ps⟩) none) (s call ⟨sl,T9 n0 hp hid,nx⟩)
def Gg(i:Nat)(an:List Nat)(wide c:Bool)(refs:List Nat)(n0:Nat)(lo:List Nat)(ws:List Look):List Look:=Fv wide (Kw (bT (λid=>⟨i,an,id,lo.contains (id-n0),c⟩) refs) ws) ws
def Ch(i:Nat)(an:List Nat)(wide c:Bool)(dst:Option Pa)(x:Nat->XP)(ps:List Pa):Jw:=λ_ n0 _ d=>
 d.cs λes lo ws pp=>Option.rec (motive:=λ_=>Option DSt) none (λv=>some ⟨es.putE dst v,lo,Gg i an wide c (refsL es ps) n0 lo ws,pp⟩) (x (n0+i) es)
def Fu(x:XU):Nat->XP:=λnid es=>Option.rec (motive:=λ_=>Option DV) none (λp=>Upd.casesOn (motive:=λ_=>Option DV) p.2 (some p.1) (λ_=>none) (λ_ _=>none) (λ_ _=>none)) (x es nid)
def Qa(i:Nat)(an:List Nat)(wide c:Bool)(dst:Option Pa)(x:XU)(ps:List Pa):Jw:=λ_ n0 _ d=>
 d.cs λes lo ws pp=>es.cs λsl hp nx=>aX (n0+i) λnid=>Option.rec (motive:=λ_=>Option DSt) none (λp=>Upd.casesOn (motive:=λ_=>Option DSt) p.2 none
  (λo=>some ⟨(ES.mk sl (Ka hp nid (some o)) nx).putE dst p.1,i::lo,Gg i an wide c (refsL es ps) n0 lo ws,pp⟩) (λ_ _=>none) (λ_ _=>none)) (x es nid)
def B5(i:Nat)(an:List Nat)(tgt:Nat)(dst:Option Pa)(x:XU)(ps:List Pa):Jw:=λ_ n0 _ d=>
 d.cs λes lo ws pp=>es.cs λsl hp nx=>Option.rec (motive:=λ_=>Option DSt) none (λp=>Upd.casesOn (motive:=λ_=>Option DSt) p.2 none (λ_=>none)
  (λid o=>Fv (Nat.beq id (n0+tgt)&&lo.contains tgt&&an.contains tgt&&Tp (refsL es ps) (λr=>Nat.beq r (n0+tgt))) (some ⟨(ES.mk sl (Ka hp id (some o)) nx).putE dst p.1,lo,ws,pp⟩) none) (λ_ _=>none)) (x es (n0+i))
def Bx(an:List Nat)(ps:List Pa)(s:Jw):Jw:=λcall n0 m d=>Fv (Tp (refsL d.es ps) λid=>Cp n0 m an d.es.hp id) (s call n0 m d) none
def dX(an:List Nat)(ps:List Pa)(i:Nat)(dst:Option Pa)(x:XP):Jw:=Bx an ps (Ch i an false false dst (λ_=>x) ps)
def dY(an:List Nat)(ps:List Pa)(i:Nat)(dst:Option Pa)(x:XP):Jw:=Bx an ps (Ch i an false true dst (λ_=>x) ps)
def dP(an:List Nat)(i:Nat)(dst:Option Pa)(p:Pa):Jw:=Bx an [p] (Ch i an false false dst (λ_ es=>some (Ad es (.t p))) [p])
def dG(p:Pa)(b:Bool)(dst:Option Pa)(s:Jw):Jw:=λcall n0 m d=>Option.rec (motive:=λ_=>Option DSt) none (λc=>Bool.rec (motive:=λ_=>Option DSt) (d.cs λes lo ws pp=>some ⟨es.putE dst (.v undef),lo,ws,pp⟩) (s call n0 m d) c) (Kk d.es p b)
def dq(s k:Jw):Jw:=λcall n0 m d=>Option.rec (motive:=λ_=>Option DSt) none (λd'=>d'.cs λes lo ws pp=>es.cs λsl hp nx=>k call n0 m ⟨⟨sl,hp,nx⟩,lo,ws,pp⟩) (s call n0 m d)
def R8:Jw:=λ_ _ _ d=>some d
def dL(l:List Jw):Jw:=List.rec (motive:=λ_=>Jw) R8 (λs _ ih=>dq s ih) l
def gG(o:DOp):List Nat:=o.opnds.filterMap λ| .tmp t=>some t | _=>none
def uF(i:Nat)(r:DR)(o:OI):Jw:=
 Bx o.an ((gG r.op).map Cq) (match o.cls with
  | 2=>Cx i o.an (Ys (Fp r.dst) r.op)
  | 0=>Ch i o.an o.wide r.op.rdC (Fp r.dst) (match r.op with
   | .mv x=>λ_ es=>some (Ad es (.of x))
   | op=>match Yd op with
    | some x=>λ_=>x
    | none=>Fu (Ue op)) ((gG r.op).map Cq)
  | 1=>Qa i o.an o.wide r.op.rdC (Fp r.dst) (Ue r.op) ((gG r.op).map Cq)
  | _=>B5 i o.an o.tgt (Fp r.dst) (Ue r.op) ((gG r.op).map Cq))
def dE(i:Nat)(r:DR)(o:OI):Jw:=match r.g with
 | none=>uF i r o
 | some (t,b)=>dG (Cq t) b (Fp r.dst) (uF i r o)
def Pn:List DR->List OI->Nat->Jw
 | r::rs,o::os,i=>dq (dE i r o) (Pn rs os (i+1))
 | _,_,_=>R8
def Gk(m:Nat)(s:Jw):Nw:=λcall es=>Option.rec (motive:=λ_=>Option ES) none (λd=>Fv (Pl es.nx m d.ws d.ps) (some d.es) none) (es.cs λsl hp nx=>aX (nx+m) λn=>s call nx m ⟨⟨sl,hp,n⟩,[],[],[]⟩)
abbrev CE:Type:=Bg->ES->Option (Exit×ES)
def cN(s:Nw):CE:=λcall es=>Option.rec (motive:=λ_=>Option (Exit×ES)) none (λes'=>some (.normal,es')) (s call es)
def cE(e:Exit):CE:=λ_ es=>
 some (e,es)
def cS(a b:CE):CE:=λcall es=>Option.rec (motive:=λ_=>Option (Exit×ES)) none (λp=>Prod.rec (motive:=λ_=>Option (Exit×ES)) (λe es'=>Exit.casesOn (motive:=λ_=>Option (Exit×ES)) e (b call es') (λ_=>some (e,es')) (λ_=>some (e,es')) (some (e,es')) (λ_=>some (e,es')) (some (e,es'))) p) (a call es)
def cT(l:List Nw)(c:CE):CE:=cS (cN (sL l)) c
def cC(x:EO)(a b:CE):CE:=λcall es=>cV (Ad es x) (λv=>dJ v (λt=>Bool.rec (motive:=λ_=>Option (Exit×ES)) (b call es) (a call es) t) (λ_ _=>none) (λ_=>none) none) none
def cB(id:Nat)(c:CE):CE:=λcall es=>Option.rec (motive:=λ_=>Option (Exit×ES)) none (λp=>Prod.rec (motive:=λ_=>Option (Exit×ES)) (λe es'=>Exit.casesOn (motive:=λ_=>Option (Exit×ES)) e (some (e,es')) (λi=>Fv (Nat.beq i id) (some (.normal,es')) (some (e,es'))) (λ_=>some (e,es')) (some (e,es')) (λ_=>some (e,es')) (some (e,es'))) p) (c call es)
def cL(n:Nat)(c:CE):CE:=Nat.rec (motive:=λ_=>CE) (λ_ _=>none) (λ_ ih=>cS c ih) n
def cR(nt:Nat)(rd:Bool)(g:EO)(ps:List Nat)(a b:DC):CE:=λcall es=>if rd then none else match (My es g).asFn with
 | some (f,cs)=>match call (.fn f) (.yl es.nx::cs) (es.hp.set es.nx (some (.loop ⟨nt,.t es.sl,ps,a,b,.ready,none⟩))) (es.nx+1) with
  | some (_,hp,nx)=>match hp.get es.nx with
   | some (.loop lp)=>match lp.st with
    | .busy=>none
    | _=>match lp.pend with
     | none=>some (.normal,⟨es.sl,hp.set es.nx none,nx⟩)
     | some .ret=>some (.ret,⟨es.sl,hp.set es.nx none,nx⟩)
     | some (.exit i)=>some (.exit i,⟨es.sl,hp.set es.nx none,nx⟩)
     | _=>none
   | _=>none
  | none=>none
 | none=>none
def Dv(n nt:Nat)(rd:Bool):DC->CE
 | .skip=>cE .normal
 | .ret=>cE .ret
 | .exit id=>cE (.exit id)
 | .seq a b=>cS (Dv n nt rd a) (Dv n nt rd b)
 | .cond x a b=>cC (.of x) (Dv n nt rd a) (Dv n nt rd b)
 | .blk id c=>cB id (Dv n nt rd c)
 | .loop c=>cL n (Dv n nt rd c)
 | .reg draw ops info=>match draw with
  | false=>cN (mR ops)
  | true=>match info.ok with
   | true=>cN (Gk ops.length (Pn ops info.l 0))
   | false=>λ_ _=>none
 | .rng g ps a b=>cR nt rd (.of g) ps a b
 | .dfq t g cap=>match rd with
  | true=>λ_ _=>none
  | false=>cN (Su (some (Cq t)) (.mkf (.func g) [] cap))
 | .bad=>λ_ _=>none
def Uu(ds:List DV):Tr DV:=List.rec (motive:=λ_=>Nat->Tr DV->Tr DV) (λ_ t=>t) (λd _ ih i t=>ih (i+1) (sP (Cq i) (some d) t)) ds 0 .e
def Np(ps:List Nat)(ds:List DV):Tr DV->Tr DV:=List.rec (motive:=λ_=>List DV->Tr DV->Tr DV) (λ_ t=>t) (λp _ ih ds t=>List.rec (motive:=λ_=>Tr DV) t (λd eH _=>ih eH (sP (Cq p) (some d) t)) ds) ps ds
structure FE where
 run:CE
 res:List (Nat×Option (Option Nat))
 nt:Nat
def BR(k:Option Nat)(x:EO):XP:=λes=>kO (Ad es x) (λ_=>none) (λid off=>Xs es.hp id (λ_ cs=>Sx k (Lk off cs)) none) none
def Vv(es:ES)(q:Nat×Option (Option Nat)):Option DV:=Prod.rec (motive:=λ_=>Option DV) (λt k=>Option.rec (motive:=λ_=>Option DV) (some (My es (.t (Cq t)))) (λk=>BR k (.t (Cq t)) es) k) q
def Yv(ds:Option (List DV)):Option DV:=match ds with
 | some [d]=>some d
 | some ds=>some (.tup ds)
 | none=>none
def Mo(res:List (Nat×Option (Option Nat)))(es:ES):Option (DV×Tr DObj×Nat):=match Yv (res.mapM (Vv es)) with
 | some d=>some (d,es.hp,es.nx)
 | none=>none
def Wv(tb:Nat->Option FE)(n:Nat)(call:Bg):Bg:=λtg ds hp nx=>match tg with
  | .fn f=>match tb f with
   | some fe=>if ds.length<=fe.nt then match fe.run (call) ⟨Uu ds,hp,nx⟩ with
     | some (.normal,es)=>Mo fe.res es
     | some (.ret,es)=>Mo fe.res es
     | _=>none
    else none
   | none=>none
  | .yl id=>match hp.get id with
   | some (.loop lp)=>match lp.st,lp.sl with
    | .ready,.t sl=>if ds.length=lp.ps.length/\lp.ps.all (λt=>Nat.blt t lp.nt)=true then
      match Dv n lp.nt true lp.asg (call) ⟨Np lp.ps ds sl,hp,nx⟩ with
      | some (.normal,Ai)=>match Ai.hp.get id with
       | some (.loop Sz)=>match Sz.st with
        | .ready=>match Dv n lp.nt true lp.body (call) { Ai with hp:=Ai.hp.set id (some (.loop { Sz with st:=.busy })) } with
         | some (e,Cd)=>match Cd.hp.get id with
          | some (.loop Ow)=>match e with
           | .normal=>some (.v (.bool true),Cd.hp.set id (some (.loop { Ow with st:=.ready,pend:=none })),Cd.nx)
           | .ret=>some (.v (.bool false),Cd.hp.set id (some (.loop { Ow with st:=.done,pend:=some .ret })),Cd.nx)
           | .exit i=>some (.v (.bool false),Cd.hp.set id (some (.loop { Ow with st:=.done,pend:=some (.exit i) })),Cd.nx)
           | _=>none
          | _=>none
         | none=>none
        | _=>none
       | _=>none
      | _=>none
     else none
    | _,_=>none
   | _=>none
def iQ(tb:Nat->Option FE)(n:Nat):Nat->Bg
 | 0=>λ_ _ _ _=>none
 | k+1=>Wv tb n (iQ tb n k)
def J2:Option (DV×Tr DObj×Nat)->Bool
 | some (.v (.bool b),_,_)=>b
 | _=>false
def bs(l:List UInt8):ByteArray:=⟨l.toArray⟩
instance aXl:Coe Bool EO:=⟨λb=>.c (.v (.bool b))⟩
instance aXk:Coe Int EO:=⟨λn=>.c (.v (.int .i64 n))⟩
instance aEj {s:String} [h:CoeDep String s Pa]:CoeDep String s EO:=⟨EO.t h.coe⟩
instance aEi {s:String} [h:CoeDep String s Pa]:CoeDep String s (Option Pa):=⟨some h.coe⟩
instance:CoeDep String "!" Pa:=⟨Pa.o.l.r⟩
instance:CoeDep String "$" Pa:=⟨Pa.o.l.r.l⟩
instance:CoeDep String "%" Pa:=⟨Pa.o.r.r⟩
instance:CoeDep String "&" Pa:=⟨Pa.o.r.l⟩
instance:CoeDep String "(" Pa:=⟨Pa.o.l.l.r⟩
instance:CoeDep String ")" Pa:=⟨Pa.o.l.l.l⟩
instance:CoeDep String "*" Pa:=⟨Pa.o.l.r.r⟩
instance:CoeDep String "+" Pa:=⟨Pa.o.r.r.l⟩
instance:CoeDep String "," Pa:=⟨Pa.o.r.l.l⟩
instance:CoeDep String "." Pa:=⟨Pa.o.r.l.r⟩
instance:CoeDep String "0" Pa:=⟨Pa.o.l.r.r.l⟩
instance:CoeDep String "1" Pa:=⟨Pa.o.r.r.r⟩
instance:CoeDep String "2" Pa:=⟨Pa.o.l.l.r.l⟩
instance:CoeDep String "3" Pa:=⟨Pa.o.l.l.l.l⟩
instance:CoeDep String "4" Pa:=⟨Pa.o.l.l.l.r⟩
instance:CoeDep String "5" Pa:=⟨Pa.o.r.l.l.r⟩
instance:CoeDep String "6" Pa:=⟨Pa.o.l.r.l.r⟩
instance:CoeDep String "7" Pa:=⟨Pa.o.l.l.r.r⟩
instance:CoeDep String "8" Pa:=⟨Pa.o.l.r.l.l⟩
instance:CoeDep String "9" Pa:=⟨Pa.o.r.l.r.r⟩
instance:CoeDep String ":" Pa:=⟨Pa.o.l.r.r.r⟩
instance:CoeDep String ";" Pa:=⟨Pa.o.r.l.l.l⟩
instance:CoeDep String "<" Pa:=⟨Pa.o.r.r.l.l⟩
instance:CoeDep String "=" Pa:=⟨Pa.o.r.l.r.l⟩
instance:CoeDep String ">" Pa:=⟨Pa.o.l.l⟩
instance:CoeDep String "?" Pa:=⟨Pa.o.r.r.l.r⟩
instance:CoeDep String "@" Pa:=⟨Pa.o.r.r.r.l⟩
instance:CoeDep String "A" Pa:=⟨Pa.o.r.r.r.r⟩
instance:CoeDep String "B" Pa:=⟨Pa.o.l.l.l.l.l⟩
instance:CoeDep String "C" Pa:=⟨Pa.o.l.l.l.l.r⟩
instance:CoeDep String "D" Pa:=⟨Pa.o.l.l.l.r.l⟩
instance:CoeDep String "E" Pa:=⟨Pa.o.l.r.l.l.l⟩
instance:CoeDep String "F" Pa:=⟨Pa.o.l.l.l.r.r⟩
instance:CoeDep String "G" Pa:=⟨Pa.o.l.l.r.l.l⟩
instance:CoeDep String "H" Pa:=⟨Pa.o.l.r.l.l.r⟩
instance:CoeDep String "I" Pa:=⟨Pa.o.l.l.r.l.r⟩
instance:CoeDep String "J" Pa:=⟨Pa.o.l.r.l.r.l⟩
instance:CoeDep String "K" Pa:=⟨Pa.o.l.r.l.r.r⟩
instance:CoeDep String "L" Pa:=⟨Pa.o.l.r.r.l.l⟩
instance:CoeDep String "M" Pa:=⟨Pa.o.l.r.r.r.r⟩
instance:CoeDep String "N" Pa:=⟨Pa.o.l.l.r.r.r⟩
instance:CoeDep String "O" Pa:=⟨Pa.o.l.l.r.r.l⟩
instance:CoeDep String "P" Pa:=⟨Pa.o.l.r.r.l.r⟩
instance:CoeDep String "Q" Pa:=⟨Pa.o.l.r.r.r.l⟩
instance:CoeDep String "R" Pa:=⟨Pa.o.r.l.l.l.l⟩
instance:CoeDep String "S" Pa:=⟨Pa.o.r.l.l.r.l⟩
instance:CoeDep String "T" Pa:=⟨Pa.o.r.l.l.l.r⟩
instance:CoeDep String "U" Pa:=⟨Pa.o.r.l.r.l.l⟩
instance:CoeDep String "V" Pa:=⟨Pa.o.r.l.l.r.r⟩
instance:CoeDep String "W" Pa:=⟨Pa.o.r.l.r.r.r⟩
instance:CoeDep String "X" Pa:=⟨Pa.o.r.r.r.l.l⟩
instance:CoeDep String "Y" Pa:=⟨Pa.o.r.l.r.l.r⟩
instance:CoeDep String "Z" Pa:=⟨Pa.o.r.r.l.r.r⟩
instance:CoeDep String "[" Pa:=⟨Pa.o.l.r.l.r.l.l⟩
instance:CoeDep String "]" Pa:=⟨Pa.o.l.l.l.l.r.r⟩
instance:CoeDep String "^" Pa:=⟨Pa.o.r.r.l.l.l⟩
instance:CoeDep String "_" Pa:=⟨Pa.o.r.r.r.r.r⟩
instance:CoeDep String "a" Pa:=⟨Pa.o.r.r.r.r.l⟩
instance:CoeDep String "b" Pa:=⟨Pa.o.l.l.l.l.l.r⟩
instance:CoeDep String "c" Pa:=⟨Pa.o.r.l.r.r.l⟩
instance:CoeDep String "d" Pa:=⟨Pa.o.r.r.l.l.r⟩
instance:CoeDep String "e" Pa:=⟨Pa.o.r.r.r.l.r⟩
instance:CoeDep String "f" Pa:=⟨Pa.o.l.l.l.l.l.l⟩
instance:CoeDep String "g" Pa:=⟨Pa.o.l.l.l.r.l.l⟩
instance:CoeDep String "h" Pa:=⟨Pa.o.r.r.l.r.l⟩
instance:CoeDep String "i" Pa:=⟨Pa.o.l.l.l.l.r.l⟩
instance:CoeDep String "j" Pa:=⟨Pa.o.l.l.l.r.r.l⟩
instance:CoeDep String "k" Pa:=⟨Pa.o.l.l.r.l.r.l⟩
instance:CoeDep String "l" Pa:=⟨Pa.o.l.l.l.r.r.r⟩
instance:CoeDep String "m" Pa:=⟨Pa.o.l.r.r.r.l.r⟩
instance:CoeDep String "n" Pa:=⟨Pa.o.r.l.l.l.r.l⟩
instance:CoeDep String "o" Pa:=⟨Pa.o.l.l.l.r.l.r⟩
instance:CoeDep String "p" Pa:=⟨Pa.o.l.r.l.r.r.l⟩
instance:CoeDep String "q" Pa:=⟨Pa.o.l.l.r.l.l.l⟩
instance:CoeDep String "r" Pa:=⟨Pa.o.l.r.r.l.l.l⟩
instance:CoeDep String "s" Pa:=⟨Pa.o.l.r.l.l.r.l⟩
instance:CoeDep String "t" Pa:=⟨Pa.o.l.l.r.l.l.r⟩
instance:CoeDep String "u" Pa:=⟨Pa.o.l.l.r.l.r.r⟩
instance:CoeDep String "v" Pa:=⟨Pa.o.l.l.r.r.l.r⟩
instance:CoeDep String "w" Pa:=⟨Pa.o.l.r.l.r.l.r⟩
instance:CoeDep String "x" Pa:=⟨Pa.o.l.r.r.r.r.l⟩
instance:CoeDep String "y" Pa:=⟨Pa.o.l.l.r.r.r.r⟩
instance:CoeDep String "z" Pa:=⟨Pa.o.l.l.r.r.l.l⟩
instance:CoeDep String "|" Pa:=⟨Pa.o.l.l.r.r.r.l⟩
instance:CoeDep String "~" Pa:=⟨Pa.o.l.r.l.l.l.l⟩
instance:CoeDep String "aa" Pa:=⟨Pa.o.l.r.r.l.r.r.l⟩
instance:CoeDep String "ab" Pa:=⟨Pa.o.l.r.r.l.l.r⟩
instance:CoeDep String "ac" Pa:=⟨Pa.o.l.r.r.l.r.l⟩
instance:CoeDep String "ad" Pa:=⟨Pa.o.l.r.r.l.r.r⟩
instance:CoeDep String "ae" Pa:=⟨Pa.o.l.r.r.r.l.l⟩
instance:CoeDep String "af" Pa:=⟨Pa.o.l.r.r.r.r.r⟩
instance:CoeDep String "ag" Pa:=⟨Pa.o.r.l.l.l.l.l⟩
instance:CoeDep String "ah" Pa:=⟨Pa.o.r.l.l.l.l.r⟩
instance:CoeDep String "ai" Pa:=⟨Pa.o.r.l.r.l.l.r⟩
instance:CoeDep String "aj" Pa:=⟨Pa.o.r.l.r.l.r.l⟩
instance:CoeDep String "ak" Pa:=⟨Pa.o.l.r.l.l.l.r⟩
instance:CoeDep String "al" Pa:=⟨Pa.o.l.r.l.l.r.r⟩
instance:CoeDep String "am" Pa:=⟨Pa.o.l.r.l.r.r.r⟩
instance:CoeDep String "an" Pa:=⟨Pa.o.r.l.l.r.l.l⟩
instance:CoeDep String "ao" Pa:=⟨Pa.o.r.l.l.r.l.r⟩
instance:CoeDep String "ap" Pa:=⟨Pa.o.r.l.l.r.r.l⟩
instance:CoeDep String "aq" Pa:=⟨Pa.o.r.l.l.r.r.r⟩
instance:CoeDep String "ar" Pa:=⟨Pa.o.r.l.r.l.r.r⟩
instance:CoeDep String "as" Pa:=⟨Pa.o.r.l.l.l.r.r⟩
instance:CoeDep String "at" Pa:=⟨Pa.o.r.l.r.l.l.l⟩
instance:CoeDep String "au" Pa:=⟨Pa.o.r.l.r.r.l.r⟩
instance:CoeDep String "av" Pa:=⟨Pa.o.r.l.r.r.r.l⟩
instance:CoeDep String "aw" Pa:=⟨Pa.o.r.r.l.l.r.r⟩
instance:CoeDep String "ax" Pa:=⟨Pa.o.r.r.l.r.l.r⟩
instance:CoeDep String "ay" Pa:=⟨Pa.o.r.l.r.r.r.r⟩
instance:CoeDep String "az" Pa:=⟨Pa.o.r.r.l.r.l.l⟩
instance:CoeDep String "aA" Pa:=⟨Pa.o.r.r.r.l.r.r⟩
instance:CoeDep String "aB" Pa:=⟨Pa.o.r.r.l.l.l.l⟩
instance:CoeDep String "aC" Pa:=⟨Pa.o.l.r.l.r.l.r.l⟩
instance:CoeDep String "aD" Pa:=⟨Pa.o.r.l.r.r.l.l⟩
instance:CoeDep String "aE" Pa:=⟨Pa.o.r.r.l.l.r.l⟩
instance:CoeDep String "aF" Pa:=⟨Pa.o.r.r.l.r.r.l⟩
instance:CoeDep String "aG" Pa:=⟨Pa.o.r.r.l.r.r.r⟩
instance:CoeDep String "aH" Pa:=⟨Pa.o.r.r.r.l.l.l⟩
instance:CoeDep String "aI" Pa:=⟨Pa.o.r.r.r.l.l.r⟩
instance:CoeDep String "aJ" Pa:=⟨Pa.o.r.r.r.l.r.l⟩
instance:CoeDep String "aK" Pa:=⟨Pa.o.r.r.r.r.l.l⟩
instance:CoeDep String "aL" Pa:=⟨Pa.o.r.r.r.r.l.r⟩
instance:CoeDep String "aM" Pa:=⟨Pa.o.r.l.l.l.r.r.r⟩
instance:CoeDep String "aN" Pa:=⟨Pa.o.l.l.l.l.l.l.l⟩
instance:CoeDep String "aO" Pa:=⟨Pa.o.l.l.l.l.l.l.r⟩
instance:CoeDep String "aP" Pa:=⟨Pa.o.r.r.l.l.l.r⟩
instance:CoeDep String "aQ" Pa:=⟨Pa.o.l.r.l.l.r.r.r⟩
instance:CoeDep String "aR" Pa:=⟨Pa.o.l.l.l.l.l.r.l⟩
instance:CoeDep String "aS" Pa:=⟨Pa.o.l.l.l.r.r.l.r⟩
instance:CoeDep String "aT" Pa:=⟨Pa.o.r.l.r.l.l.l.r⟩
instance:CoeDep String "aU" Pa:=⟨Pa.o.r.r.r.r.r.l⟩
instance:CoeDep String "aV" Pa:=⟨Pa.o.r.r.r.r.r.r⟩
instance:CoeDep String "aW" Pa:=⟨Pa.o.l.l.l.l.l.r.r⟩
instance:CoeDep String "aX" Pa:=⟨Pa.o.l.l.l.l.r.l.r⟩
instance:CoeDep String "aY" Pa:=⟨Pa.o.l.l.l.r.l.r.l⟩
instance:CoeDep String "aZ" Pa:=⟨Pa.o.l.l.l.r.r.l.l⟩
instance:CoeDep String "a0" Pa:=⟨Pa.o.l.l.l.r.r.r.l⟩
instance:CoeDep String "a1" Pa:=⟨Pa.o.l.l.l.r.r.r.r⟩
instance:CoeDep String "a2" Pa:=⟨Pa.o.l.l.r.l.l.l.l⟩
instance:CoeDep String "a3" Pa:=⟨Pa.o.l.l.r.l.l.l.r⟩
instance:CoeDep String "a4" Pa:=⟨Pa.o.r.l.r.l.l.r.l⟩
instance:CoeDep String "a5" Pa:=⟨Pa.o.l.l.l.l.r.l.l⟩
instance:CoeDep String "a6" Pa:=⟨Pa.o.l.l.l.r.l.l.r⟩
instance:CoeDep String "a7" Pa:=⟨Pa.o.l.l.l.r.l.r.r⟩
instance:CoeDep String "a8" Pa:=⟨Pa.o.l.r.r.l.r.r.r⟩
instance:CoeDep String "a9" Pa:=⟨Pa.o.l.r.r.r.l.l.l⟩
instance:CoeDep String "ba" Pa:=⟨Pa.o.l.r.r.r.l.l.r⟩
instance:CoeDep String "bb" Pa:=⟨Pa.o.r.l.l.l.r.l.l⟩
instance:CoeDep String "bc" Pa:=⟨Pa.o.r.l.l.r.r.r.l⟩
instance:CoeDep String "bd" Pa:=⟨Pa.o.l.r.l.r.l.l.l⟩
instance:CoeDep String "be" Pa:=⟨Pa.o.l.r.l.r.l.l.r⟩
instance:CoeDep String "bf" Pa:=⟨Pa.o.l.r.l.r.l.r.r⟩
instance:CoeDep String "bg" Pa:=⟨Pa.o.l.l.l.l.r.r.l⟩
instance:CoeDep String "bh" Pa:=⟨Pa.o.l.l.l.l.r.r.r⟩
instance:CoeDep String "bi" Pa:=⟨Pa.o.l.l.l.r.l.l.l⟩
instance:CoeDep String "bj" Pa:=⟨Pa.o.l.l.r.l.l.r.l⟩
instance:CoeDep String "bk" Pa:=⟨Pa.o.l.l.r.l.r.l.l⟩
instance:CoeDep String "bl" Pa:=⟨Pa.o.l.r.r.r.l.r.l⟩
instance:CoeDep String "bm" Pa:=⟨Pa.o.l.r.r.r.l.r.r⟩
instance:CoeDep String "bn" Pa:=⟨Pa.o.l.r.r.r.r.l.l⟩
instance:CoeDep String "bo" Pa:=⟨Pa.o.l.r.r.r.r.l.r⟩
instance:CoeDep String "bp" Pa:=⟨Pa.o.r.l.r.l.l.r.r⟩
instance:CoeDep String "bq" Pa:=⟨Pa.o.r.l.r.l.r.l.l⟩
instance:CoeDep String "br" Pa:=⟨Pa.o.r.l.r.l.r.l.r⟩
instance:CoeDep String "bs" Pa:=⟨Pa.o.l.l.r.r.r.r.r⟩
instance:CoeDep String "bt" Pa:=⟨Pa.o.l.r.l.l.l.l.l⟩
instance:CoeDep String "bu" Pa:=⟨Pa.o.l.r.l.l.l.l.r⟩
instance:CoeDep String "bv" Pa:=⟨Pa.o.l.r.l.l.l.r.l⟩
instance:CoeDep String "bw" Pa:=⟨Pa.o.l.r.l.l.l.r.r⟩
instance:CoeDep String "bx" Pa:=⟨Pa.o.l.r.l.l.r.l.l⟩
instance:CoeDep String "by" Pa:=⟨Pa.o.l.r.l.l.r.l.r⟩
instance:CoeDep String "bz" Pa:=⟨Pa.o.l.r.l.l.r.r.l⟩
instance:CoeDep String "bA" Pa:=⟨Pa.o.l.r.l.r.r.l.l⟩
instance:CoeDep String "bB" Pa:=⟨Pa.o.l.r.l.r.r.l.r⟩
instance:CoeDep String "bC" Pa:=⟨Pa.o.l.r.l.r.r.r.l⟩
instance:CoeDep String "bD" Pa:=⟨Pa.o.l.r.l.r.r.r.r⟩
instance:CoeDep String "bE" Pa:=⟨Pa.o.l.l.r.l.l.r.r⟩
instance:CoeDep String "bF" Pa:=⟨Pa.o.l.r.r.l.l.l.l⟩
instance:CoeDep String "bG" Pa:=⟨Pa.o.l.r.r.l.r.l.l⟩
instance:CoeDep String "bH" Pa:=⟨Pa.o.r.l.l.l.r.l.r⟩
instance:CoeDep String "bI" Pa:=⟨Pa.o.r.l.l.l.r.r.l⟩
instance:CoeDep String "bJ" Pa:=⟨Pa.o.r.l.l.r.l.l.l⟩
instance:CoeDep String "bK" Pa:=⟨Pa.o.r.l.l.r.l.l.r⟩
instance:CoeDep String "bL" Pa:=⟨Pa.o.r.l.l.r.l.r.l⟩
instance:CoeDep String "bM" Pa:=⟨Pa.o.r.l.l.r.l.r.r⟩
instance:CoeDep String "bN" Pa:=⟨Pa.o.r.l.l.r.r.l.l⟩
instance:CoeDep String "bO" Pa:=⟨Pa.o.r.l.l.r.r.r.r⟩
instance:CoeDep String "bP" Pa:=⟨Pa.o.r.l.r.l.l.l.l⟩
instance:CoeDep String "bQ" Pa:=⟨Pa.o.r.l.r.l.r.r.l⟩
instance:CoeDep String "bR" Pa:=⟨Pa.o.r.l.r.r.l.l.l⟩
instance:CoeDep String "bS" Pa:=⟨Pa.o.r.l.r.r.l.l.r⟩
end Go.DD
