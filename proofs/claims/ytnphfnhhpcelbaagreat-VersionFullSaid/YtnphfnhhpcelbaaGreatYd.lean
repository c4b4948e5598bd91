/- A part. -/
import Derived.Test.YtnphfnhhpcelbaaGreatYc
noncomputable section
namespace Go.DD
open Go.RowKit (Below)
def DS.wanted(s:DS):Option (Nat×Bool)->Option Bool
 | none=>some true
 | some (t,b)=>match s.sv t with
  | .v (.bool c)=>some (c==b)
  | .v (.tuple _)=>some false
  | _=>none
def Nb(P:Program)(r:DR)(s:DS)(K:DS->Prop):Prop:=
 match r.op with
 | .call f args=>Uj P f=true/\eX P f (args.map s.rv) s λs' d=>K (s'.put r.dst d)
 | .cv tb x args=>match (s.ev x).tgt tb with
  | some (f,fr,cs)=>Uj P f=true/\eX P f (fr++args.map s.rv++cs) s λs' d=>K (s'.put r.dst d)
  | none=>match (s.ev x).tgY tb with
   | some i=>OD P i (args.map s.rv) s λs' d=>K (s'.put r.dst d)
   | none=>False
 | .nxm k x=>match Wp s k x with
  | some l=>∀ p∈l,K ((s.upd s.nx p.2).put r.dst p.1)
  | none=>False
 | op=>match exec s op with
  | some (d,s')=>K (s'.put r.dst d)
  | none=>match Uf s.nx s op with
   | some l=>∀ p∈l,K (({ s.upd s.nx p.2 with nx:=s.nx+1 } : DS).put r.dst p.1)
   | none=>False
def Zn(P:Program):List DR->DS->(DS->Prop)->Prop
 | [],s,K=>K s
 | r::rest,s,K=>match s.wanted r.g with
  | some true=>Nb P r s λs'=>Zn P rest s' K
  | some false=>Zn P rest (s.put r.dst (.v undef)) K
  | none=>False
theorem Au0{P:Program}{c:Call} : fH P (.defer c)=none:=rfl
theorem Y6{P:Program}{f:FuncId}(h:Uj P f=true)(vs:Array Value)(w:World):(callFunc f vs).run P w=.ok (.enter f vs) w:=by
 unfold Uj at h
 split at h
 .rename_i fn hf
  simp only [Bo,bne_iff_ne,Bx] at h
  obtain ⟨h1,h2⟩:=h
  have h5:¬ fn.body=none:=by intro hb;rw [hb] at h1;cases h1
  simp [callFunc,hf,h2,h5]
 .cases h
theorem vi{dr:Bool}{C:Ctx}{U:Nat->Prop}{s:DS}{β:Nat->Option Nat}{a:Act}{w:World}{ops:Array Oper}{o:Oper}{r:DR}{b:Bool}(hs:HoldsB C U s β a w)(hr:Pj C.P C.nt dr ops o=some r)(hw:s.wanted r.g=some b) :
  Region.wanted o (yielded ops a.tmps)=b:=by
 unfold Pj at hr
 split at hr
 rotate_left
 .cases hr
 split at hr
 rotate_left
 .cases hr
 rename_i hg
 cases hr
 split at hg
 .rename_i zC
  cases hg
  simp [DS.wanted] at hw
  simp [Region.wanted,zC,<- hw]
 .rename_i j want zC
  obtain ⟨t,ht,hg⟩:=Ac.1 hg
  cases hg
  simp only [DS.wanted] at hw
  have h0:=hs.sl t
  split at hw
  .rename_i c hc
   cases hw
   rw [hc] at h0
   have h2:=Eb (h0.2.1 (λid hi=>by simp [DV.refs] at hi))
   have h3:a.tmps[t]?=some (.bool c):=by
    cases hq:a.tmps[t]? with
    | none=>simp [hq,undef] at h2
    | some u=>simp [hq] at h2;rw [h2]
   simp [Region.wanted,zC,yielded,ht,h3]
  .rename_i vs hc
   cases hw
   rw [hc] at h0
   have h2:=Eb (h0.2.1 (λid hi=>by simp [DV.refs] at hi))
   have h3:∀ c,a.tmps[t]?≠some (.bool c):=by
    intro c hq
    simp [hq] at h2
   have h4:yielded ops a.tmps j=none:=by
    simp only [yielded,ht,Pr]
   simp [Region.wanted,zC,h4]
  .cases hw
theorem xb{P:Program}{nt:Nat}{dr:Bool}{ops:Array Oper}{o:Oper}{r:DR}(h:Pj P nt dr ops o=some r):r.dst=o.dst/\(∀ t,r.dst=some t->t<nt)/\r.op=(fH P o.op).getD .bad:=by
 unfold Pj at h
 split at h
 .rename_i hd
  split at h
  .cases h
   refine ⟨rfl,λt ht=>?_,rfl⟩
   simp only at ht
   rw [ht] at hd
   simpa [zY] using hd
  .cases h
 .cases h
theorem Ax6{P:Program}{op:Op}{f:FuncId}{args:List Operand}(h:fH P op=some (.call f args)):∃ c,op=.call c/\c.callee=.value (.func f)/\args=c.args.toList:=by
 unfold fH at h
 split at h
 case h_22 c=>
  split at h
  .rename_i f' hc;cases h;exact ⟨c,rfl,hc,rfl⟩
  .cases h
  all_goals (exfalso;(repeat' split at h) <;> first | (cases h;done) | (simp [Az] at h;done) | (obtain ⟨z,_,h⟩:=Az.1 h;split at h <;> cases h))
 all_goals (exfalso;(repeat' split at h) <;> first | (cases h;done) | (simp [Az] at h;done) | (obtain ⟨z,_,h⟩:=Az.1 h;split at h <;> cases h))
theorem A84{P:Program}{op:Op}{tb:Option (List (TypeId×FuncId))}{f:Operand}{args:List Operand}(h:fH P op=some (.cv tb f args)):∃ c,op=.call c/\args=c.args.toList/\((tb=none/\c.callee=.value f)\/∃ name,tb=some (nM P name)/\c.callee=.invoke f name):=by
 unfold fH at h
 split at h
 case h_22 c=>
  split at h
  .cases h
  .rename_i f' _ hc;cases h;exact ⟨c,rfl,rfl,.inl ⟨rfl,hc⟩⟩
  .rename_i x name hc;cases h;exact ⟨c,rfl,rfl,.inr ⟨name,rfl,hc⟩⟩
  all_goals (exfalso;(repeat' split at h) <;> first | (cases h;done) | (simp [Az] at h;done) | (obtain ⟨z,_,h⟩:=Az.1 h;split at h <;> cases h))
 all_goals (exfalso;(repeat' split at h) <;> first | (cases h;done) | (simp [Az] at h;done) | (obtain ⟨z,_,h⟩:=Az.1 h;split at h <;> cases h))
theorem Bo8{P:Program}{op:Op}{k:Bool}{x:Operand}(h:fH P op=some (.nxm k x)):op=if k then .entry x else .next x false:=by
 unfold fH at h
 split at h
 case h_28 y isS=>
  split at h
  .rename_i hS;subst hS;cases h;rfl
  .cases h
 case h_29 y=>cases h;rfl
 all_goals (exfalso;(repeat' split at h) <;> first | (cases h;done) | (simp [Az] at h;done) | (obtain ⟨z,_,h⟩:=Az.1 h;split at h <;> cases h))
theorem Bo9{P:Program}{op:Op}{T:TypeId}{es b:Nat}{x y:Operand}(h:fH P op=some (.app T es b x y)):∃ c t z,op=.call c/\c.callee=.builtin .append/\c.args.toList=[x,y]/\c.argTypes.toList=[t,t]/\P.underlying t=some (.slice T)/\Mh P T=some z/\Oj P T=false/\z.length=P.cellsOf T/\es=P.cellsOf T/\b=P.bytesOf T:=by
 unfold fH at h
 split at h
 case h_22 c=>
  split at h
  case h_5 Gs=>
   split at h
   .rename_i x' y' t t' Di Ys
    split at h
    .rename_i I6
     subst I6
     split at h
     .rename_i e ht
      obtain ⟨z,hz,h⟩:=Az.1 h
      split at h
      .rename_i Rs
       cases h
       exact ⟨c,t,z,rfl,Gs,Di,Ys,ht,hz,Rs.1,Rs.2,rfl,rfl⟩
      .cases h
     .cases h
    .split at h
     .obtain ⟨z,hz,h⟩:=Az.1 h
      split at h <;> cases h
     .cases h
   .cases h
  all_goals (exfalso;(repeat' split at h) <;> first | (cases h;done) | (simp [Az] at h;done) | (obtain ⟨z,_,h⟩:=Az.1 h;split at h <;> cases h))
 all_goals (exfalso;(repeat' split at h) <;> first | (cases h;done) | (simp [Az] at h;done) | (obtain ⟨z,_,h⟩:=Az.1 h;split at h <;> cases h))
theorem Bp0{P:Program}{w:World}{name:String}{T:TypeId}{f:FuncId}(h:sZ P name T=some f)(v:Value)(k:Nat):(method (k+1) T v name).run P w=.ok (f,v) w:=by
 unfold sZ at h
 split at h
 .rename_i e hu
  split at h
  .rename_i i hi
   split at h
   .rename_i m hm
    split at h
    .rename_i hp
     split at h
     .rename_i f' hf
      cases h
      have IB:m.path.toList=[]:=by
       have:=hp
       simp at this
       rw [this]
      unfold method
      simp only [Sem.run_bind,typeInfo,run_program,hi,Sem.run_pure,Result.andThen_ok,hm,IB,follow,hf,receiverAt,run_underlying hu,Place.get]
     .cases h
    .cases h
   .cases h
  .cases h
 .cases h
theorem Cc8:∀ {l:List (TypeId×FuncId)} {T:TypeId} {f:FuncId},S3 l T=some f->(T,f)∈l
 | [],_,_,h=>by cases h
 | p::l,T,f,h=>by
  simp only [S3] at h
  split at h
  .rename_i e;cases h;subst e;simp
  .exact Be _ (Cc8 h)
theorem Cm1{P:Program}{name:String}{T:TypeId}{f:FuncId}(h:S3 (nM P name) T=some f):sZ P name T=some f:=by
 have:=Cc8 h
 unfold nM at this
 obtain ⟨T',_,hT⟩:=Gn.1 this
 obtain ⟨f',hf,e⟩:=Ac.1 hT
 cases e;exact hf
theorem Ap5{P:Program}{w:World}{name:String}{T:TypeId}{f:FuncId}(h:S3 (nM P name) T=some f)(hc:Uj P f=true)(v:Value)(args:Array Value):(callMethod (.iface T v) name args).run P w=.ok (.enter f (#[v]++args)) w:=by
 have hm:=Bp0 (w:=w) (Cm1 h) v (P.types.size+99)
 have hd:P.types.size+Made.depth=P.types.size+99+1:=rfl
 unfold callMethod
 simp only [Sem.run_bind,run_program,Result.andThen_ok,hd,hm]
 exact Y6 hc _ _
theorem xa{a:Act}(args:Array Operand):args.map a.eval=(args.toList.map a.eval).toArray:=by apply De;simp
structure HoldsS (C:Ctx) (s:DS) (β:Nat->Option Nat) (a:Act) (w:World):Prop where
 b:HoldsB C (Us C s.nx) s β a w
 r:∀ id,C.R id->id<s.nx
theorem Holds.of{C:Ctx}{s:DS}{β:Nat->Option Nat}{a:Act}{w:World}(h:HoldsS C s β a w):Holds C s a w:=⟨h.r,β,h.b⟩
theorem HoldsS.exec{C:Ctx}{s s':DS}{β:Nat->Option Nat}{a:Act}{w:World}{o:Oper}{d:DV}{op:DOp}(hs:HoldsS C s β a w)
  (hc:fH C.P o.op=some op) (he:exec s op=some (d,s')):∃ nx w' β' x,(execOp a.eval o).run C.P w=.ok nx w'/\(nx=.value x\/(nx=.skip/\x=undef))/\HoldsS C s' β' a w'/\WV C (Us C s'.nx) (s'.vw C) β' w' x d:=by
 unfold Go.DD.exec at he
 split at he
 rotate_left
 .cases he
 rename_i d' u hu
 cases he
 obtain ⟨nx,w',β',x,h1,h2,h3,h4⟩:=xe hs.b (λh=>by have:=h.1;omega) hc hu
 have eI:∀ id,Ux (Us C s.nx) s.nx u id->Us C (if u.new=true then s.nx+1 else s.nx) id:=λid hi=>by
  have key:Un (Us C s.nx) s.nx id->Us C (s.nx+1) id:=λh=>by
   rcases h with h | rfl
   .exact ⟨by have:=h.1;omega,h.2⟩
   .exact ⟨by omega,λhr=>by have:=hs.r _ hr;omega⟩
  cases u <;> simp only [Upd.new,Eh,Ib,Ex,Ux] at hi ⊢ <;> first | exact hi | exact key hi
 refine ⟨nx,w',β',x,h1,h2,⟨?_,λid hr=>?_⟩,h4.grow eI⟩
 .obtain ⟨g1,g2,g3,g4,g5,g6⟩:=h3.grow eI
  exact ⟨g1,g2,g3,g4,g5,g6⟩
 .have:=hs.r id hr
  simp only
  split <;> omega
theorem Bt0{nid:Nat}{s:DS}{op:DOp}{l:List (DV×Upd)}(h:Uf nid s op=some l):(∃ T es b x y,op=.app T es b x y)/\∀ p∈l,∃ i o,p.2=.mv (some i) o/\(s.ho i).isSome=true:=by
 unfold Uf at h
 split at h
 rotate_left
 .cases h
 rename_i T es b x y
 refine ⟨⟨T,es,b,x,y,rfl⟩,?_⟩
 split at h
 rotate_left
 .cases h
 rename_i id _ _ _ _ _ _ _
 split at h
 rotate_left
 .cases h
 rename_i Ig
 split at h
 rotate_left
 .cases h
 cases h
 intro p hp
 rcases Aq.1 hp with rfl | hp
 .exact ⟨_,_,rfl,by rw [Ig];rfl⟩
 .rw [Am] at hp
  subst hp
  exact ⟨_,_,rfl,by rw [Ig];rfl⟩
theorem HoldsS.alt{C:Ctx}{s:DS}{β:Nat->Option Nat}{a:Act}{w:World}{o:Oper}{op:DOp}{l:List (DV×Upd)}(hs:HoldsS C s β a w)
  (hc:fH C.P o.op=some op) (he:Uf s.nx s op=some l):∃ p∈l,∃ nx w' β' x,(execOp a.eval o).run C.P w=.ok nx w'/\(nx=.value x\/(nx=.skip/\x=undef))/\
   HoldsS C { s.upd s.nx p.2 with nx:=s.nx+1 } β' a w'/\WV C (Us C (s.nx+1)) (({ s.upd s.nx p.2 with nx:=s.nx+1 } : DS).vw C) β' w' x p.1:=by
 obtain ⟨⟨T,es,b,x,y,rfl⟩,iY⟩:=Bt0 he
 obtain ⟨c,t,z,ho,Gs,Di,Ys,ht,hz,iX,Rs,rfl,rfl⟩:=Bo9 hc
 obtain ⟨p,hp,nx,w',β',v,h1,h2,h3,h4⟩:=Cv2 iX ho Gs Di Ys ht hz Rs rfl rfl hs.b (λh=>by have:=h.1;omega) he
 have eI:∀ id,Un (Us C s.nx) s.nx id->Us C (s.nx+1) id:=λid h=>by
  rcases h with h | rfl
  .exact ⟨by have:=h.1;omega,h.2⟩
  .exact ⟨by omega,λhr=>by have:=hs.r _ hr;omega⟩
 refine ⟨p,hp,nx,w',β',v,h1,h2,⟨?_,λid hr=>?_⟩,h4.grow eI⟩
 .obtain ⟨g1,g2,g3,g4,g5,g6⟩:=h3.grow eI
  exact ⟨g1,g2,g3,g4,g5,g6⟩
 .have:=hs.r id hr
  simp only
  omega
theorem B48{dr:Bool}{C:Ctx}{s:DS}{β:Nat->Option Nat}{a:Act}{w:World}{ops:Array Oper}{o:Oper}{r:DR}{K:DS->Prop}{next:Act->World->Prop}{Q:Exit->Act->World->Prop}(hs:HoldsS C s β a w)(hr:Pj C.P C.nt dr ops o=some r)
  (hk:Nb C.P r s K) (Rc:∀ s' β' a' w',HoldsS C s' β' a' w'->K s'->next a' w'):o.wpIn C.F 0 C.P a w next Q:=by
 obtain ⟨hd,pC,Oa⟩:=xb hr
 have Vg:∀ c,o.op≠.defer c:=λc hc=>by
  rw [hc,Au0] at Oa
  simp [Nb,Oa,exec,Ay,Uf] at hk
 have Rt:∀ (s':DS) (β':Nat->Option Nat) (w':World) (x:Value) (d:DV),HoldsS C s' β' a w'->WV C (Us C s'.nx) (s'.vw C) β' w' x d->K (s'.put r.dst d)->next (a.put o.dst x) w':=λs' β' w' x d h1 h2 h3=>by
  rw [<- hd]
  exact Rc _ β' _ w' ⟨by rw [DS.nx_put];exact h1.b.put r.dst pC h2,by rw [DS.nx_put];exact h1.r⟩ h3
 have gV:∀ f (vs:List Value) (ds:List DV),vs.length=ds.length->(∀ (j:Nat) (v:Value) (d:DV),vs[j]?=some v->ds[j]?=some d->WV C (Us C s.nx) (s.vw C) β w v d)->Uj C.P f=true->
   eX C.P f ds s (λs' d=>K (s'.put r.dst d))->(execOp a.eval o).run C.P w=.ok (.enter f vs.toArray) w->o.wpIn C.F 0 C.P a w next Q:=by
  intro f vs ds hl Ce Sh Ye Fo
  refine ⟨λ_ _=>trivial,?_⟩
  rw [Oper.semAt_plain _ _ _ Vg,Fo,Oper.uponIn_enter]
  refine ⟨λh=>by simp [Ctx.F,Fence.wide] at h,xd ((Cm0 hs.b hs.r hl Ce Ye).mono ?_)⟩
  rintro e w' ⟨v,d,s',β',rfl,hK,mJ,hh,Sg⟩
  exact Rt s' β' w' v d ⟨hh,mJ⟩ Sg hK
 have Di:∀ (args:List Operand) (j:Nat) (v:Value) (d:DV),(args.map a.eval)[j]?=some v->(args.map s.rv)[j]?=some d->WV C (Us C s.nx) (s.vw C) β w v d:=by
  intro args j v d hv hd
  simp only [Ee,Ac] at hv hd
  obtain ⟨x,hx,rfl⟩:=hv
  obtain ⟨y,hy,rfl⟩:=hd
  rw [hx] at hy;cases hy
  exact hs.b.rvw x
 cases hc:fH C.P o.op with
 | none=>rw [hc] at Oa;simp [Nb,Oa,exec,Ay,Uf] at hk
 | some op=>
  rw [hc] at Oa
  simp only [Hu] at Oa
  unfold Nb at hk
  rw [Oa] at hk
  split at hk
  .rename_i f args
   obtain ⟨c,ho,Gs,rfl⟩:=Ax6 hc
   refine gV f (c.args.toList.map a.eval) (c.args.toList.map s.rv) (by simp) (Di _) hk.1 hk.2 ?_
   simp [execOp,ho,resolve,Gs,Deferred.ofValue,Act.eval,invoke,Y6 hk.1,xa]
  .rename_i tb x args
   obtain ⟨c,ho,rfl,Gs⟩:=A84 hc
   split at hk
   .rename_i f fr cs HC
    rcases Gs with ⟨rfl,Gs⟩ | ⟨name,rfl,Gs⟩
    .have hx:=A08 HC
     simp only at hx
     have h1:=hs.b.ev x
     rw [hx] at h1
     obtain ⟨us,vs,e1,cJ,mC,aE,oF⟩:=uj h1
     refine gV _ (us++c.args.toList.map a.eval++vs) (fr++c.args.toList.map s.rv++cs) (by simp [cJ,mC]) (SE (by simp [cJ]) (SE cJ (λj v d hv hd=>?_) (Di _)) λj v d hv hd=>?_) hk.1 hk.2 ?_
     .exact hs.b.evp x (aE _ v d hv hd) λid hi=>by rw [hx,DV.refs,DV.refsL,DV.refs];exact Dq _ (DV.refsL_mem (Au hd) hi)
     .exact hs.b.evp x (oF _ v d hv hd) λid hi=>by rw [hx,DV.refs,DV.refsL];exact Em _ (DV.refsL_mem (Au hd) hi)
     .have h3:(us.toArray++(c.args.map a.eval++vs.toArray):Array Value)=(us++(c.args.toList.map a.eval++vs)).toArray:=by apply De;simp
      simp [execOp,ho,resolve,Gs,e1,Deferred.ofValue,invoke]
      rw [h3]
      exact Y6 hk.1 _ _
    .simp only [DV.tgt] at HC
     split at HC
     .rename_i T e hx
      obtain ⟨f',Vi,HB⟩:=Ac.1 HC
      cases HB
      have h1:=hs.b.ev x
      rw [hx] at h1
      obtain ⟨u,e1,Ce⟩:=C5 h1
      refine gV _ ([u]++c.args.toList.map a.eval) ([e]++c.args.toList.map s.rv ++ []) (by simp) (λj v d hv hd=>?_) hk.1 hk.2 ?_
      .rw [Dh] at hd
       cases j with
       | zero=>
        simp at hv hd
        subst hv hd
        exact hs.b.evp x Ce λid hi=>by rw [hx,DV.refs];exact hi
       | succ j=>exact Di c.args.toList j v d hv hd
      .have h3:=Ap5 (w:=w) Vi hk.1 u (c.args.map a.eval)
       have h4:(#[u]++c.args.map a.eval:Array Value)=([u]++c.args.toList.map a.eval).toArray:=by apply De;simp
       rw [h4] at h3
       have h5:Array.extract (#[a.eval x]++c.args.map a.eval) 1 (#[a.eval x]++c.args.map a.eval).size=c.args.map a.eval:=by
        apply De
        simp [Tk]
        exact Cc (by simp)
       have h6:(#[a.eval x]++c.args.map a.eval:Array Value)[0]?=some (.iface T u):=by rw [e1];first | rfl | simp [Yx]
       simp only [execOp,ho,resolve,Gs,Sem.run_bind,Sem.run_pure,Result.andThen_ok,invoke,h6,h5,h3]
     .cases HC
   .split at hk
    .rename_i i hi
     have S8:=(Bg4 hi).2
     obtain ⟨rfl,_⟩:=Bg4 hi
     rcases Gs with ⟨_,Gs⟩ | ⟨name,h,_⟩
     rotate_left
     .cases h
     have h1:=hs.b.ev x
     rw [S8] at h1
     obtain ⟨b,e1,hb⟩:=SD h1
     obtain ⟨fn,tmps,assign,body,hy,J2⟩:=B47 (vs:=c.args.toList.map a.eval) (ds:=c.args.toList.map s.rv) hs.b hs.r hb (by simp) (Di _) hk
     refine ⟨λ_ _=>trivial,?_⟩
     have Fo:(execOp a.eval o).run C.P w=.ok (.round b fn tmps assign body) w:=by
      rw [<- hy]
      simp [execOp,ho,resolve,Gs,e1,Deferred.ofValue,invoke,xa]
     rw [Oper.semAt_plain _ _ _ Vg,Fo,Oper.uponIn_round]
     refine ⟨λh=>by simp [Ctx.F,Fence.wide] at h,J2.mono ?_⟩
     rintro e w' ⟨v,d,s',β',rfl,hK,mJ,hh,Sg⟩
     exact Rt s' β' w' v d ⟨hh,mJ⟩ Sg hK
    .exact hk.elim
  .rename_i k x
   have ho:=Bo8 hc
   split at hk
   .rename_i l hl
    obtain ⟨p,hp,nx,w',β',y,h1,h2,h3,h4⟩:=Cw1 (nid:=s.nx) ho hs.b hl
    refine ⟨λ_ _=>trivial,?_⟩
    rw [Oper.semAt_plain _ _ _ Vg,h1]
    have h5:HoldsS C (s.upd s.nx p.2) β' a w':=⟨h3,hs.r⟩
    rcases h2 with rfl | ⟨rfl,rfl⟩
    .exact Rt _ β' w' y p.1 h5 h4 (hk p hp)
    .exact Rt _ β' w' undef p.1 h5 h4 (hk p hp)
   .exact hk.elim
  .rename_i aQk aQj aQi
   split at hk
   .rename_i d s' he
    obtain ⟨nx,w',β',x,h1,h2,h3,h4⟩:=hs.exec hc he
    refine ⟨λ_ _=>trivial,?_⟩
    rw [Oper.semAt_plain _ _ _ Vg,h1]
    rcases h2 with rfl | ⟨rfl,rfl⟩
    .exact Rt s' β' w' x d h3 h4 hk
    .exact Rt s' β' w' undef d h3 h4 hk
   .split at hk
    .rename_i l hl
     obtain ⟨p,hp,nx,w',β',y,h1,h2,h3,h4⟩:=hs.alt hc hl
     refine ⟨λ_ _=>trivial,?_⟩
     rw [Oper.semAt_plain _ _ _ Vg,h1]
     rcases h2 with rfl | ⟨rfl,rfl⟩
     .exact Rt _ β' w' y p.1 h3 h4 (hk p hp)
     .exact Rt _ β' w' undef p.1 h3 h4 (hk p hp)
    .exact hk.elim
theorem vh{dr:Bool}{C:Ctx}{ops:Array Oper}{K:DS->Prop}{Q:Exit->Act->World->Prop}(hQ:∀ s β a w,HoldsS C s β a w->K s->Q .normal a w) :
  ∀ (l:List DR) (i:Nat) (s:DS) (β:Nat->Option Nat) (a:Act) (w:World),(∀ (j:Nat) (r:DR),l[j]?=some r->∃ o,ops[i+j]?=some o/\Pj C.P C.nt dr ops o=some r)->
   HoldsS C s β a w->Zn C.P l s K->wpOpsIn C.F 0 C.P ops Q (List.range' i l.length) a w
 | [],i,s,β,a,w,_,hs,hk=>by simp only [My,List.range'_zero,wpOpsIn];exact hQ s β a w hs hk
 | r::rest,i,s,β,a,w,hl,hs,hk=>by
  obtain ⟨o,ho,hr⟩:=hl 0 r rfl
  simp only [Oq] at ho
  have aD:∀ (j:Nat) (r':DR),rest[j]?=some r'->∃ o,ops[i+1+j]?=some o/\Pj C.P C.nt dr ops o=some r':=λj r' hj=>by
   have:=hl (j+1) r' (by simpa using hj)
   rwa [show i+(j+1)=i+1+j by omega] at this
  obtain ⟨hd,pC,_⟩:=xb hr
  simp only [Zn] at hk
  simp only [Ec,List.range'_succ,wpOpsIn,ho]
  split at hk
  .rename_i hw
   rw [Af (vi hs.b hr hw)]
   exact B48 hs hr hk (λs' β' a' w' h1 h2=>vh hQ rest (i+1) s' β' a' w' aD h1 h2)
  .rename_i hw
   rw [vi hs.b hr hw]
   simp only [Eh,Ib]
   refine ⟨λ_ _=>trivial,vh hQ rest (i+1) _ β _ w aD ?_ hk⟩
   rw [<- hd]
   exact ⟨by rw [DS.nx_put];exact hs.b.put r.dst pC (WV.v undef),by rw [DS.nx_put];exact hs.r⟩
  .exact hk.elim
def vN(next:DS->Prop)(Q:Exit->DS->Prop):Exit->DS->Prop
 | .normal,s=>next s
 | e,s=>Q e s
def iC(id:Nat)(Q:Exit->DS->Prop):Exit->DS->Prop
 | .exit bG,s=>if bG=id then Q .normal s else Q (.exit bG) s
 | e,s=>Q e s
section rules
variable {C:Ctx} {Q:Exit->DS->Prop} {s:DS}
theorem DW.reg{ops:List DR}{info:RI}(h:Zn C.P ops s λs'=>Q .normal s'):DW C (.reg false ops info) Q s:=by
 intro code hc a w ⟨hR,β,hs⟩
 obtain ⟨id,os,rfl,hl,_⟩:=vn hc
 obtain ⟨h1,h2⟩:=mapM_some hl
 refine wpIn_region ?_
 have:=vh (dr:=false) (ops:=os) (K:=λs'=>Q .normal s') (Q:=Vy C Q) (λs β a w hh hk=>⟨s,hk,.of hh⟩) ops 0 s β a w (λj r hj=>?_) ⟨hs,hR⟩ h
 .rw [h1,Ck,<- List.range_eq_range'] at this
  exact this
 .have Wu:j<os.toList.length:=by have:=(As.1 hj).1;omega
  have:=h2 j os.toList[j] r (Aa Wu) hj
  exact ⟨os.toList[j],by simp at Wu ⊢,this⟩
theorem DW.mono{c:DC}{Q':Exit->DS->Prop}(h:DW C c Q s)(hq:∀ e s,Q e s->Q' e s):DW C c Q' s:=
 λcode hc a w hs=>wpIn_mono (h code hc a w hs) λ_ _ _ ⟨s,h1,h2⟩=>⟨s,hq _ _ h1,h2⟩
theorem DW.dfq{t:Nat}{g:FuncId}{cap:List Operand}(Hw:C.rd=none)(h:Q .normal (s.put (some t) (.fn (.func g) (.tup []::cap.map s.ev)))):DW C (.dfq t g cap) Q s:=by
 intro code hc a w ⟨hR,β,hs⟩
 obtain ⟨id,os,rfl,hd⟩:=Br2 hc
 obtain ⟨o,p,first,c,cs,rfl,Oa,rfl,tW,hg,dy,IA,hpg,Gs,hf0,hc0,ht,hq⟩:=Bn7 hd
 have ja:first = #[]:=Jm hf0
 obtain ⟨nx,w1,β1,x,h1,h2,h3,h4⟩:=Cb7 Oa hs
 rw [ja] at h4
 have Fo:(execOp a.eval o).run C.P w=.ok (.value (.func (.func g) #[] (cs.map a.eval))) w:=by
  have:first = #[]:=Jm hf0
  simp [execOp,Oa,Instr.makeFunc,this]
 rw [Fo] at h1
 cases h1
 have hx:x=.func (.func g) #[] (cs.map a.eval):=by
  rcases h2 with h2 | ⟨h2,_⟩
  .cases h2;rfl
  .cases h2
 subst hx
 refine wpIn_region ?_
 have g0:(#[o,p]:Array Oper)[0]?=some o:=rfl
 have g1:(#[o,p]:Array Oper)[1]?=some p:=rfl
 have gw0:∀ y,Region.wanted o y=true:=λy=>by unfold Region.wanted;rw [hg]
 have gw1:∀ y,Region.wanted p y=true:=λy=>by unfold Region.wanted;rw [hpg]
 show wpOpsIn C.F 0 C.P #[o,p] (Vy C Q) [0,1] a w
 simp only [wpOpsIn,g0,g1,gw0,gw1,Ex]
 have Vg:∀ c,o.op≠.defer c:=λc hc=>by rw [Oa] at hc;cases hc
 refine ⟨λ_ _=>trivial,?_⟩
 rw [Oper.semAt_plain _ _ _ Vg,Fo,Oper.uponIn_value,tW]
 have hp:=h3.put (some t) (λt' e=>by cases e;exact ht) h4
 have Ty:(a.put (some t) (.func (.func g) #[] (cs.map a.eval))).eval (.tmp t)=.func (.func g) #[] (cs.map a.eval):=by
  have:t<a.tmps.size:=by rw [hs.sz];exact ht
  simp [Act.put,Act.eval,this]
 have HT:C.F.round=none:=by
  show C.rd=none
  exact Hw
 refine ⟨λ_ _=>trivial,?_⟩
 have Di:c.args = #[]:=Jm hc0
 have HR:(execOp (a.put (some t) (.func (.func g) #[] (cs.map a.eval))).eval p).run C.P w=.ok (.defer { target:=.fn (.func g) (cs.map a.eval),args:=#[] }) w:=by
  simp [execOp,dy,resolve,Gs,Di,Ty,Deferred.ofValue]
 rw [HT,Oper.semAt_none,HR,Oper.uponIn_defer,IA]
 refine ⟨_,h,by rw [DS.nx_put];exact hR,β1,?_⟩
 rw [DS.nx_put]
 exact ⟨hp.hh,hp.df.quiet ⟨g,_,hq,rfl⟩,hp.sz,hp.sl,hp.gh,hp.yd⟩
theorem DW.skip(h:Q .normal s):DW C .skip Q s:=by
 intro code hc a w hs
 obtain rfl:=Bn8 hc
 exact wpIn_skip ⟨s,h,hs⟩
theorem DW.ret(h:Q .ret s):DW C .ret Q s:=by
 intro code hc a w hs
 obtain rfl:=Br3 hc
 exact wpIn_ret ⟨s,h,hs⟩
theorem DW.exit{id:Nat}(h:Q (.exit id) s):DW C (.exit id) Q s:=by
 intro code hc a w hs
 obtain rfl:=Bn9 hc
 exact wpIn_exit ⟨s,h,hs⟩
theorem DW.seq{x y:DC}(h:DW C x (vN (DW C y Q) Q) s):DW C (.seq x y) Q s:=by
 intro code hc a w hs
 obtain ⟨p,q,rfl,hx,hy⟩:=Br4 hc
 refine wpIn_seq (wpIn_mono (h p hx a w hs) ?_)
 rintro e a w ⟨s',h1,h2⟩
 cases e <;> first | exact h1 q hy a w h2 | exact ⟨s',h1,h2⟩
theorem DW.cond{x:Operand}{y z:DC}{b:Bool}(hb:s.ev x=.v (.bool b))(ht:b=true->DW C y Q s)(hf:b=false->DW C z Q s):DW C (.cond x y z) Q s:=by
 intro code hc a w hs
 obtain ⟨p,q,rfl,hy,hz⟩:=Bo0 hc
 have Ve:=hs
 obtain ⟨hR,β,hh⟩:=hs
 have h1:=hh.ev x
 rw [hb] at h1
 exact wpIn_cond_split (Eb h1) (λh=>ht h _ hy a w Ve) (λh=>hf h _ hz a w Ve)
theorem DW.blk{id:Nat}{c:DC}(h:DW C c (iC id Q) s):DW C (.blk id c) Q s:=by
 intro code hc a w hs
 obtain ⟨p,rfl,Kz⟩:=Br5 hc
 refine wpIn_block (wpIn_mono (h _ Kz a w hs) ?_)
 rintro e a w ⟨s',h1,h2⟩
 cases e <;> first | exact ⟨s',h1,h2⟩ | skip
 rename_i bG
 simp only [iC] at h1
 simp only [Exit.inBlock]
 split
 .rename_i he;rw [Af he] at h1;exact ⟨s',h1,h2⟩
 .rename_i he;rw [Ad he] at h1;exact ⟨s',h1,h2⟩
theorem DW.loop{c:DC}(I:Nat->DS->Prop)(n:Nat)(h0:I n s)(round:∀ n s,I n s->DW C c (vN (λs'=>∃ m,m<n/\I m s') Q) s):DW C (.loop c) Q s:=by
 intro code hc a w hs
 obtain ⟨p,rfl,Kz⟩:=Bo1 hc
 intro b k cs hro hb hr
 have key:∀ (n:Nat) (s:DS),I n s->∀ a w,Holds C s a w->∃ e a' w',Vy C Q e a' w'/\ArrivesIn (Machine.fenced C.P C.F) C.P (lone (b.atR a (.code p :: .inLoop p::k)) cs w) b k cs e a' w':=by
  intro n
  induction n using Nat.strongRecOn with
  | _ n ih=>
   intro s hI a w hs
   obtain ⟨e,a₁,w₁,⟨s',h1,h2⟩,eQ⟩:=round n s hI _ Kz a w hs b (.inLoop p::k) cs hro hb hr
   cases e with
   | normal=>
    obtain ⟨m,hm,hI'⟩:=h1
    obtain ⟨e₂,a₂,w₂,hq₂,KL⟩:=ih m hm s' hI' a₁ w₁ h2
    exact ⟨e₂,a₂,w₂,hq₂,.of_steps (StepsIn.trans eQ (.one (fenced_calm hb hr rfl) stepR_inLoop)) KL⟩
   | exit id=>exact ⟨_,a₁,w₁,⟨s',h1,h2⟩,.pass (x:=.inLoop p) rfl (λ_ _=>.inl (by simp)) eQ⟩
   | goto l=>exact ⟨_,a₁,w₁,⟨s',h1,h2⟩,.pass (x:=.inLoop p) rfl (λ_ _=>.inl (by simp)) eQ⟩
   | ret=>exact ⟨_,a₁,w₁,⟨s',h1,h2⟩,.pass (x:=.inLoop p) rfl (λ_ _=>.inl (by simp)) eQ⟩
   | panic ch=>exact ⟨_,a₁,w₁,⟨s',h1,h2⟩,.pass (x:=.inLoop p) rfl (λ_ _=>.inl (by simp)) eQ⟩
   | outgrown=>exact ⟨_,a₁,w₁,⟨s',h1,h2⟩,.pass (x:=.inLoop p) rfl (λ_ _=>.inl (by simp)) eQ⟩
 obtain ⟨e,a',w',hq,eQ⟩:=key n s h0 a w hs
 exact ⟨e,a',w',hq,.of_steps (.one (fenced_calm hb hr rfl) stepR_loop) eQ⟩
theorem DW.rng{g:Operand}{ps:List Nat}{x y:DC}{sl:Sl}(yH:sl.get=s.sv)(Hw:C.rd=none){f:FuncId}{Lv:List DV}
  (hg:(s.ev g).asFn=some (f,Lv)) (Sh:Uj C.P f=true)
  (h:Uc C.P f (.yl s.nx::Lv) { s with ho:=setH s.ho s.nx (some (.loop ⟨C.nt,sl,ps,x,y,.ready,none⟩)),nx:=s.nx+1 } λs2 _=>∃ lp,s2.ho s.nx=some (.loop lp)/\lp.st≠.busy/\match lp.pend with
   | none=>Q .normal (s2.lay s.nx none)
   | some .ret=>Q .ret (s2.lay s.nx none)
   | some (.exit i)=>Q (.exit i) (s2.lay s.nx none)
   | _=>False):DW C (.rng g ps x y) Q s:=by
 intro code hc a w ⟨hR,β,hs⟩
 obtain ⟨qs,ac,bc,rfl,hqs,aB7,hx,hy⟩:=Br6 hc
 refine wpIn_rangeFunc λfn _=>?_
 have hFr:C.F.round=none:=Hw
 rw [hFr]
 obtain ⟨rec,gM⟩:∃ rec:Loop,rec = { state:=.ready,pending:=none,fn,tmps:=a.tmps,params:=qs,assign:=ac,body:=bc,defers:=w.heap.size }:=⟨_,rfl⟩
 obtain ⟨w1,lZ⟩:∃ w1,(w.alloc (.deferred (some []))).alloc (.loop rec)=w1:=⟨_,rfl⟩
 have aPr:w1.heap.size=w.heap.size+2:=by rw [<- lZ];simp
 have hD:w1.heap[w.heap.size]?=some (.deferred (some [])):=by
  rw [<- lZ];exact (Below.heap_alloc _ _ _ (by simp)).trans (World.alloc_heap_new w _)
 have hL:w1.heap[w.heap.size+1]?=some (.loop rec):=by
  rw [<- lZ];have:=World.alloc_heap_new (w.alloc (.deferred (some []))) (.loop rec);rwa [World.size_alloc] at this
 have Mt:Below w.heap.size w w1:=by
  rw [<- lZ];exact ((Below.refl _ w).alloc (Ai _) _).alloc (by simp) _
 obtain ⟨id,hid⟩:∃ id,s.nx=id:=⟨_,rfl⟩
 have Sx:¬ Us C s.nx id:=λh=>by have:=h.1;omega
 obtain ⟨s1,Mz⟩:∃ s1:DS,{ s with ho:=setH s.ho s.nx (some (.loop ⟨C.nt,sl,ps,x,y,.ready,none⟩)),nx:=s.nx+1 } = s1:=⟨_,rfl⟩
 have oT:s1.nx=id+1:=by rw [<- Mz,<- hid]
 have kf:∀ i,C.R i->i<s1.nx:=λi hi=>by have:=hR i hi;omega
 have cJ:HoldsB C (Us C s1.nx) s1 (upd β id (some (w.heap.size+1))) a w1:=by
  have ht:=(hs.turned (β':=upd β id (some (w.heap.size+1))) (w':=w1) Sx none (λ_ h=>by cases h) (.loop ⟨C.nt,sl,ps,x,y,.ready,none⟩) (λb hb _=>Mt.block b hb) Mt.os Mt.tape Mt.output Mt.size (λj hj _=>aP β _ hj) (λ_ h=>by cases h)
   (λb hb=>by rw [Dc] at hb;cases hb;exact ⟨.inr (by omega),by omega⟩)
   (λCe=>by
    subst gM
    exact ⟨_,_,Dc _ _ _,hL,hqs,hs.sz,hx,hy,rfl,rfl,λt=>by rw [yH];exact Ce _ _ (hs.sl t)⟩)).1
  have Xd:=ht.grow (U':=Us C s1.nx) λi hi=>by
   rcases hi with hi | rfl
   .exact ⟨by have:=hi.1;omega,hi.2⟩
   .exact ⟨by omega,λhr=>by have:=hR _ hr;omega⟩
  have e:s1.ho=(s.upd id (.mv none (.loop ⟨C.nt,sl,ps,x,y,.ready,none⟩))).ho:=by rw [<- Mz,hid];rfl
  have e2:s1.vw C=(s.upd id (.mv none (.loop ⟨C.nt,sl,ps,x,y,.ready,none⟩))).vw C:=by unfold DS.vw;rw [e]
  have e3:s1.sv=s.sv:=by rw [<- Mz]
  obtain ⟨g1,g2,g3,g4,g5,g6⟩:=Xd
  exact ⟨by rw [e2];exact g1,g2,g3,by rw [e2,e3];exact g4,by rw [e2];exact g5,by rw [e];exact g6⟩
 have yS:∀ (d:Deferred) (D:Nat) (β':Nat->Option Nat),Mark C β' w d->d = { target:=.collected D,args:=#[] }->D<w.heap.size:=λd D β' hm e=>by
  obtain ⟨D',e',h1,_⟩:=hm
  rw [e] at e'
  simp only [Deferred.mk.injEq,Target.collected.injEq,and_true] at e'
  subst e'
  exact (Bt.1 h1).1
 have oE:HoldsB C (Us C s1.nx) s1 (upd β id (some (w.heap.size+1))) { a with defers:=[{ target:=.collected w.heap.size,args:=#[] }]++a.defers } w1:=by
  refine ⟨cJ.hh,⟨?_,λd hd=>?_,cJ.df.out,λD rL hM=>?_⟩,cJ.sz,cJ.sl,cJ.gh,cJ.yd⟩
  .rw [List.singleton_append,Wi (by rfl),Jy]
   exact ⟨λhm=>by have:=yS _ _ _ (hs.df.ownC (Ey.1 hm).1) rfl;omega,hs.df.nodup⟩
  .rcases Aq.1 hd with rfl | hd
   .refine .inl ⟨_,rfl,hD,hs.hh.bel.size,λj hj=>?_⟩
    by_cases Nu:j=id
    .subst Nu;rw [Dc] at hj;simp at hj
    .rw [aP β _ Nu] at hj;have:=hs.hh.lt hj;omega
   .exact cJ.df.own d hd
  .rcases Aq.1 rL with e | rL
   .simp only [Deferred.mk.injEq,Target.collected.injEq,and_true] at e
    subst e
    have:=yS _ _ _ (hs.df.out _ hM) rfl
    omega
   .exact hs.df.apart D rL hM
 have Yc:=hs.ev g
 have bQ:=Br7 hg
 simp only at bQ
 rw [bQ] at Yc
 obtain ⟨us,vs,e1,bp,hl,_,Ce⟩:=uj Yc
 have bn:us=[]:=Ef (by simpa using bp)
 subst bn
 have lG:a.eval g=.func (.func f) #[] vs.toArray:=by rw [<- e1]
 -- what was captured is as it was
 have Pf:∀ (j:Nat) (v:Value) (d:DV),vs[j]?=some v->Lv[j]?=some d->WV C (Us C s1.nx) (s1.vw C) (upd β id (some (w.heap.size+1))) w1 v d:=λj v d hv hd=>by
  have h1:=hs.evp g (Ce j v d hv hd) λi hi=>by rw [bQ,DV.refs,DV.refsL];exact Em _ (DV.refsL_mem (Au hd) hi)
  have ht:=(hs.turned (β':=upd β id (some (w.heap.size+1))) (w':=w1) Sx none (λ_ h=>by cases h) (.loop ⟨C.nt,sl,ps,x,y,.ready,none⟩) (λb hb _=>Mt.block b hb) Mt.os Mt.tape Mt.output Mt.size (λj hj _=>aP β _ hj) (λ_ h=>by cases h)
   (λb hb=>by rw [Dc] at hb;cases hb;exact ⟨.inr (by omega),by omega⟩)
   (λCe=>by
    subst gM
    exact ⟨_,_,Dc _ _ _,hL,hqs,hs.sz,hx,hy,rfl,rfl,λt=>by rw [yH];exact Ce _ _ (hs.sl t)⟩)).2 _ _ h1
  have e2:s1.vw C=(s.upd id (.mv none (.loop ⟨C.nt,sl,ps,x,y,.ready,none⟩))).vw C:=by rw [<- Mz,hid];rfl
  rw [e2]
  refine ht.grow λi hi=>?_
  rcases hi with hi | rfl
  .exact ⟨by have:=hi.1;omega,hi.2⟩
  .exact ⟨by omega,λhr=>by have:=hR _ hr;omega⟩
 have gl:s1.ho id=some (.loop ⟨C.nt,sl,ps,x,y,.ready,none⟩):=by rw [<- Mz,hid];simp
 have S8:WV C (Us C s1.nx) (s1.vw C) (upd β id (some (w.heap.size+1))) w1 (.func (.yield (w.heap.size+1)) #[] #[]) (.yl id):=
  cJ.hh.wv (.yl id _ (Dc _ _ _)) λi hi=>by
   obtain rfl:i=id:=by simpa [DV.refs] using hi
   exact lS (by rw [gl];rfl)
 rw [Mz,hid] at h
 refine ⟨w.heap.size+1,[{ target:=.collected w.heap.size,args:=#[] }],w1,{ target:=.fn (.func f) vs.toArray,args:=#[.func (.yield (w.heap.size+1)) #[] #[]] },w1,f,
  #[.func (.yield (w.heap.size+1)) #[] #[]]++vs.toArray,w1,?_,?_,λ_ _=>trivial,?_,λh=>by simp [Ctx.F,Fence.wide] at h,?_⟩
 .rw [<- lZ,gM];exact run_enterLoop_outer _ _ _ _ _
 .simp only [resolve,lG]
  simp [go_sem]
 .simp [invoke,Y6 Sh]
 .refine xd ?_
  have K3:Uc C.P f (.yl id::Lv) s1 λs2 _=>∃ lp,s2.ho id=some (.loop lp)/\lp.st≠.busy/\match lp.pend with
   | none=>Q .normal (s2.lay id none)
   | some .ret=>Q .ret (s2.lay id none)
   | some (.exit i)=>Q (.exit i) (s2.lay id none)
   | _=>False:=h
  have hX':=oE
  -- the yield's record goes on lying where it lies: others hold it
  obtain ⟨C2,Qc⟩:∃ C2:Ctx,C2 = { C with X:=λx d=>C.X x d\/(x=.func (.yield (w.heap.size+1)) #[] #[]/\d=.yl id) }:=⟨_,rfl⟩
  have hsX:HoldsB C2 (Us C2 s1.nx) s1 (upd β id (some (w.heap.size+1))) { a with defers:=[{ target:=.collected w.heap.size,args:=#[] }]++a.defers } w1:=by
   obtain ⟨g1,g2,g3,g4,g5,g6⟩:=oE
   obtain ⟨q1,q2⟩:=HH.ctx (C:=C) (C':=C2) (by rw [Qc]) (by rw [Qc]) (by rw [Qc]) (by rw [Qc]) g1
   have eU:Us C2 s1.nx=Us C s1.nx:=by rw [Qc];rfl
   have eV:s1.vw C2=s1.vw C:=by rw [Qc];rfl
   refine ⟨by rw [eU,eV];exact q1,⟨g2.nodup,λd hd=>?_,λD hD=>?_,λD hD=>?_⟩,by rw [Qc];exact g3,λt=>by rw [eU,eV];exact (q2 _ _).2 (g4 t),λv d hx=>?_,by rw [Qc];exact g6⟩
   .have:=g2.own d hd;rw [Qc];exact this
   .rw [Qc] at hD ⊢;exact g2.out D hD
   .rw [Qc];exact g2.apart D hD
   .rw [eU,eV,q2]
    rw [Qc] at hx
    rcases hx with (hx | ⟨rfl,rfl⟩) | hx
    .exact g5 _ _ (.inl hx)
    .exact S8
    .exact g5 _ _ (.inr hx)
  have hP2:C2.P=C.P:=by rw [Qc]
  have Pg:=Bh8 (C:=C2) (vs:=.func (.yield (w.heap.size+1)) #[] #[]::vs) (ds:=.yl id::Lv) hsX (by rw [Qc];exact kf) (by simp [hl]) (λj v d hv hd=>by
   have e:∀ v d,WV C2 (Us C2 s1.nx) (s1.vw C2) (upd β id (some (w.heap.size+1))) w1 v d↔WV C (Us C s1.nx) (s1.vw C) (upd β id (some (w.heap.size+1))) w1 v d:=λv d=>by rw [Qc];exact Da
   rw [e]
   cases j with
   | zero=>simp at hv hd;subst hv hd;exact S8
   | succ j=>exact Pf j v d (by simpa using hv) (by simpa using hd)) (by rw [hP2];exact K3)
  rw [hP2] at Pg
  have Di:(Value.func (.yield (w.heap.size+1)) #[] #[]::vs).toArray = #[.func (.yield (w.heap.size+1)) #[] #[]]++vs.toArray:=by simp
  rw [Di] at Pg
  refine Pg.mono ?_
  rintro e w3 ⟨v,d,s2,β2,rfl,⟨lp,iW,If,eB⟩,QO,HP,_⟩
  have Ww:β2 id=some (w.heap.size+1):=by
   have h1:=(HP.gh (.func (.yield (w.heap.size+1)) #[] #[]) (.yl id) (.inl (by rw [Qc];exact .inr ⟨rfl,rfl⟩))).2.1 λi hi=>by
    obtain rfl:i=id:=by simpa [DV.refs] using hi
    exact lS (by rw [iW];rfl)
   obtain ⟨b2,e,Ww⟩:=SD h1
   cases e;exact Ww
  have Vd:HoldsB C (Us C s2.nx) s2 β2 { a with defers:=[{ target:=.collected w.heap.size,args:=#[] }]++a.defers } w3:=by
   obtain ⟨g1,g2,g3,g4,g5,g6⟩:=HP
   obtain ⟨q1,q2⟩:=HH.ctx (C:=C2) (C':=C) (by rw [Qc]) (by rw [Qc]) (by rw [Qc]) (by rw [Qc]) g1
   have eU:Us C2 s2.nx=Us C s2.nx:=by rw [Qc];rfl
   have eV:s2.vw C2=s2.vw C:=by rw [Qc];rfl
   rw [eU,eV] at q1 q2
   refine ⟨q1,⟨g2.nodup,λd hd=>?_,λD hD=>?_,λD hD=>?_⟩,by rw [Qc] at g3;exact g3,λt=>(q2 _ _).2 (by have:=g4 t;rwa [eU,eV] at this),λv d hx=>(q2 _ _).2 (by have:=g5 v d (hx.imp (λhx=>by rw [Qc];exact .inl hx) (λh=>h));rwa [eU,eV] at this),by rw [Qc] at g6;exact g6⟩
   .have:=g2.own d hd;rw [Qc] at this;exact this
   .have:=g2.out D (by rw [Qc];exact hD);rw [Qc] at this;exact this
   .have:=g2.apart D hD;rw [Qc] at this;exact this
  obtain ⟨b',r2,Ht,tM,_,_,_,_,q5,q6,_⟩:=Vd.hh.hp id _ (dB iW)
  rw [Ww] at Ht;cases Ht
  have aQo:=(Bt.1 tM).1
  have JW:=run_endLoop (P:=C.P) tM (by rw [q5];exact If)
  have Vc:Holds C (s2.lay id none) { a with defers:=[{ target:=.collected w.heap.size,args:=#[] }]++a.defers } (w3.putObj (w.heap.size+1) (.loop { r2 with state:=.exhausted })):=by
   -- first the record is written,then it is forgotten
   have hm:=Vd.mark Ww iW tM .exhausted r2.pending
   have IX:=hm.hh.less (U':=Us C s2.nx) (V':=(s2.lay id none).vw C) (β':=upd β2 id none) (λ_ h=>h) (λi=>?_) (λi=>?_)
   .refine ⟨by rw [Qc] at QO;exact QO,_,hm.carry (s':=s2.lay id none) rfl (λi o hy=>?_) IX⟩
    by_cases hi:i=id
    .subst hi;simp
    .rw [DS.ho_lay_other _ _ hi];have:=Vd.yd i o hy;exact this
   .by_cases hi:i=id
    .subst hi
     refine .inr ⟨Dc _ _ _,?_⟩
     have:=Vd.apart (i:=i) (by rw [iW];rfl)
     simp [DS.vw,Lm,DS.lay,this]
    .exact .inl (aP _ _ hi)
   .by_cases hi:i=id
    .subst hi
     have:=Vd.apart (i:=i) (by rw [iW];rfl)
     exact .inr (by simp [DS.vw,Lm,DS.lay,this])
    .exact .inl (by simp [DS.vw,Lm,DS.lay,setH,hi])
  obtain ⟨w4,hw4⟩:∃ w4,w3.putObj (w.heap.size+1) (.loop { r2 with state:=.exhausted })=w4:=⟨_,rfl⟩
  rw [hw4] at JW Vc
  refine ⟨r2.pending,w4,JW,?_⟩
  rw [q6]
  split at eB
  .rename_i hp;rw [hp];exact ⟨_,eB,Vc⟩
  .rename_i hp;rw [hp];exact wpIn_ret ⟨_,eB,Vc⟩
  .rename_i i hp;rw [hp];exact wpIn_exit ⟨_,eB,Vc⟩
  .exact eB.elim
def Imp(s s':DS):Prop:=∀ C a w,Holds C s a w->Holds C s' a w
end rules
end Go.DD

/- Regions that draw their order: one run in the text's order serves every order. The operations that write, and the calls, stand in one order by their edges; what is only made lies by itself; all others read the same at every moment at which they may come. -/
namespace Go.DD
open Go.RowKit (Below)
structure Agree (op:DOp) (s s':DS):Prop where
 ev:∀ x∈op.opnds,s'.ev x=s.ev x
 rv:∀ x∈op.opnds,s'.rv x=s.rv x
 ho:op.rdC=true->∀ x∈op.opnds,∀ id∈(s.ev x).refs,s'.ho id=s.ho id
theorem TL{s s':DS}{Zk:Int}{x:Option Operand}(h:∀ y∈x.toList,s'.ev y=s.ev y):Im s' Zk x=Im s Zk x:=by
 cases x with
 | none=>rfl
 | some y=>simp [Im,h y (by simp)]
theorem TM{nid:Nat}{s s':DS}{op:DOp}(h:Agree op s s'):Ay nid s' op=Ay nid s op:=by
 obtain ⟨h1,zN,h2⟩:=h
 cases op with
 | bld z ps=>
  have:ps.map (λp=>(p.1,p.2.1,s'.ev p.2.2))=ps.map λp=>(p.1,p.2.1,s.ev p.2.2):=
   Ea λp hp=>by rw [h1 p.2.2 (by simp only [DOp.opnds,Bm];exact ⟨p,hp,rfl⟩)]
  simp only [Ay,this]
 | bsl T n es z ps=>
  have:ps.map (λp=>(p.1,p.2.1,s'.ev p.2.2))=ps.map λp=>(p.1,p.2.1,s.ev p.2.2):=
   Ea λp hp=>by rw [h1 p.2.2 (by simp only [DOp.opnds,Bm];exact ⟨p,hp,rfl⟩)]
  simp only [Ay,this]
 | mkf f fst cap=>
  have e1:fst.map s'.ev=fst.map s.ev:=Ea λx hx=>h1 x (by simp [DOp.opnds,hx])
  have e2:cap.map s'.ev=cap.map s.ev:=Ea λx hx=>h1 x (by simp [DOp.opnds,hx])
  simp only [Ay,e1,e2]
 | sli es x lo hi=>
  have hx:=h1 x (by simp [DOp.opnds])
  have Gg:∀ d,Im s' d lo=Im s d lo:=λd=>TL λy hy=>h1 y (by simp [DOp.opnds];exact .inr (.inl (by simpa using hy)))
  have Sw:∀ d,Im s' d hi=Im s d hi:=λd=>TL λy hy=>h1 y (by simp [DOp.opnds];exact .inr (.inr (by simpa using hy)))
  simp only [Ay,hx,Gg,Sw]
 | sls x lo hi=>
  have hx:=h1 x (by simp [DOp.opnds])
  have Gg:∀ d,Im s' d lo=Im s d lo:=λd=>TL λy hy=>h1 y (by simp [DOp.opnds];exact .inr (.inl (by simpa using hy)))
  have Sw:∀ d,Im s' d hi=Im s d hi:=λd=>TL λy hy=>h1 y (by simp [DOp.opnds];exact .inr (.inr (by simpa using hy)))
  simp only [Ay,hx,Gg,Sw]
 | ld k x=>
  have hx:=h1 x (by simp [DOp.opnds])
  have hh:=h2 rfl x (by simp [DOp.opnds])
  simp only [Ay,hx]
  split
  .rfl
  .rename_i id off e
   rw [hh id (by rw [e];simp [DV.refs])]
  .rfl
 | st n p x=>
  have hp:=h1 p (by simp [DOp.opnds])
  have hx:=h1 x (by simp [DOp.opnds])
  have hh:=h2 rfl p (by simp [DOp.opnds])
  simp only [Ay,hp,hx]
  split
  .rename_i id off e
   rw [hh id (by rw [e];simp [DV.refs])]
  .rfl
 | app T es bytes d x=>
  have hd:=h1 d (by simp [DOp.opnds])
  have hx:=h1 x (by simp [DOp.opnds])
  have hhd:=h2 rfl d (by simp [DOp.opnds])
  have K8:=h2 rfl x (by simp [DOp.opnds])
  have e1:dstD s' T es (s.ev d)=dstD s T es (s.ev d):=by
   unfold dstD
   split
   .rfl
   .rename_i id n es' e
    rw [hhd id (by rw [e];simp [DV.refs])]
   .rfl
  have e2:srcD s' T es (s.ev x)=srcD s T es (s.ev x):=by
   unfold srcD
   split
   .rfl
   .rfl
   .rfl
   .rename_i id off n es' e
    rw [K8 id (by rw [e];simp [DV.refs])]
   .rfl
  simp only [Ay,hd,hx,e1,e2]
 | mkm=>rfl
 | lkp kd z x k ok=>
  have hx:=h1 x (by simp [DOp.opnds])
  have hh:=h2 rfl x (by simp [DOp.opnds])
  simp only [Ay,hx,h1 k (by simp [DOp.opnds])]
  split
  .split
   .split
    .rfl
    .rename_i id e
     rw [hh id (by rw [e];simp [DV.refs])]
    .rfl
   .rfl
  .rfl
 | men kd z x k=>
  have hx:=h1 x (by simp [DOp.opnds])
  have hh:=h2 rfl x (by simp [DOp.opnds])
  simp only [Ay,hx,h1 k (by simp [DOp.opnds])]
  split
  .split
   .split
    .rename_i id e
     rw [hh id (by rw [e];simp [DV.refs])]
    .rfl
   .rfl
  .rfl
 | mes x q y=>
  have hx:=h1 x (by simp [DOp.opnds])
  have hh:=h2 rfl x (by simp [DOp.opnds])
  simp only [Ay,hx,h1 q (by simp [DOp.opnds]),h1 y (by simp [DOp.opnds])]
  split
  .rename_i id n e _
   rw [hh id (by rw [e];simp [DV.refs])]
  .rfl
 | rgm x=>
  have hx:=h1 x (by simp [DOp.opnds])
  have hh:=h2 rfl x (by simp [DOp.opnds])
  simp only [Ay,hx]
  split
  .rfl
  .rename_i id e
   rw [hh id (by rw [e];simp [DV.refs])]
  .rfl
 | nxm k x=>rfl
 | rgs x=>simp only [Ay,h1 x (by simp [DOp.opnds])]
 | nxs x=>
  have hx:=h1 x (by simp [DOp.opnds])
  have hh:=h2 rfl x (by simp [DOp.opnds])
  simp only [Ay,hx]
  split
  .rename_i id e
   rw [hh id (by rw [e];simp [DV.refs])]
  .rfl
 | mki T x=>simp only [Ay,h1 x (by simp [DOp.opnds])]
 | tas T z x ok=>simp only [Ay,h1 x (by simp [DOp.opnds])]
 | sla T n es x=>
  have hx:=h1 x (by simp [DOp.opnds])
  have hh:=h2 rfl x (by simp [DOp.opnds])
  simp only [Ay,hx]
  split
  .rename_i id e
   rw [hh id (by rw [e];simp [DV.refs])]
  .rfl
 | cpy es x y=>
  have hx:=h1 x (by simp [DOp.opnds])
  have hy:=h1 y (by simp [DOp.opnds])
  have K8:=h2 rfl x (by simp [DOp.opnds])
  have hhy:=h2 rfl y (by simp [DOp.opnds])
  have e2:Wn s' es (s.ev y)=Wn s es (s.ev y):=by
   unfold Wn
   split
   .rfl
   .rfl
   .rename_i id off n es' e
    rw [hhy id (by rw [e];simp [DV.refs])]
   .rfl
  simp only [Ay,hx,hy,e2]
  split
  .rename_i id off n es' news m e _
   rw [K8 id (by rw [e];simp [DV.refs])]
  .rfl
 | mup kd x k y=>
  have hx:=h1 x (by simp [DOp.opnds])
  have hh:=h2 rfl x (by simp [DOp.opnds])
  simp only [Ay,hx,h1 k (by simp [DOp.opnds]),h1 y (by simp [DOp.opnds])]
  split
  .split
   .split
    .rename_i id e
     rw [hh id (by rw [e];simp [DV.refs])]
    .rfl
   .rfl
  .rfl
 | lnm x=>
  have hx:=h1 x (by simp [DOp.opnds])
  have hh:=h2 rfl x (by simp [DOp.opnds])
  simp only [Ay,hx]
  split
  .rfl
  .rename_i id e
   rw [hh id (by rw [e];simp [DV.refs])]
  .rfl
 | mv x=>simp only [Ay,zN x (by simp [DOp.opnds])]
 | pick c p q=>simp only [Ay,h1 c (by simp [DOp.opnds]),zN p (by simp [DOp.opnds]),zN q (by simp [DOp.opnds])]
 | al T z=>rfl
 | bx T x=>simp only [Ay,h1 x (by simp [DOp.opnds])]
 | nck x=>simp only [Ay,h1 x (by simp [DOp.opnds])]
 | bin o x y=>simp only [Ay,h1 x (by simp [DOp.opnds]),h1 y (by simp [DOp.opnds])]
 | bb o x y=>simp only [Ay,h1 x (by simp [DOp.opnds]),h1 y (by simp [DOp.opnds])]
 | eqs o k x y=>simp only [Ay,h1 x (by simp [DOp.opnds]),h1 y (by simp [DOp.opnds])]
 | nilq o k x y=>simp only [Ay,h1 x (by simp [DOp.opnds]),h1 y (by simp [DOp.opnds])]
 | un o x=>simp only [Ay,h1 x (by simp [DOp.opnds])]
 | cvi o x=>simp only [Ay,h1 x (by simp [DOp.opnds])]
 | fa o x=>simp only [Ay,h1 x (by simp [DOp.opnds])]
 | fld o k x=>simp only [Ay,h1 x (by simp [DOp.opnds])]
 | ia es x i=>simp only [Ay,h1 x (by simp [DOp.opnds]),h1 i (by simp [DOp.opnds])]
 | ixs x i=>simp only [Ay,h1 x (by simp [DOp.opnds]),h1 i (by simp [DOp.opnds])]
 | len x=>simp only [Ay,h1 x (by simp [DOp.opnds])]
 | lns x=>simp only [Ay,h1 x (by simp [DOp.opnds])]
 | fx n es x i=>simp only [Ay,h1 x (by simp [DOp.opnds]),h1 i (by simp [DOp.opnds])]
 | s2b x=>simp only [Ay,h1 x (by simp [DOp.opnds])]
 | b2s x=>
  have hx:=h1 x (by simp [DOp.opnds])
  have K8:=h2 rfl x (by simp [DOp.opnds])
  have e2:Wn s' 1 (s.ev x)=Wn s 1 (s.ev x):=by
   unfold Wn
   split
   .rfl
   .rfl
   .rename_i id off m es' e
    rw [K8 id (by rw [e];simp [DV.refs])]
   .rfl
  simp only [Ay,hx,e2]
 | frz x=>
  have hx:=h1 x (by simp [DOp.opnds])
  have K8:=h2 rfl x (by simp [DOp.opnds])
  simp only [Ay,hx]
  split
  .rename_i id n e
   rw [K8 id (by rw [e];simp [DV.refs])]
  .rfl
 | mdl kd x k=>
  have hx:=h1 x (by simp [DOp.opnds])
  have hh:=h2 rfl x (by simp [DOp.opnds])
  simp only [Ay,hx,h1 k (by simp [DOp.opnds])]
  split
  .split
   .split
    .rename_i id e
     rw [hh id (by rw [e];simp [DV.refs])]
    .rfl
   .rfl
  .rfl
 | cpn x=>simp only [Ay,h1 x (by simp [DOp.opnds])]
 | apz T es b d n=>simp only [Ay,h1 d (by simp [DOp.opnds]),h1 n (by simp [DOp.opnds])]
 | mks T es b z l c=>simp only [Ay,h1 l (by simp [DOp.opnds]),h1 c (by simp [DOp.opnds])]
 | ext x i=>simp only [Ay,h1 x (by simp [DOp.opnds]),zN x (by simp [DOp.opnds])]
 | mm o x y=>simp only [Ay,h1 x (by simp [DOp.opnds]),h1 y (by simp [DOp.opnds])]
 | call f args=>rfl
 | cv tb f args=>rfl
 | bad=>rfl
theorem SV:∀ (rs:List DR) (acc:List (List Nat)),(Li rs acc).length=acc.length+rs.length
 | [],acc=>by simp [Li]
 | r::rs,acc=>by simp [Li,SV rs];omega
theorem NU:∀ (rs:List DR) (acc:List (List Nat)) (k:Nat),k<acc.length->(Li rs acc)[k]?=acc[k]?
 | [],acc,k,_=>rfl
 | r::rs,acc,k,h=>by
  simp only [Li]
  rw [NU rs _ k (by simp;omega),Cz h]
theorem UF:∀ (rs:List DR) (acc:List (List Nat)) (k:Nat) (r:DR) (l:List Nat),rs[k]?=some r->(∀ (k:Nat) (r:DR),rs[k]?=some r->∀ j∈r.pre,j<acc.length+k)->(Li rs acc)[acc.length+k]?=some l->
  ∀ x∈l,x∈r.pre\/∃ j∈r.pre,∃ l',(Li rs acc)[j]?=some l'/\x∈l'
 | [],acc,k,r,l,h,_,_=>by simp at h
 | r0::rs,acc,0,r,l,h,hb,hl=>by
  simp at h;subst h
  intro x hx
  have eF:l=(r0.pre++r0.pre.flatMap λj=>(acc[j]?).getD []).eraseDups:=by
   simp only [Li] at hl
   rw [NU rs _ _ (by simp)] at hl
   simpa using hl.symm
  rw [eF,Sp,Aw] at hx
  rcases hx with hx | hx
  .exact .inl hx
  .obtain ⟨j,hj,hx⟩:=Pt.1 hx
   have Wu:j<acc.length:=hb 0 r0 rfl j hj
   refine .inr ⟨j,hj,acc[j],?_,by simpa [Aa Wu] using hx⟩
   simp only [Li]
   rw [NU rs _ j (by simp;omega),Cz Wu,Aa Wu]
 | r0::rs,acc,k+1,r,l,h,hb,hl=>by
  have key:=UF rs (acc ++ [(r0.pre++r0.pre.flatMap λj=>(acc[j]?).getD []).eraseDups]) k r l (by simpa using h)
   (λk' r' eA j hj=>by have:=hb (k'+1) r' (by simpa using eA) j hj;simp;omega)
   (by simp only [Li] at hl;rw [<- hl];congr 1;simp;omega)
  simpa only [Li] using key
def sJ:List Bool->Nat
 | []=>0
 | b::bs=>(if b then 0 else 1)+sJ bs
theorem Bt1:∀ (l:List Bool) (i:Nat),l[i]?=some false->sJ (l.set i true)+1=sJ l
 | [],i,h=>by simp at h
 | b::bs,0,h=>by simp at h;subst h;simp [sJ];omega
 | b::bs,i+1,h=>by
  have:=Bt1 bs i (by simpa using h)
  simp only [List.set_cons_succ,sJ]
  omega
theorem Bh9:∀ (l:List Bool),sJ l=0->∀ b∈l,b=true
 | [],_,b,hb=>by cases hb
 | c::bs,h,b,hb=>by
  simp only [sJ] at h
  rcases Aq.1 hb with rfl | hb
  .cases b
   .simp at h
   .rfl
  .exact Bh9 bs (by omega) b hb
theorem Bd6{rs:List DR}{L:List Bool}(Vf:∀ (k:Nat) (r:DR),rs[k]?=some r->∀ j∈r.pre,j<k)(Vn:∀ (i:Nat) (r:DR),L[i]?=some true->rs[i]?=some r->∀ j∈r.pre,L[j]?=some true) :
  ∀ (i:Nat) (r:DR) (l:List Nat),rs[i]?=some r->(∀ j∈r.pre,L[j]?=some true)->(Li rs [])[i]?=some l->∀ x∈l,L[x]?=some true:=by
 intro i
 induction i using Nat.strongRecOn with
 | _ i ih=>
  intro r l hr hp hl x hx
  rcases UF rs [] i r l hr (λk r' hk j hj=>by have:=Vf k r' hk j hj;simp;omega) (by simpa using hl) x hx with h | ⟨j,hj,l',eF,HD⟩
  .exact hp x h
  .have Nu:=Vf i r hr j hj
   have kS:i<rs.length:=(As.1 hr).1
   have PU:rs[j]?=some rs[j]:=Aa (by omega)
   exact ih j Nu rs[j] l' PU (Vn j rs[j] (hp j hj) PU) eF x HD
structure RG where
 d:Nat->DV
 lay:Nat->Option DObj
 tgt:Nat->Option Nat
 ob:Nat->DObj
 main:List Nat
 H:Nat->Nat->Option DObj
 N:Nat->Nat
section
variable (rs:List DR) (s0:DS) (D:RG)
def Vq(i:Nat):List Nat:=((Li rs [])[i]?).getD []
def Es(i j:Nat):Bool:=(Vq rs i).contains j
def RG.pr(k j:Nat):Bool:=(D.main.take k).any λq=>Es rs q j
def RG.unp(k id:Nat):Option Nat:=if s0.nx<=id/\id<s0.nx+rs.length/\(D.lay (id-s0.nx)).isSome=true/\D.pr rs k (id-s0.nx)=false then some (id-s0.nx) else none
def Se(tgt:Nat->Option Nat)(L:Nat->Bool)(j:Nat):Nat->Option Nat
 | 0=>none
 | n+1=>if tgt n=some j/\L n=true then some n else Se tgt L j n
def RG.cur(L:Nat->Bool)(j:Nat):Option DObj:=match Se D.tgt L j rs.length with
 | some w=>some (D.ob w)
 | none=>D.lay j
def RG.full(L:Nat->Bool)(k:Nat):Nat->Option DObj:=λid=>match D.unp rs s0 k id with
 | some j=>if L j then D.cur rs L j else none
 | none=>D.H k id
def RG.sv(L:Nat->Bool):Nat->DV:=λt=>match rs.findIdx? (λr=>r.dst==some t) with
 | some p=>if L p then D.d p else s0.sv t
 | none=>s0.sv t
def RG.at_(L:Nat->Bool)(k:Nat):DS:=⟨D.sv rs s0 L,D.full rs s0 L k,D.N k⟩
def RG.st(i k:Nat):DS:=D.at_ rs s0 (Es rs i) k
def Sd(s:DS)(r:DR):Prop:=∀ t,.tmp t∈r.op.opnds->s.live (s.sv t)=true
def RG.may(i k:Nat):Prop:=k<=D.main.length/\(∀ (q j:Nat),q<k->D.main[q]?=some j->Es rs j i=false)/\(∀ (q j:Nat),k<=q->D.main[q]?=some j->Es rs i j=false)
def DS.hasU(s:DS):Upd->Bool
 | .wr id _=>(s.ho id).isSome
 | .mv (some id) _=>(s.ho id).isSome
 | _=>true
def aN(P:Program)(f:FuncId)(ds:List DV)(s:DS)(d:DV)(H':Nat->Option DObj)(n':Nat):Prop:=
 Uj P f=true/\(Uc P f ds s (λs' d'=>d'=d/\s'.ho=H'/\s'.nx=n')\/(H'=s.ho/\n'=s.nx/\(∀ x∈ds,x.refs=[])/\DCall P f ds λd'=>d'=d))
def RG.ev(P:Program)(i:Nat)(r:DR):Prop:=
 match (D.st rs s0 i 0).wanted r.g with
 | none=>False
 | some false=>D.d i=.v undef/\D.lay i=none/\D.tgt i=none/\i∉D.main
 | some true=>match r.op with
  | .call f args=>∃ k,D.main[k]?=some i/\Sd (D.st rs s0 i k) r/\aN P f (args.map (D.st rs s0 i k).rv) (D.st rs s0 i k) (D.d i) (D.H (k+1)) (D.N (k+1))
  | .cv tb x args=>∃ k f fr cs,D.main[k]?=some i/\Sd (D.st rs s0 i k) r/\((D.st rs s0 i k).ev x).tgt tb=some (f,fr,cs)/\aN P f (fr++args.map (D.st rs s0 i k).rv++cs) (D.st rs s0 i k) (D.d i) (D.H (k+1)) (D.N (k+1))
  | op=>(∃ k u,D.main[k]?=some i/\Sd (D.st rs s0 i k) r/\(D.st rs s0 i k).hasU u=true/\Ay (D.N k) (D.st rs s0 i k) op=some (D.d i,u)/\D.H (k+1)=u.app (D.N k) (D.st rs s0 i k).ho/\D.N (k+1)=if u.new then D.N k+1 else D.N k)\/
    (i∉D.main/\∀ k,D.may rs i k->Sd (D.st rs s0 i k) r/\∃ u,Ay (s0.nx+i) (D.st rs s0 i k) op=some (D.d i,u)/\match u with
     | .keep=>D.lay i=none/\D.tgt i=none
     | .lay o=>D.lay i=some o/\D.tgt i=none
     | .wr id o=>∃ j,D.unp rs s0 k id=some j/\Es rs i j=true/\D.tgt i=some j/\D.ob i=o/\D.lay i=none
     | _=>False)
structure RG.OKs:Prop where
 pre:∀ (k:Nat) (r:DR),rs[k]?=some r->∀ j∈r.pre,j<k
 dst:∀ (i j:Nat) (r r':DR) (t:Nat),rs[i]?=some r->rs[j]?=some r'->r.dst=some t->r'.dst=some t->i=j
 rd:∀ (i:Nat) (r:DR) (t p:Nat),rs[i]?=some r->t∈r.tmps->rs.findIdx? (λr=>r.dst==some t)=some p->Es rs i p=true\/Es rs p i=true\/p=i
 chain:∀ (a b i j:Nat),D.main[a]?=some i->D.main[b]?=some j->a<b->Es rs j i=true
 mlt:∀ (a i:Nat),D.main[a]?=some i->i<rs.length/\D.lay i=none/\D.tgt i=none
 wr1:∀ (w j:Nat),D.tgt w=some j->Es rs w j=true
 wr2:∀ (i j w:Nat),i<rs.length->w<rs.length->Es rs i j=true->D.tgt w=some j->Es rs i w=true\/Es rs w i=true\/w=i
 h0:D.H 0=s0.ho
 n0:D.N 0=s0.nx+rs.length
 mono:∀ k,D.N k<=D.N (k+1)
structure RG.OK (P:Program):Prop extends RG.OKs rs s0 D where
 ev:∀ (i:Nat) (r:DR),rs[i]?=some r->D.ev rs s0 P i r
end
end Go.DD

/- Regions that draw their order, second part: the theorem. -/
namespace Go.DD
open Go.RowKit (Below)
theorem HoldsB.congr{C:Ctx}{U:Nat->Prop}{s s':DS}{β:Nat->Option Nat}{a:Act}{w:World}(h:HoldsB C U s β a w)(h1:s'.sv=s.sv)(h2:s'.ho=s.ho):HoldsB C U s' β a w:=by
 have e:s'.vw C=s.vw C:=by unfold DS.vw;rw [h2]
 obtain ⟨g1,g2,g3,g4,g5,g6⟩:=h
 exact ⟨by rw [e];exact g1,g2,g3,by rw [e,h1];exact g4,by rw [e];exact g5,by rw [h2];exact g6⟩
section
variable {C:Ctx} {rs:List DR} {s0:DS} {D:RG} {L L':Nat->Bool} {i k:Nat} {r:DR}
theorem OC(Ih:D.OKs rs s0){i j:Nat}(hi:i<rs.length)(h:Es rs i j=true):j<i:=by
 have key:∀ (i:Nat),i<rs.length->∀ j∈Vq rs i,j<i:=by
  intro i
  induction i using Nat.strongRecOn with
  | _ i ih=>
   intro hi j hj
   have kS:i<(Li rs []).length:=by rw [SV];simpa using hi
   have hr:rs[i]?=some rs[i]:=Aa hi
   have hl:(Li rs [])[i]?=some (Vq rs i):=by simp [Vq,Aa kS]
   rcases UF rs [] i rs[i] _ hr (λk r' hk j hj=>by have:=Ih.pre k r' hk j hj;simp;omega) (by simpa using hl) j hj with h | ⟨x,hx,l',eF,yZ⟩
   .exact Ih.pre i _ hr j h
   .have h1:=Ih.pre i _ hr x hx
    have:=ih x h1 (by omega) j (by simp only [Vq,eF,Hu];exact yZ)
    omega
 exact key i hi j (by simpa [Es] using h)
theorem A10{tgt:Nat->Option Nat}{L:Nat->Bool}{j:Nat} : ∀ {n w:Nat},Se tgt L j n=some w->w<n/\tgt w=some j/\L w=true
 | 0,w,h=>by cases h
 | n+1,w,h=>by
  simp only [Se] at h
  split at h
  .rename_i hc;cases h;exact ⟨by omega,hc.1,hc.2⟩
  .have:=A10 h;exact ⟨by omega,this.2⟩
theorem NW{tgt:Nat->Option Nat}{L L':Nat->Bool}{j:Nat} : ∀ {n:Nat},(∀ w,w<n->tgt w=some j->L' w=L w)->Se tgt L' j n=Se tgt L j n
 | 0,h=>rfl
 | n+1,h=>by
  simp only [Se]
  rw [NW (n:=n) λw hw=>h w (by omega)]
  by_cases ht:tgt n=some j
  .rw [h n (by omega) ht]
  .simp [ht]
theorem A86{tgt:Nat->Option Nat}{L:Nat->Bool}{j i:Nat}(ht:tgt i=some j)(hL:L i=true):∀ {n:Nat},i<n->(∀ w,w<n->i<w->tgt w=some j->L w=false)->Se tgt L j n=some i
 | 0,h,_=>by omega
 | n+1,h,hl=>by
  simp only [Se]
  by_cases hn:i=n
  .subst hn;rw [Af ⟨ht,hL⟩]
  .have hc:¬ (tgt n=some j/\L n=true):=λ⟨h1,h2⟩=>by rw [hl n (by omega) (by omega) h1] at h2;cases h2
   rw [Ad hc]
   exact A86 ht hL (by omega) λw hw=>hl w (by omega)
theorem Bi0{L:Nat->Bool}{j:Nat}(h:(D.lay j).isSome=true):(D.cur rs L j).isSome=true:=by
 unfold RG.cur
 split
 .rfl
 .exact h
structure Done (rs:List DR) (D:RG) (L:Nat->Bool) (k:Nat):Prop where
 cl:∀ i,i<rs.length->L i=true->∀ j,Es rs i j=true->L j=true
 le:k<=D.main.length
 mn:∀ (q j:Nat),D.main[q]?=some j->(L j=true↔q<k)
variable (Ih:D.OKs rs s0) (hD:Done rs D L k) (hr:rs[i]?=some r) (hi:L i=false) (Kp:∀ j,Es rs i j=true->L j=true)
include Ih hr
omit Ih in
theorem To:i<rs.length:=(As.1 hr).1
include hD hi Kp
omit hr in
theorem UE:D.may rs i k:=by
 refine ⟨hD.le,λq j hq hj=>?_,λq j hq hj=>?_⟩
 .cases h:Es rs j i with
  | false=>rfl
  | true=>have:=hD.cl j (Ih.mlt q j hj).1 ((hD.mn q j hj).2 hq) i h;rw [hi] at this;cases this
 .cases h:Es rs i j with
  | false=>rfl
  | true=>have:=(hD.mn q j hj).1 (Kp j h);omega
omit hr in
theorem SU{k0:Nat}(h:D.main[k0]?=some i):k0=k:=by
 have h1:¬ k0<k:=λEz=>by have:=(hD.mn k0 i h).2 Ez;rw [hi] at this;cases this
 rcases Dd k k0 with Ez | Yc
 .have hk:k<D.main.length:=by have:=(As.1 h).1;omega
  have hm:D.main[k]?=some D.main[k]:=Aa hk
  have:=(hD.mn k _ hm).1 (Kp _ (Ih.chain k k0 _ _ hm h Ez))
  omega
 .omega
theorem SB(t:Nat)(ht:t∈r.tmps):D.sv rs s0 L t=D.sv rs s0 (Es rs i) t:=by
 unfold RG.sv
 cases hp:rs.findIdx? (λr=>r.dst==some t) with
 | none=>rfl
 | some p=>
  simp only
  have oK:p<rs.length:=(Hi.1 hp).1
  rcases Ih.rd i r t p hr ht hp with h | h | rfl
  .rw [Af (Kp p h),Af h]
  .have h1:Es rs i p=false:=by
    cases hx:Es rs i p with
    | false=>rfl
    | true=>
     have h2:=OC Ih (To hr) hx
     have h3:=OC Ih oK h
     omega
   have h2:L p=false:=by
    cases hx:L p with
    | false=>rfl
    | true=>have:=hD.cl p oK hx i h;rw [hi] at this;cases this
   rw [h1,h2]
  .have h1:Es rs p p=false:=by
    cases hx:Es rs p p with
    | false=>rfl
    | true=>have:=OC Ih (To hr) hx;omega
   rw [h1,hi]
theorem Bi2{j:Nat}(ha:Es rs i j=true):D.cur rs (Es rs i) j=D.cur rs L j:=by
 unfold RG.cur
 rw [NW (L:=L) (L':=Es rs i) λw hw ht=>?_]
 rcases Ih.wr2 i j w (To hr) hw ha ht with h | h | rfl
 .rw [h,Kp w h]
 .have h1:L w=false:=by
   cases hx:L w with
   | false=>rfl
   | true=>have:=hD.cl w hw hx i h;rw [hi] at this;cases this
  have h2:Es rs i w=false:=by
   cases hx:Es rs i w with
   | false=>rfl
   | true=>have:=Kp w hx;rw [h1] at this;cases this
  rw [h1,h2]
 .have h2:Es rs w w=false:=by
   cases hx:Es rs w w with
   | false=>rfl
   | true=>have:=OC Ih hw hx;omega
  rw [h2,hi]
theorem Bi3{id:Nat}{o:DObj}(h:D.full rs s0 (Es rs i) k id=some o):D.full rs s0 L k id=some o:=by
 unfold RG.full at h ⊢
 split at h
 .rename_i j hj
  split at h
  .rename_i ha;rw [Af (Kp j ha),<- Bi2 Ih hD hr hi Kp ha];exact h
  .cases h
 .exact h
theorem Bp1:(D.at_ rs s0 L k).wanted r.g=(D.st rs s0 i 0).wanted r.g:=by
 unfold DS.wanted
 cases hg:r.g with
 | none=>rfl
 | some p=>
  obtain ⟨t,b⟩:=p
  have:=SB Ih hD hr hi Kp t (by simp [DR.tmps,hg])
  simp only [RG.st,RG.at_,this]
theorem TE(hl:Sd (D.st rs s0 i k) r):Agree r.op (D.st rs s0 i k) (D.at_ rs s0 L k):=by
 have Ty:∀ x∈r.op.opnds,(D.at_ rs s0 L k).ev x=(D.st rs s0 i k).ev x:=λx hx=>by
  cases x with
  | tmp t=>
   have h1:D.sv rs s0 L t=D.sv rs s0 (Es rs i) t:=SB Ih hD hr hi Kp t (by
    simp only [DR.tmps,Aw,Gn]
    exact .inl ⟨_,hx,rfl⟩)
   have h2:=hl t hx
   have h3:(D.at_ rs s0 L k).live ((D.at_ rs s0 L k).sv t)=true:=by
    have e:(D.at_ rs s0 L k).sv t=(D.st rs s0 i k).sv t:=h1
    rw [e]
    refine Bi.2 λid hid=>?_
    have h4:=Bi.1 h2 id hid
    obtain ⟨o,ho⟩:=Du.1 h4
    have:=Bi3 Ih hD hr hi Kp (id:=id) (o:=o) ho
    show (D.full rs s0 L k id).isSome=true
    rw [this];rfl
   simp only [DS.ev]
   rw [Af h3,Af h2]
   exact h1
  | _=>rfl
 have hrv:∀ x∈r.op.opnds,(D.at_ rs s0 L k).rv x=(D.st rs s0 i k).rv x:=λx hx=>by
  cases x with
  | tmp t=>exact SB Ih hD hr hi Kp t (by
    simp only [DR.tmps,Aw,Gn]
    exact .inl ⟨_,hx,rfl⟩)
  | _=>rfl
 refine ⟨Ty,hrv,λ_ x hx id hid=>?_⟩
 have h4:=HoldsB.eva (s:=D.st rs s0 i k) x id hid
 obtain ⟨o,ho⟩:=Du.1 h4
 have:=Bi3 Ih hD hr hi Kp (id:=id) (o:=o) ho
 exact this.trans ho.symm
omit hD hi Kp in
theorem Bt2(Nw:∀ j,L' j=(j==i||L j))(k':Nat)(s:DS)(hs:s.sv=D.sv rs s0 L)(hh:s.ho=D.full rs s0 L' k'):(D.at_ rs s0 L' k').sv=(s.put r.dst (D.d i)).sv/\(D.at_ rs s0 L' k').ho=(s.put r.dst (D.d i)).ho:=by
 refine ⟨?_,by rw [DS.ho_put,hh];rfl⟩
 funext t
 show D.sv rs s0 L' t=_
 have tW:∀ p,rs.findIdx? (λr=>r.dst==some t)=some p->∃ r',rs[p]?=some r'/\r'.dst=some t:=λp hp=>by
  obtain ⟨h1,h2⟩:=Hi.1 hp
  have h3:=List.findIdx_getElem (xs:=rs) (p:=λr=>r.dst==some t) (w:=by omega)
  subst h2
  exact ⟨_,Aa h1,by simpa using h3⟩
 have Hg:r.dst≠some t->D.sv rs s0 L' t=D.sv rs s0 L t:=λHa=>by
  unfold RG.sv
  cases hp:rs.findIdx? (λr=>r.dst==some t) with
  | none=>rfl
  | some p=>
   obtain ⟨r',h1,h2⟩:=tW p hp
   have hpi:p≠i:=λe=>by subst e;rw [hr] at h1;cases h1;exact Ha h2
   simp [Nw,hpi]
 cases hd:r.dst with
 | none=>
  rw [Hg (by rw [hd];simp)]
  show _=s.sv t
  rw [hs]
 | some u=>
  by_cases hu:u=t
  .subst hu
   rw [DS.sv_put_same]
   unfold RG.sv
   cases hp:rs.findIdx? (λr=>r.dst==some u) with
   | none=>
    have:=List.findIdx?_eq_none_iff.1 hp r (Au hr)
    simp [hd] at this
   | some p=>
    obtain ⟨r',h1,h2⟩:=tW p hp
    have:p=i:=Ih.dst p i r' r u h1 hr h2 hd
    subst this
    simp [Nw]
  .rw [DS.sv_put_other _ _ hu,Hg (by rw [hd];simpa using hu),hs]
omit hr hi Kp in
theorem Bd7{j:Nat}(hj:D.lay j≠none)(Wu:j<rs.length)(gY:L j=false):D.unp rs s0 k (s0.nx+j)=some j:=by
 unfold RG.unp
 have e:s0.nx+j-s0.nx=j:=by omega
 rw [e]
 rw [Af]
 refine ⟨by omega,by omega,Option.isSome_iff_ne_none.2 hj,?_⟩
 cases h:D.pr rs k j with
 | false=>rfl
 | true=>
  unfold RG.pr at h
  obtain ⟨q,hq,hqa⟩:=Wl.1 h
  obtain ⟨p,hp,rfl⟩:=Bq.1 hq
  have hpk:p<k/\p<D.main.length:=by rw [Bs] at hp;omega
  have hm:D.main[p]?=some (D.main.take k)[p]:=by
   rw [Er];exact Aa hpk.2
  have:=hD.cl _ (Ih.mlt p _ hm).1 ((hD.mn p _ hm).2 hpk.1) j hqa
  rw [gY] at this;cases this
omit Ih hD hr hi Kp in
theorem cZ{id j:Nat}(h:D.unp rs s0 k id=some j):id=s0.nx+j/\j<rs.length/\(D.lay j).isSome=true/\D.pr rs k j=false:=by
 unfold RG.unp at h
 split at h
 .rename_i hc
  cases h
  exact ⟨by omega,by omega,hc.2.2.1,hc.2.2.2⟩
 .cases h
omit Ih hD hr hi Kp in
theorem SS(Nw:∀ j,L' j=(j==i||L j)){j:Nat}(ht:D.tgt i≠some j):D.cur rs L' j=D.cur rs L j:=by
 unfold RG.cur
 rw [NW (L:=L) (L':=L') λw _ hw=>by
  have bg:w≠i:=λe=>ht (by rw [<- e];exact hw)
  rw [Nw,Dn.2 bg,Gp]]
omit Kp in
theorem Bi4(Nw:∀ j,L' j=(j==i||L j)){o:DObj}(ho:D.lay i=some o)(ht:D.tgt i=none):D.full rs s0 L' k=setH (D.full rs s0 L k) (s0.nx+i) (some o):=by
 funext id
 by_cases hid:id=s0.nx+i
 .subst hid
  rw [Ri]
  unfold RG.full
  rw [Bd7 Ih hD (by rw [ho];simp) (To hr) hi]
  have hc:D.cur rs L' i=some o:=by
   unfold RG.cur
   cases hl:Se D.tgt L' i rs.length with
   | none=>exact ho
   | some w=>
    exfalso
    obtain ⟨h1,h2,h3⟩:=A10 hl
    have bg:w≠i:=λe=>by rw [e,ht] at h2;cases h2
    rw [Nw,Dn.2 bg,Gp] at h3
    have:=hD.cl w h1 h3 i (Ih.wr1 w i h2)
    rw [hi] at this;cases this
  simp [Nw,hc]
 .rw [sD _ _ hid]
  unfold RG.full
  cases hu:D.unp rs s0 k id with
  | none=>rfl
  | some j=>
   have Nu:j≠i:=λe=>hid (by rw [(cZ hu).1,e])
   simp only [SS Nw (j:=j) (by rw [ht];simp)]
   simp [Nw,Nu]
theorem Bt3(Nw:∀ j,L' j=(j==i||L j)){aB j:Nat}(hu0:D.unp rs s0 k aB=some j)(ha:Es rs i j=true)(ht:D.tgt i=some j)(Zg:D.lay i=none):D.full rs s0 L' k=setH (D.full rs s0 L k) aB (some (D.ob i)):=by
 funext id
 by_cases hid:id=aB
 .subst hid
  rw [Ri]
  unfold RG.full
  rw [hu0]
  have gY:L' j=true:=by rw [Nw,Kp j ha];simp
  have hc:D.cur rs L' j=some (D.ob i):=by
   unfold RG.cur
   rw [A86 ht (by rw [Nw];simp) (To hr) λw hw hiw HE=>?_]
   rw [Nw,Dn.2 (by omega),Gp]
   cases hx:L w with
   | false=>rfl
   | true=>
    rcases Ih.wr2 i j w (To hr) hw ha HE with h | h | h
    .have:=OC Ih (To hr) h;omega
    .have:=hD.cl w hw hx i h;rw [hi] at this;cases this
    .omega
  simp [gY,hc]
 .rw [sD _ _ hid]
  unfold RG.full
  cases hu:D.unp rs s0 k id with
  | none=>rfl
  | some j'=>
   have hjj:j'≠j:=λe=>hid (by rw [(cZ hu).1,(cZ hu0).1,e])
   have Nu:j'≠i:=λe=>by have:=(cZ hu).2.2.1;rw [e,Zg] at this;cases this
   simp only [SS Nw (j:=j') (by rw [ht];simpa using λe=>hjj e.symm)]
   simp [Nw,Nu]
omit Ih hD hr hi Kp in
theorem TD(Nw:∀ j,L' j=(j==i||L j))(ho:D.lay i=none)(ht:D.tgt i=none):D.full rs s0 L' k=D.full rs s0 L k:=by
 funext id
 unfold RG.full
 cases hu:D.unp rs s0 k id with
 | none=>rfl
 | some j=>
  have Nu:j≠i:=λe=>by have:=(cZ hu).2.2.1;rw [e,ho] at this;cases this
  simp only [SS Nw (j:=j) (by rw [ht];simp)]
  simp [Nw,Nu]
omit Ih hD hr hi Kp in
theorem NI(hm:D.main[k]?=some i)(j:Nat):D.pr rs (k+1) j=(D.pr rs k j||Es rs i j):=by
 unfold RG.pr
 rw [List.take_add_one,hm]
 simp
omit Ih hD hr hi Kp in
theorem vg(Nw:∀ j,L' j=(j==i||L j))(hm:D.main[k]?=some i)(Zg:D.lay i=none)(ht:D.tgt i=none)(id:Nat):D.full rs s0 L' (k+1) id=match D.unp rs s0 k id with
  | some j=>if Es rs i j then D.H (k+1) id else if L j then D.cur rs L j else none
  | none=>D.H (k+1) id:=by
 cases hu:D.unp rs s0 k id with
 | none=>
  have:D.unp rs s0 (k+1) id=none:=by
   cases h:D.unp rs s0 (k+1) id with
   | none=>rfl
   | some j=>
    obtain ⟨e1,e2,e3,e4⟩:=cZ h
    rw [NI hm,Ld] at e4
    have:D.unp rs s0 k id=some j:=by
     unfold RG.unp
     have e:id-s0.nx=j:=by omega
     rw [e,Af ⟨by omega,by omega,e3,e4.1⟩]
    rw [hu] at this;cases this
  unfold RG.full
  rw [this]
 | some j=>
  obtain ⟨e1,e2,e3,e4⟩:=cZ hu
  have e:id-s0.nx=j:=by omega
  simp only
  by_cases ha:Es rs i j=true
  .rw [Af ha]
   have:D.unp rs s0 (k+1) id=none:=by
    unfold RG.unp
    rw [e,Ad (λhc=>by rw [NI hm,ha] at hc;simp at hc)]
   unfold RG.full
   rw [this]
  .rw [Ad ha]
   have:D.unp rs s0 (k+1) id=some j:=by
    unfold RG.unp
    rw [e,Af ⟨by omega,by omega,e3,by rw [NI hm,e4];simpa using ha⟩]
   unfold RG.full
   rw [this]
   have Nu:j≠i:=λe=>by rw [e,Zg] at e3;cases e3
   simp only [SS Nw (j:=j) (by rw [ht];simp)]
   simp [Nw,Nu]
theorem vf(id:Nat):D.full rs s0 (Es rs i) k id=match D.unp rs s0 k id with
  | some j=>if Es rs i j then D.full rs s0 L k id else none
  | none=>D.full rs s0 L k id:=by
 unfold RG.full
 cases hu:D.unp rs s0 k id with
 | none=>rfl
 | some j=>
  simp only
  by_cases ha:Es rs i j=true
  .rw [Af ha,Af ha,Af (Kp j ha),Bi2 Ih hD hr hi Kp ha]
  .rw [Ad ha,Ad ha]
theorem Bi5(Nw:∀ j,L' j=(j==i||L j))(hm:D.main[k]?=some i)(Zg:D.lay i=none)(ht:D.tgt i=none){u:Upd}(hN:s0.nx+rs.length<=D.N k)(hU:(D.st rs s0 i k).hasU u=true)
  (hH:D.H (k+1)=u.app (D.N k) (D.st rs s0 i k).ho):D.full rs s0 L' (k+1)=u.app (D.N k) (D.full rs s0 L k):=by
 have oB:D.unp rs s0 k (D.N k)=none:=by
  unfold RG.unp
  rw [Ad]
  intro hc;omega
 have dS:=vf (D:=D) (rs:=rs) (s0:=s0) (L:=L) (k:=k) Ih hD hr hi Kp
 have If:(D.st rs s0 i k).ho=D.full rs s0 (Es rs i) k:=rfl
 rw [If] at hH
 funext id
 rw [vg Nw hm Zg ht]
 have eO:∀ id,(match D.unp rs s0 k id with
  | some j=>if Es rs i j then D.full rs s0 (Es rs i) k id else if L j then D.cur rs L j else none
  | none=>D.full rs s0 (Es rs i) k id)=D.full rs s0 L k id:=λid=>by
  rw [dS id]
  cases hu:D.unp rs s0 k id with
  | none=>rfl
  | some j=>
   simp only
   by_cases ha:Es rs i j=true
   .rw [Af ha,Af ha]
   .rw [Ad ha];unfold RG.full;rw [hu]
 have yK:∀ aB,(D.full rs s0 (Es rs i) k aB).isSome=true->∀ j,D.unp rs s0 k aB=some j->Es rs i j=true:=λaB h j hj=>by
  rw [dS,hj] at h
  simp only at h
  split at h
  .assumption
  .cases h
 -- a change at one number
 have Ik:∀ (ho Ox:Nat->Option DObj) (aB:Nat) (x:Option DObj),(∀ j,D.unp rs s0 k aB=some j->Es rs i j=true)->
   (∀ id,(match D.unp rs s0 k id with
    | some j=>if Es rs i j then ho id else if L j then D.cur rs L j else none
    | none=>ho id)=Ox id)->
   ∀ id,(match D.unp rs s0 k id with
    | some j=>if Es rs i j then setH ho aB x id else if L j then D.cur rs L j else none
    | none=>setH ho aB x id)=setH Ox aB x id:=λho Ox aB x h1 h2 id=>by
  by_cases he:id=aB
  .subst he
   rw [Ri,Ri]
   cases hu:D.unp rs s0 k id with
   | none=>rfl
   | some j=>simp only;rw [Af (h1 j hu)]
  .rw [sD _ _ he,sD _ _ he];exact h2 id
 rw [hH]
 cases u with
 | keep=>exact eO id
 | lay o=>exact Ik _ _ _ _ (λj hj=>by rw [oB] at hj;cases hj) eO id
 | wr aB o=>exact Ik _ _ _ _ (yK aB hU) eO id
 | mv Hv o=>
  cases Hv with
  | none=>exact Ik _ _ _ _ (λj hj=>by rw [oB] at hj;cases hj) eO id
  | some aB=>exact Ik _ _ _ _ (λj hj=>by rw [oB] at hj;cases hj) (Ik _ _ _ _ (yK aB hU) eO) id
end
def Ur(C:Ctx)(rs:List DR)(s0:DS)(D:RG)(L:Nat->Bool)(k id:Nat):Prop:=id<D.N k/\¬ (C.R id\/(s0.nx<=id/\id<s0.nx+rs.length/\L (id-s0.nx)=false))
theorem iF{rs:List DR}{s0:DS}{D:RG}(Ih:D.OKs rs s0):∀ k,s0.nx+rs.length<=D.N k
 | 0=>by rw [Ih.n0];omega
 | k+1=>Ep (iF Ih k) (Ih.mono k)
theorem A87{C:Ctx}{U:Nat->Prop}{a:Act}{w:World}{o:Oper}{d:DV}{s':DS}{next:Act->World->Prop}{Q:Exit->Act->World->Prop}(Vg:∀ c,o.op≠.defer c)(h:OpOk C U a w o d s')
  (Rc:∀ β' w' x,HoldsB C U s' β' a w'->WV C U (s'.vw C) β' w' x d->next (a.put o.dst x) w'):o.wpIn C.F 0 C.P a w next Q:=by
 obtain ⟨nx,w',β',x,h1,h2,h3,h4⟩:=h
 refine ⟨λ_ _=>trivial,?_⟩
 rw [Oper.semAt_plain _ _ _ Vg,h1]
 rcases h2 with rfl | ⟨rfl,rfl⟩
 .exact Rc β' w' x h3 h4
 .exact Rc β' w' undef h3 h4
theorem A88{C:Ctx}{a:Act}{w:World}{o:Oper}{f:FuncId}{vs:Array Value}{R:Ending->World->Prop}{next:Act->World->Prop}{Q:Exit->Act->World->Prop}(Vg:∀ c,o.op≠.defer c)
  (Fo:(execOp a.eval o).run C.P w=.ok (.enter f vs) w) (hc:Calls C.P f vs w R) (Rc:∀ e w',R e w'->∃ v,e=.returned v/\next (a.put o.dst v) w'):o.wpIn C.F 0 C.P a w next Q:=by
 refine ⟨λ_ _=>trivial,?_⟩
 rw [Oper.semAt_plain _ _ _ Vg,Fo,Oper.uponIn_enter]
 refine ⟨λh=>by simp [Ctx.F,Fence.wide] at h,xd (hc.mono ?_)⟩
 intro e w' h
 obtain ⟨v,rfl,hn⟩:=Rc e w' h
 exact hn
theorem B49{C:Ctx}{rs:List DR}{s0:DS}{D:RG}{L L':Nat->Bool}{i k:Nat}{r:DR}{ops:Array Oper}{o:Oper}{a:Act}{w:World}{β:Nat->Option Nat}{next:Act->World->Prop}{Q:Exit->Act->World->Prop}
  (pQ:D.OK rs s0 C.P) (hD:Done rs D L k) (hr:rs[i]?=some r) (hi:L i=false) (Kp:∀ j,Es rs i j=true->L j=true) (Nw:∀ j,L' j=(j==i||L j)) (hR:∀ id,C.R id->id<s0.nx)
  (hc:Pj C.P C.nt true ops o=some r) (hs:HoldsB C (Ur C rs s0 D L k) (D.at_ rs s0 L k) β a w)
  (Rc:∀ k' β' a' w',Done rs D L' k'->HoldsB C (Ur C rs s0 D L' k') (D.at_ rs s0 L' k') β' a' w'->next a' w') :
  ∃ b,Region.wanted o (yielded ops a.tmps)=b/\(b=true->o.wpIn C.F 0 C.P a w next Q)/\(b=false->next (a.put o.dst undef) w):=by
 obtain ⟨hd,pC,Oa⟩:=xb hc
 have Ih:=pQ.toOKs
 have Ty:=pQ.ev i r hr
 unfold RG.ev at Ty
 rw [<- Bp1 Ih hD hr hi Kp (k:=k)] at Ty
 have Nj:∀ k',D.N k<=D.N k'->∀ id,Ur C rs s0 D L k id->Ur C rs s0 D L' k' id:=λk' hk id ⟨h1,h2⟩=>by
  refine ⟨by omega,λh=>h2 ?_⟩
  rcases h with h | ⟨g1,g2,g3⟩
  .exact .inl h
  .refine .inr ⟨g1,g2,?_⟩
   rw [Nw] at g3
   exact (Ld.1 g3).2
 have bU:i∉D.main->Done rs D L' k:=λhn=>by
  refine ⟨λj hj gY x hx=>?_,hD.le,λq j hq=>?_⟩
  .rw [Nw] at gY ⊢
   rcases Bool.or_eq_true_iff.1 gY with h | h
   .have:j=i:=by simpa using h
    subst this
    rw [Kp x hx];simp
   .rw [hD.cl j hj h x hx];simp
  .have Nu:j≠i:=λe=>hn (by rw [<- e];exact Au hq)
   rw [Nw];simp only [Dn.2 Nu,Gp]
   exact hD.mn q j hq
 have gZ:D.main[k]?=some i->Done rs D L' (k+1):=λhm=>by
  refine ⟨λj hj gY x hx=>?_,by have:=(As.1 hm).1;omega,λq j hq=>?_⟩
  .rw [Nw] at gY ⊢
   rcases Bool.or_eq_true_iff.1 gY with h | h
   .have:j=i:=by simpa using h
    subst this
    rw [Kp x hx];simp
   .rw [hD.cl j hj h x hx];simp
  .rw [Nw]
   by_cases Nu:j=i
   .subst Nu
    have:q=k:=SU Ih hD hi Kp hq
    simp;omega
   .simp only [Dn.2 Nu,Gp]
    rw [hD.mn q j hq]
    have:q≠k:=λe=>Nu (by rw [e,hm] at hq;exact (Ge hq).symm)
    omega
 -- what the next state is
 have Rt:∀ (k':Nat) (s':DS) (β':Nat->Option Nat) (w':World) (x:Value),Done rs D L' k'->s'.sv=D.sv rs s0 L->s'.ho=D.full rs s0 L' k'->HoldsB C (Ur C rs s0 D L' k') s' β' a w'->WV C (Ur C rs s0 D L' k') (s'.vw C) β' w' x (D.d i)->next (a.put o.dst x) w':=
  λk' s' β' w' x h1 h2 h3 h4 h5=>by
   rw [<- hd]
   obtain ⟨e1,e2⟩:=Bt2 Ih hr Nw k' s' h2 h3
   exact Rc k' β' _ w' h1 ((h4.put r.dst pC h5).congr e1 e2)
 cases hw:(D.at_ rs s0 L k).wanted r.g with
 | none=>rw [hw] at Ty;exact Ty.elim
 | some b=>
  refine ⟨b,vi hs hc hw,λhb=>?_,λhb=>?_⟩
  .subst hb
   rw [hw] at Ty
   simp only at Ty
   have Vg:∀ c,o.op≠.defer c:=λc KC=>by
    rw [KC,Au0] at Oa
    simp only [Option.getD_none] at Oa
    rw [Oa] at Ty
    simp only [Ay] at Ty
    rcases Ty with ⟨k,u,h⟩ | ⟨h1,h2⟩
    .simp at h
    .obtain ⟨_,u,h,_⟩:=h2 k (UE Ih hD hi Kp)
     cases h
   -- calls
   have Vo:∀ (f:FuncId) (vs:List Value) (ds:List DV),D.main[k]?=some i->vs.length=ds.length->(∀ (j:Nat) (v:Value) (d:DV),vs[j]?=some v->ds[j]?=some d->WV C (Ur C rs s0 D L k) ((D.at_ rs s0 L k).vw C) β w v d)->
     aN C.P f ds (D.st rs s0 i k) (D.d i) (D.H (k+1)) (D.N (k+1))->(Uj C.P f=true->(execOp a.eval o).run C.P w=.ok (.enter f vs.toArray) w)->o.wpIn C.F 0 C.P a w next Q:=by
    intro f vs ds hm hl Ce ⟨Sh,aH⟩ Fo
    have Zg:=(Ih.mlt k i hm).2.1
    have PR:=(Ih.mlt k i hm).2.2
    rcases aH with aH | ⟨hH,hN,K7,Pg⟩
    .
     let hid:Nat->Option DObj:=λid=>match D.unp rs s0 k id with
      | some j=>if L j=true/\Es rs i j=false then D.cur rs L j else none
      | none=>none
     have Xy:(D.at_ rs s0 L k).ho=Lm hid (D.full rs s0 (Es rs i) k):=by
      funext id
      show D.full rs s0 L k id=_
      unfold Lm
      rw [vf (L:=L) Ih hD hr hi Kp]
      simp only [hid]
      cases hu:D.unp rs s0 k id with
      | none=>simp only;cases D.full rs s0 L k id <;> rfl
      | some j=>
       simp only
       by_cases ha:Es rs i j=true
       .rw [Af ha]
        have:D.full rs s0 L k id=D.cur rs L j:=by unfold RG.full;rw [hu];simp [Kp j ha]
        rw [this]
        obtain ⟨o',Ox⟩:=Du.1 (Bi0 (rs:=rs) (L:=L) (cZ hu).2.2.1)
        rw [Ox]
       .rw [Ad ha]
        simp only
        unfold RG.full;rw [hu]
        have uB:Es rs i j=false:=by simpa using ha
        simp [uB]
     have M9:∀ id o,hid id=some o->D.full rs s0 (Es rs i) k id=none:=λid o' h=>by
      simp only [hid] at h
      split at h
      .rename_i j hu
       split at h
       .rename_i Kz
        unfold RG.full;rw [hu];simp [Kz.2]
       .cases h
      .cases h
     have Vn:=Bh6 (vis:=D.full rs s0 (Es rs i) k) (hid:=hid) (R:=λid=>C.R id\/(s0.nx<=id/\id<s0.nx+rs.length/\L (id-s0.nx)=false)) (K:=λs' d'=>d'=D.d i/\s'.ho=D.H (k+1)/\s'.nx=D.N (k+1)) (f:=f) (ds:=ds) (vs:=vs)
      hs (λ_=>Da) (λid h=>by
       have:=iF Ih k
       show id<D.N k
       rcases h with h | h
       .have:=hR id h;omega
       .omega) Xy M9 hl Ce aH
     refine A88 Vg (Fo Sh) Vn ?_
     rintro e w' ⟨v,d,Ox,Bk,β',rfl,⟨rfl,iZ,Um⟩,Sv,_,hh,hv⟩
     simp only at iZ Um
     subst iZ Um
     refine ⟨v,rfl,?_⟩
     have hg:∀ id,(id<D.N (k+1)/\¬ (C.R id\/(s0.nx<=id/\id<s0.nx+rs.length/\L (id-s0.nx)=false)))->Ur C rs s0 D L' (k+1) id:=λid ⟨h1,h2⟩=>
      ⟨h1,λh=>h2 (h.imp_right λ⟨g1,g2,g3⟩=>⟨g1,g2,by rw [Nw] at g3;exact (Ld.1 g3).2⟩)⟩
     refine Rt (k+1) ⟨D.sv rs s0 L,Lm hid (D.H (k+1)),D.N (k+1)⟩ β' w' v (gZ hm) rfl ?_ (hh.grow hg) (hv.grow hg)
     funext id
     rw [vg Nw hm Zg PR]
     show Lm hid (D.H (k+1)) id=_
     unfold Lm
     cases hu:D.unp rs s0 k id with
     | none=>
      have:hid id=none:=by simp only [hid,hu]
      rw [this];simp only;cases D.H (k+1) id <;> rfl
     | some j=>
      simp only
      by_cases ha:Es rs i j=true
      .rw [Af ha]
       have:hid id=none:=by simp only [hid,hu,ha];simp
       rw [this];cases D.H (k+1) id <;> rfl
      .have uB:Es rs i j=false:=by simpa using ha
       have JH:hid id=if L j=true then D.cur rs L j else none:=by simp only [hid,hu,uB,and_true]
       rw [Ad ha,JH]
       by_cases gY:L j=true
       .obtain ⟨o',Ox⟩:=Du.1 (Bi0 (rs:=rs) (L:=L) (cZ hu).2.2.1)
        have:=Sv id o' (by rw [JH,Af gY,Ox])
        rw [this]
       .have eC:(⟨D.sv rs s0 L,Lm hid (D.H (k+1)),D.N (k+1)⟩:DS).vw C id=none:=hh.hh.fr id λh=>h.2 (.inr ⟨by have:=(cZ hu).1;omega,by have:=cZ hu;omega,by
         have e:id-s0.nx=j:=by have:=(cZ hu).1;omega
         rw [e];simpa using gY⟩)
        have:D.H (k+1) id=none:=by
         simp only [DS.vw,Lm] at eC
         cases hx:D.H (k+1) id with
         | none=>rfl
         | some y=>rw [hx] at eC;cases eC
        rw [this]
    .
     refine A88 Vg (Fo Sh) (ug (R:=λd'=>d'=D.d i) hs hl (λj v d hv hd=>?_) Pg) ?_
     .have h0:=K7 d (Au hd)
      exact UG ((Ce j v d hv hd).2.1 λid hid=>by rw [h0] at hid;cases hid) h0
     .rintro e w' ⟨v,d,rfl,rfl,hh,hv⟩
      refine ⟨v,rfl,?_⟩
      have kg:D.N k<=D.N (k+1):=Ih.mono k
      have hf:=Bi5 (L:=L) (L':=L') (u:=.keep) Ih hD hr hi Kp Nw hm Zg PR (iF Ih k) rfl hH
      exact Rt (k+1) (D.at_ rs s0 L k) β w' v (gZ hm) rfl hf.symm (hh.grow (Nj _ kg)) (hv.grow (Nj _ kg))
   have Di:∀ (args:List Operand),(∀ x∈args,x∈r.op.opnds)->Sd (D.st rs s0 i k) r->∀ (j:Nat) (v:Value) (d:DV),(args.map a.eval)[j]?=some v->(args.map (D.st rs s0 i k).rv)[j]?=some d->WV C (Ur C rs s0 D L k) ((D.at_ rs s0 L k).vw C) β w v d:=by
    intro args Ow bK j v d hv eL
    simp only [Ee,Ac] at hv eL
    obtain ⟨x,hx,rfl⟩:=hv
    obtain ⟨y,hy,rfl⟩:=eL
    rw [hx] at hy;cases hy
    rw [<- (TE Ih hD hr hi Kp bK).rv x (Ow x (Au hx))]
    exact hs.rvw x
   cases Te:fH C.P o.op with
   | none=>
    exfalso
    rw [Te] at Oa
    simp only [Option.getD_none] at Oa
    rw [Oa] at Ty
    rcases Ty with ⟨k,u,h⟩ | ⟨h1,h2⟩
    .simp [Ay] at h
    .obtain ⟨_,u,h,_⟩:=h2 k (UE Ih hD hi Kp)
     cases h
   | some op=>
    rw [Te] at Oa
    simp only [Hu] at Oa
    -- operations that are no calls
    have tK:((∃ k u,D.main[k]?=some i/\Sd (D.st rs s0 i k) r/\(D.st rs s0 i k).hasU u=true/\Ay (D.N k) (D.st rs s0 i k) op=some (D.d i,u)/\D.H (k+1)=u.app (D.N k) (D.st rs s0 i k).ho/\D.N (k+1)=if u.new then D.N k+1 else D.N k)\/
      (i∉D.main/\∀ k,D.may rs i k->Sd (D.st rs s0 i k) r/\∃ u,Ay (s0.nx+i) (D.st rs s0 i k) op=some (D.d i,u)/\match u with
       | .keep=>D.lay i=none/\D.tgt i=none
       | .lay o=>D.lay i=some o/\D.tgt i=none
       | .wr id o=>∃ j,D.unp rs s0 k id=some j/\Es rs i j=true/\D.tgt i=some j/\D.ob i=o/\D.lay i=none
       | _=>False))->o.wpIn C.F 0 C.P a w next Q:=by
     rintro (⟨k0,u,hm,bK,hU,hex,hH,hN⟩ | ⟨T5,Ka⟩)
     .obtain rfl:=SU Ih hD hi Kp hm
      have pO:=TE Ih hD hr hi Kp bK
      rw [Oa] at pO
      have M4:Ay (D.N k0) (D.at_ rs s0 L k0) op=some (D.d i,u):=by rw [TM pO];exact hex
      have Pq:=xe hs (nid:=D.N k0) (λh=>by have:=h.1;omega) Te M4
      have Zg:=(Ih.mlt k0 i hm).2.1
      have PR:=(Ih.mlt k0 i hm).2.2
      refine A87 Vg Pq λβ' w' x h1 h2=>?_
      have hg:∀ id,Ux (Ur C rs s0 D L k0) (D.N k0) u id->Ur C rs s0 D L' (k0+1) id:=λid h=>by
       have hle:=Ih.mono k0
       have key:Un (Ur C rs s0 D L k0) (D.N k0) id->D.N (k0+1)=D.N k0+1->Ur C rs s0 D L' (k0+1) id:=λh kg=>by
        rcases h with h | rfl
        .exact Nj (k0+1) hle id h
        .have Yc:=iF Ih k0
         refine ⟨by omega,λh=>?_⟩
         rcases h with h | h
         .have:=hR _ h;omega
         .omega
       cases u with
       | keep=>exact Nj (k0+1) hle id h
       | wr _ _=>exact Nj (k0+1) hle id h
       | lay _=>exact key h (by rw [hN];rfl)
       | mv _ _=>exact key h (by rw [hN];rfl)
      exact Rt (k0+1) _ β' w' x (gZ hm) rfl (Bi5 (L:=L) (L':=L') Ih hD hr hi Kp Nw hm Zg PR (iF Ih k0) hU hH).symm (h1.grow hg) (h2.grow hg)
     .obtain ⟨bK,u,hex,hu⟩:=Ka k (UE Ih hD hi Kp)
      have pO:=TE Ih hD hr hi Kp bK
      rw [Oa] at pO
      have M4:Ay (s0.nx+i) (D.at_ rs s0 L k) op=some (D.d i,u):=by rw [TM pO];exact hex
      have Sx:¬ Ur C rs s0 D L k (s0.nx+i):=λh=>h.2 (.inr ⟨by omega,by have:=To hr;omega,by
       have e:s0.nx+i-s0.nx=i:=by omega
       rw [e];exact hi⟩)
      have Pq:=xe hs (nid:=s0.nx+i) Sx Te M4
      refine A87 Vg Pq λβ' w' x h1 h2=>?_
      cases u with
      | keep=>exact Rt k _ β' w' x (bU T5) rfl (TD Nw hu.1 hu.2).symm (h1.grow (Nj k (Ai _))) (h2.grow (Nj k (Ai _)))
      | lay ob=>
       have hg:∀ id,Ux (Ur C rs s0 D L k) (s0.nx+i) (.lay ob) id->Ur C rs s0 D L' k id:=λid h=>by
        rcases h with h | rfl
        .exact Nj k (Ai _) id h
        .have Yc:=iF Ih k
         have:=To hr
         refine ⟨by omega,λh=>?_⟩
         rcases h with h | h
         .have:=hR _ h;omega
         .have e:s0.nx+i-s0.nx=i:=by omega
          have:=h.2.2
          rw [e,Nw] at this
          simp at this
       exact Rt k _ β' w' x (bU T5) rfl (Bi4 Ih hD hr hi Nw hu.1 hu.2).symm (h1.grow hg) (h2.grow hg)
      | wr id ob=>
       obtain ⟨j,g1,g2,g3,rfl,g5⟩:=hu
       exact Rt k _ β' w' x (bU T5) rfl (Bt3 Ih hD hr hi Kp Nw g1 g2 g3 g5).symm (h1.grow (Nj k (Ai _))) (h2.grow (Nj k (Ai _)))
      | mv _ _=>exact hu.elim
    rw [Oa] at Ty
    split at Ty
    .rename_i f args
     obtain ⟨k0,hm,bK,aH⟩:=Ty
     obtain rfl:=SU Ih hD hi Kp hm
     obtain ⟨c,ho,Gs,rfl⟩:=Ax6 Te
     refine Vo f (c.args.toList.map a.eval) (c.args.toList.map (D.st rs s0 i k0).rv) hm (by simp) (Di _ (λx hx=>by rw [Oa];exact hx) bK) aH λSh=>?_
     simp [execOp,ho,resolve,Gs,Deferred.ofValue,Act.eval,invoke,Y6 Sh,xa]
    .rename_i tb x args
     obtain ⟨k0,f,fr,cs,hm,bK,jC,aH⟩:=Ty
     obtain rfl:=SU Ih hD hi Kp hm
     obtain ⟨c,ho,rfl,Gs⟩:=A84 Te
     have pO:=TE Ih hD hr hi Kp bK
     rw [<- pO.ev x (by rw [Oa];simp [DOp.opnds])] at jC
     rcases Gs with ⟨rfl,Gs⟩ | ⟨name,rfl,Gs⟩
     .have hx:=A08 jC
      simp only at hx
      have h1:=hs.ev x
      rw [hx] at h1
      obtain ⟨us,vs,e1,cJ,mC,aE,oF⟩:=uj h1
      refine Vo _ (us++c.args.toList.map a.eval++vs) (fr++c.args.toList.map (D.st rs s0 i k0).rv++cs) hm (by simp [cJ,mC]) (SE (by simp [cJ]) (SE cJ (λj v d hv eL=>?_) (Di _ (λy hy=>by rw [Oa];simp [DOp.opnds,hy]) bK)) λj v d hv eL=>?_) aH λSh=>?_
      .exact hs.evp x (aE _ v d hv eL) λid hid=>by rw [hx,DV.refs,DV.refsL,DV.refs];exact Dq _ (DV.refsL_mem (Au eL) hid)
      .exact hs.evp x (oF _ v d hv eL) λid hid=>by rw [hx,DV.refs,DV.refsL];exact Em _ (DV.refsL_mem (Au eL) hid)
      .have h3:(us.toArray++(c.args.map a.eval++vs.toArray):Array Value)=(us++(c.args.toList.map a.eval++vs)).toArray:=by apply De;simp
       simp [execOp,ho,resolve,Gs,e1,Deferred.ofValue,invoke]
       rw [h3]
       exact Y6 Sh _ _
     .simp only [DV.tgt] at jC
      split at jC
      .rename_i T e hx
       obtain ⟨f',Vi,HB⟩:=Ac.1 jC
       cases HB
       have h1:=hs.ev x
       rw [hx] at h1
       obtain ⟨u,e1,Ce⟩:=C5 h1
       refine Vo _ ([u]++c.args.toList.map a.eval) ([e]++c.args.toList.map (D.st rs s0 i k0).rv ++ []) hm (by simp) (λj v d hv eL=>?_) aH λSh=>?_
       .rw [Dh] at eL
        cases j with
        | zero=>
         simp at hv eL
         subst hv eL
         exact hs.evp x Ce λid hid=>by rw [hx,DV.refs];exact hid
        | succ j=>exact Di c.args.toList (λy hy=>by rw [Oa];simp [DOp.opnds];exact .inr (by simpa using hy)) bK j v d hv eL
       .have h3:=Ap5 (w:=w) Vi Sh u (c.args.map a.eval)
        have h4:(#[u]++c.args.map a.eval:Array Value)=([u]++c.args.toList.map a.eval).toArray:=by apply De;simp
        rw [h4] at h3
        have h5:Array.extract (#[a.eval x]++c.args.map a.eval) 1 (#[a.eval x]++c.args.map a.eval).size=c.args.map a.eval:=by
         apply De
         simp [Tk]
         exact Cc (by simp)
        have h6:(#[a.eval x]++c.args.map a.eval:Array Value)[0]?=some (.iface T u):=by rw [e1];first | rfl | simp [Yx]
        simp only [execOp,ho,resolve,Gs,Sem.run_bind,Sem.run_pure,Result.andThen_ok,invoke,h6,h5,h3]
      .cases jC
    .exact tK Ty
  .subst hb
   rw [hw] at Ty
   simp only at Ty
   obtain ⟨h1,h2,zM,h3⟩:=Ty
   exact Rt k (D.at_ rs s0 L k) β w undef (bU h3) rfl (TD Nw h2 zM).symm (hs.grow (Nj k (Ai _))) (by rw [h1];exact WV.v undef)
end Go.DD

/- Regions that draw their order, third part: every order. -/
namespace Go.DD
open Go.RowKit (Below)
def Lf(L:Array Bool)(j:Nat):Bool:=(L.toList[j]?).getD false
theorem B50{C:Ctx}{ops:Array Oper}{rs:List DR}{s0:DS}{D:RG}{Q:Exit->DS->Prop}(T4:ops.toList.mapM (Pj C.P C.nt true ops)=some rs)(pQ:D.OK rs s0 C.P)(hR:∀ id,C.R id->id<s0.nx)
  (hQ:Q .normal (D.at_ rs s0 (λ_=>true) D.main.length)) :
  ∀ (fuel:Nat) (L:Array Bool) (k:Nat) (a:Act) (w:World) (β:Nat->Option Nat),L.size=ops.size->sJ L.toList=fuel->
   (∀ (i:Nat) (r:DR),L.toList[i]?=some true->rs[i]?=some r->∀ j∈r.pre,L.toList[j]?=some true)->Done rs D (Lf L) k->HoldsB C (Ur C rs s0 D (Lf L) k) (D.at_ rs s0 (Lf L) k) β a w->wpAnyIn C.F 0 C.P .any ops (Vy C Q) fuel L a w:=by
 have Ih:=pQ.toOKs
 obtain ⟨hlen,bN⟩:=mapM_some T4
 replace hlen:rs.length=ops.size:=by rw [hlen];exact Ck
 have Vf:=Ih.pre
 have zH:∀ (L:Array Bool) (k:Nat) (a:Act) (w:World) (β:Nat->Option Nat),L.size=ops.size->(∀ b∈L.toList,b=true)->Done rs D (Lf L) k->HoldsB C (Ur C rs s0 D (Lf L) k) (D.at_ rs s0 (Lf L) k) β a w->Vy C Q .normal a w:=by
  intro L k a w β hL Ka hD hs
  have QP:∀ j,j<rs.length->Lf L j=true:=λj hj=>by
   have Wu:j<L.toList.length:=by simp;omega
   simp only [Lf,Aa Wu,Hu]
   exact Ka _ (Bh _)
  have hk:k=D.main.length:=by
   rcases Dd k D.main.length with h | h
   .have hm:D.main[k]?=some D.main[k]:=Aa h
    have:=(hD.mn k _ hm).1 (QP _ (Ih.mlt k _ hm).1)
    omega
   .have:=hD.le;omega
  subst hk
  have e1:(D.at_ rs s0 (λ_=>true) D.main.length).sv=(D.at_ rs s0 (Lf L) D.main.length).sv:=by
   funext t
   show D.sv rs s0 (λ_=>true) t=D.sv rs s0 (Lf L) t
   unfold RG.sv
   cases hp:rs.findIdx? (λr=>r.dst==some t) with
   | none=>rfl
   | some p=>simp [QP p (Hi.1 hp).1]
  have e2:(D.at_ rs s0 (λ_=>true) D.main.length).ho=(D.at_ rs s0 (Lf L) D.main.length).ho:=by
   funext id
   show D.full rs s0 (λ_=>true) D.main.length id=D.full rs s0 (Lf L) D.main.length id
   unfold RG.full
   cases hu:D.unp rs s0 D.main.length id with
   | none=>rfl
   | some j=>
    have hc:D.cur rs (λ_=>true) j=D.cur rs (Lf L) j:=by
     unfold RG.cur
     rw [NW (L:=Lf L) (L':=λ_=>true) λw hw _=>(QP w hw).symm]
    simp [QP j (cZ hu).2.1,hc]
  have Yc:=iF Ih D.main.length
  refine ⟨_,hQ,λid h=>by have:=hR id h;show id<D.N D.main.length;omega,β,(hs.congr e1 e2).grow λid ⟨h1,h2⟩=>⟨h1,λh=>h2 (.inl h)⟩⟩
 have J3:∀ (L:Array Bool),L.size=ops.size->Region.ready .any ops L=[]->∀ b∈L.toList,b=true:=by
  intro L hL hr
  have key:∀ i,i<L.size->L.toList[i]?=some true:=by
   intro i
   induction i using Nat.strongRecOn with
   | _ i ih=>
    intro hi
    rw [Aa (by simpa using hi)]
    cases hb:L.toList[i]'(by simpa using hi) with
    | true=>rfl
    | false=>
     exfalso
     have Lr:i∈Region.ready .any ops L:=by
      unfold Region.ready
      rw [Ey]
      refine ⟨by simp;omega,?_⟩
      have ho:ops[i]?=some ops[i]:=Lz (by omega)
      simp only [ho,Cf,Hu,Bo]
      refine ⟨?_,?_⟩
      .have:L[i]?=some false:=by rw [<- Dk,Aa (by simpa using hi),hb]
       simp [Fu,this]
      .rw [Array.all_eq_true']
       intro e he
       rw [Jz]
       by_cases Zi:Region.binds .any e=true
       .refine .inr ?_
        have eA:=bN i (ops[i]) (rs[i]'(by omega)) (by rw [Dk];exact ho) (Aa (by omega))
        have HY:e.on∈(rs[i]'(by omega)).pre:=by
         unfold Pj at eA
         split at eA
         .split at eA
          .rw [<- Ge eA]
           simp only [Ex]
           rw [Sp,Gn]
           exact ⟨e,by simpa using he,by simp [Zi]⟩
          .cases eA
         .cases eA
        have Ez:=Vf i _ (Aa (by omega)) e.on HY
        have:=ih e.on Ez (by omega)
        rw [Dk] at this
        simp [Fu,this]
       .simp [Zi]
     rw [hr] at Lr;cases Lr
  intro b hb
  obtain ⟨i,hi,rfl⟩:=Bq.1 hb
  have:=key i (by simpa using hi)
  rw [Aa hi] at this
  exact Ge this
 intro fuel
 induction fuel with
 | zero=>
  intro L k a w β hL hu Vn hD hs
  have Ka:=Bh9 _ hu
  refine ⟨?_,zH L k a w β hL Ka hD hs⟩
  unfold Region.ready
  rw [List.filter_eq_nil_iff]
  intro i hi
  have kS:i<L.size:=by simp at hi;omega
  have:L[i]?=some true:=by rw [<- Dk,Aa (by simpa using kS),Ka _ (Bh _)]
  simp [Fu,this]
 | succ fuel ih=>
  intro L k a w β hL hu Vn hD hs
  refine ⟨λhr=>zH L k a w β hL (J3 L hL hr) hD hs,λi hi=>?_⟩
  unfold Region.ready at hi
  rw [Ey] at hi
  obtain ⟨U2,Nv⟩:=hi
  have cO:i<ops.size:=by simpa using U2
  have ho:ops[i]?=some ops[i]:=Lz cO
  simp only [ho,Cf,Hu,Bo] at Nv
  obtain ⟨hiL,hiE⟩:=Nv
  have ki:L.toList[i]?=some false:=by
   have Ez:i<L.size:=by omega
   rw [Dk,Lz Ez]
   simp [Fu,Lz Ez] at hiL
   simp [hiL]
  have HU:rs[i]?=some (rs[i]'(by omega)):=Aa (by omega)
  generalize (rs[i]'(by omega))=r at HU
  have gU:=bN i ops[i] r (by rw [Dk];exact ho) HU
  have yO:∀ j∈r.pre,L.toList[j]?=some true:=by
   intro j hj
   have:∃ ed∈ops[i].after,Region.binds .any ed=true/\ed.on=j:=by
    unfold Pj at gU
    split at gU
    .split at gU
     .cases gU
      simp only [Ex] at hj
      rw [Sp,Gn] at hj
      obtain ⟨ed,h1,h2⟩:=hj
      split at h2
      .rename_i Zi;cases h2;exact ⟨ed,by simpa using h1,Zi,rfl⟩
      .cases h2
     .cases gU
    .cases gU
   obtain ⟨ed,h1,h2,rfl⟩:=this
   rw [Array.all_eq_true'] at hiE
   have:=hiE ed h1
   rw [h2] at this
   simp only [Hs,Gp] at this
   rw [Dk]
   cases hq:L[ed.on]? with
   | none=>simp [Fu,hq] at this
   | some b=>simp [Fu,hq] at this;simp [this]
  have Kp:∀ j,Es rs i j=true->Lf L j=true:=by
   intro j hj
   have kS:i<(Li rs []).length:=by rw [SV];simp;omega
   have hl:(Li rs [])[i]?=some (Vq rs i):=by simp [Vq,Aa kS]
   have:=Bd6 Vf Vn i r _ HU yO hl j (by simpa [Es] using hj)
   simp [Lf,this]
  have KU:∀ j,Lf (L.setIfInBounds i true) j=(j==i||Lf L j):=λj=>by
   simp only [Lf,Le,List.getElem?_set]
   by_cases Oy:i=j
   .subst Oy
    have:i<L.size:=by omega
    simp [this]
   .simp [Oy,Ek Oy]
  obtain ⟨b,hw,ht,hf⟩:=B49 (Q:=Vy C Q) (next:=λa' w'=>wpAnyIn C.F 0 C.P .any ops (Vy C Q) fuel (L.setIfInBounds i true) a' w') pQ hD HU (by simp [Lf,ki]) Kp KU hR gU hs (λk' β' a' w' rL hh=>by
   refine ih (L.setIfInBounds i true) k' a' w' β' (by simpa using hL) ?_ ?_ rL hh
   .rw [Le]
    have:=Bt1 L.toList i ki
    omega
   .intro k rk hk de j hj
    rw [Le] at hk ⊢
    rw [List.getElem?_set] at hk ⊢
    have oJ:L.toList[j]?=some true:=by
     by_cases hik:i=k
     .subst hik;rw [HU] at de;cases de;exact yO j hj
     .rw [Ad hik] at hk;exact Vn k rk hk de j hj
    by_cases Oy:i=j
    .subst Oy;rw [ki] at oJ;cases oJ
    .rw [Ad Oy];exact oJ)
  unfold wpOpIn
  rw [ho]
  simp only
  rw [hw]
  cases b with
  | true=>simp only [Ex];exact ht rfl
  | false=>
   simp only [Eh,Ib]
   exact ⟨λ_ _=>trivial,hf rfl⟩
theorem DW.regd{C:Ctx}{Q:Exit->DS->Prop}{s:DS}{rs:List DR}{info:RI}(D:RG)(hm:C.P.follows .mixedOrders=true)(Ih:D.OK rs s C.P)(h:Q .normal (D.at_ rs s (λ_=>true) D.main.length)):DW C (.reg true rs info) Q s:=by
 intro code hc a w ⟨hR,β,hs⟩
 obtain ⟨id,os,rfl,hl,_⟩:=vn hc
 refine wpIn_region_any hm ?_
 have oE:HoldsB C (Us C s.nx) s β a { w with drawn:=w.drawn+1 }:=hs.keep ⟨rfl,rfl,rfl,Ai _,λ_ _=>rfl⟩
 have QQ:∀ j,Lf (Array.replicate os.size false) j=false:=λj=>by
  simp only [Lf,Xl,Wg]
  split <;> rfl
 refine B50 hl Ih hR h os.size _ 0 a _ β (by simp) ?_ (λi r hi=>?_) ⟨λi _ hi=>(by rw [QQ] at hi;cases hi),Gu _,λq j _=>(by rw [QQ];simp)⟩ ?_
 .simp only [Xl]
  generalize os.size=n
  induction n with
  | zero=>rfl
  | succ n ih=>simp [Jd,sJ,ih];omega
 .rw [Xl,Wg] at hi
  split at hi <;> simp at hi
 .refine (oE.grow λid hi=>?_).congr ?_ ?_
  .refine ⟨by have:=hi.1;rw [Ih.n0];omega,λh=>?_⟩
   rcases h with h | h
   .exact hi.2 h
   .have:=hi.1;omega
  .funext t
   show D.sv rs s _ t=s.sv t
   unfold RG.sv
   split
   .rw [QQ];rfl
   .rfl
  .funext id
   show D.full rs s _ 0 id=s.ho id
   unfold RG.full
   cases hu:D.unp rs s 0 id with
   | none=>simp only;rw [Ih.h0]
   | some j=>
    simp only
    rw [QQ]
    have h1:s.vw C id=none:=hs.hh.fr id λh=>by have:=(cZ hu).1;have:=h.1;omega
    have:s.ho id=none:=by
     cases hx:s.ho id with
     | none=>rfl
     | some o=>rw [dB hx] at h1;cases h1
    rw [this];rfl
end Go.DD

/- An evaluator of deep code on closed states, laid out so that the kernel runs it: slots by paths, operations as functions, integers forced. -/
namespace Go.DD
inductive Pa where
 | o
 | l (p:Pa)
 | r (p:Pa)
def Va:Nat->Nat->Pa
 | 0,_=>.o
 | f+1,k=>match k with
  | 0=>.o
  | k+1=>if k % 2=0 then .l (Va f (k / 2)) else .r (Va f (k / 2))
def Cm(k:Nat):Pa:=Va k k
def gP{α:Type}(p:Pa):Tr α->Option α:=
 Pa.rec (motive:=λ_=>Tr α->Option α) (λt=>Tr.rec (motive:=λ_=>Option α) none (λ_ v _ _ _=>v) t)
  (λ_ ih t=>Tr.rec (motive:=λ_=>Option α) none (λl _ _ _ _=>ih l) t) (λ_ ih t=>Tr.rec (motive:=λ_=>Option α) none (λ_ _ r _ _=>ih r) t) p
def sP{α:Type}(p:Pa)(v:Option α):Tr α->Tr α:=
 Pa.rec (motive:=λ_=>Tr α->Tr α) (λt=>Tr.rec (motive:=λ_=>Tr α) (.n .e v .e) (λl _ r _ _=>.n l v r) t)
  (λ_ ih t=>Tr.rec (motive:=λ_=>Tr α) (.n (ih .e) none .e) (λl x r _ _=>.n (ih l) x r) t) (λ_ ih t=>Tr.rec (motive:=λ_=>Tr α) (.n .e none (ih .e)) (λl x r _ _=>.n l x (ih r)) t) p
def gN{α:Type}(t:Tr α):Nat->Option α:=
 Tr.rec (motive:=λ_=>Nat->Option α) (λ_=>none) (λ_ v _ il ir k=>Nat.rec (motive:=λ_=>Option α) v (λj _=>Bool.rec (motive:=λ_=>Option α) (ir (Nat.div j 2)) (il (Nat.div j 2)) (Nat.beq (Nat.mod j 2) 0)) k) t
def sN{α:Type}(f:Nat)(v:Option α):Tr α->Nat->Tr α:=
 Nat.rec (motive:=λ_=>Tr α->Nat->Tr α) (λt _=>Tr.rec (motive:=λ_=>Tr α) (.n .e v .e) (λl _ r _ _=>.n l v r) t)
  (λ_ ih t k=>Nat.rec (motive:=λ_=>Tr α) (Tr.rec (motive:=λ_=>Tr α) (.n .e v .e) (λl _ r _ _=>.n l v r) t)
   (λj _=>Bool.rec (motive:=λ_=>Tr α) (Tr.rec (motive:=λ_=>Tr α) (.n .e none (ih .e (Nat.div j 2))) (λl x r _ _=>.n l x (ih r (Nat.div j 2))) t)
    (Tr.rec (motive:=λ_=>Tr α) (.n (ih .e (Nat.div j 2)) none .e) (λl x r _ _=>.n (ih l (Nat.div j 2)) x r) t) (Nat.beq (Nat.mod j 2) 0)) k) f
def Ki{α:Type}(t:Tr α)(k:Nat)(v:Option α):Tr α:=sN k v t k
structure ES where
 sl:Tr DV
 hp:Tr DObj
 nx:Nat
 deriving Inhabited
def ES.ds(es:ES):DS:=⟨λt=>(es.sl.get t).getD .any,es.hp.get,es.nx⟩
inductive EO where
 | t (p:Pa)
 | c (d:DV)
def EO.of:Operand->EO
 | .tmp u=>.t (Cm u)
 | .const x=>.c (Qt x)
 | .func f=>.c (.fn (.func f) [.tup []])
 | .global g=>.c (V1 g)
def Ae(es:ES)(x:EO):DV:=EO.rec (motive:=λ_=>DV) (λp=>Option.rec (motive:=λ_=>DV) .any (λd=>d) (gP p es.sl)) (λd=>d) x
def Sa{α:Type}(x:Option α):Bool:=Option.rec (motive:=λ_=>Bool) false (λ_=>true) x
def Vv(d:DV):List Nat:=DV.casesOn (motive_1:=λ_=>List Nat) d [] (λ_=>[]) (λcs=>DV.refsL cs) (λcs=>DV.refsL cs) (λ_ _=>[]) (λ_=>[]) (λ_ cs=>DV.refsL cs) (λ_ d=>DV.refs d)
 (λid _ _ _=>[id]) (λid _=>[id]) (λid=>[id]) (λid=>[id])
def Ug{α:Type}(l:List α)(f:α->Bool):Bool:=List.rec (motive:=λ_=>Bool) true (λa _ ih=>Bool.rec (motive:=λ_=>Bool) false ih (f a)) l
def Fw{α:Type}(b:Bool)(x y:α):α:=Bool.rec (motive:=λ_=>α) y x b
def Cd(hp:Tr DObj)(d:DV):DV:=Fw (Ug (Vv d) λid=>Sa (gN hp id)) d .any
def Oc(es:ES)(x:EO):DV:=EO.rec (motive:=λ_=>DV) (λp=>Cd es.hp (Option.rec (motive:=λ_=>DV) .any (λd=>d) (gP p es.sl))) (λd=>d) x
def bY{α:Type}(n:Nat)(k:Nat->α):α:=Nat.rec (motive:=λ_=>α) (k 0) (λm _=>k (m+1)) n
def ss{α:Type}(n:Int)(k:Int->α):α:=Int.rec (motive:=λ_=>α) (λm=>bY m λm=>k (.ofNat m)) (λm=>bY m λm=>k (.negSucc m)) n
def cV{α:Type}(d:DV)(f:Value->α)(e:α):α:=DV.casesOn (motive_1:=λ_=>α) d e f (λ_=>e) (λ_=>e) (λ_ _=>e) (λ_=>e) (λ_ _=>e) (λ_ _=>e) (λ_ _ _ _=>e) (λ_ _=>e) (λ_=>e) (λ_=>e)
def eY{α:Type}(x:Value)(fb:Bool->α)(fi:IntKind->Int->α)(fs:ByteArray->α)(e:α):α:=
 Value.casesOn (motive_1:=λ_=>α) x fb fi (λ_ _=>e) (λ_ _ _=>e) fs (λ_=>e) (λ_ _ _=>e) (λ_=>e) (λ_=>e) (λ_ _ _=>e) e (λ_ _=>e) e (λ_=>e) (λ_=>e)
def Zc(x:Option Value):Option DV:=Option.rec (motive:=λ_=>Option DV) none (λv=>eY v (λb=>Bool.rec (motive:=λ_=>Option DV) (some (.v (.bool false))) (some (.v (.bool true))) b) (λk n=>ss n λn=>some (.v (.int k n))) (λs=>some (.v (.string s))) (some (.v v))) x
abbrev XP:Type:=ES->Option DV
abbrev XU:Type:=ES->Nat->Option (DV×Upd)
def Av(op:BinOp)(x y:EO):XP:=λes=>cV (Ae es x) (λv=>cV (Ae es y) (λw=>
 eY v (λ_=>none) (λk a=>eY w (λ_=>none) (λk' b=>Zc (Fw (Rq op) (vR op k a b) (Fw (Nat.beq k.ctorIdx k'.ctorIdx) (Rf op k a b) none))) (λ_=>none) none) (λs=>eY w (λ_=>none) (λ_ _=>none) (λs'=>Zc (fB op s s')) none) none) none) none
def Co(c x y:EO):XP:=λes=>cV (Ae es c) (λv=>eY v (λb=>some (Fw b (Ae es x) (Ae es y))) (λ_ _=>none) (λ_=>none) none) none
def Qs(op:UnOp)(x:EO):XP:=λes=>cV (Ae es x) (λv=>Zc (AV op (.v v))) none
def Ym{α:Type}(hp:Tr DObj)(id:Nat)(f:TypeId->List DV->α)(e:α):α:=
 Option.rec (motive:=λ_=>α) e (λo=>DObj.casesOn (motive:=λ_=>α) o f (λ_ _=>e) (λ_=>e) (λ_ _=>e) (λ_ _ _ _=>e)) (gN hp id)
def Ls{α:Type}(n:Nat)(l:List α):List α:=Nat.rec (motive:=λ_=>List α->List α) (λl=>l) (λ_ ih l=>List.rec (motive:=λ_=>List α) [] (λ_ t _=>ih t) l) n l
def Xn{α:Type}(n:Nat)(l:List α):List α:=Nat.rec (motive:=λ_=>List α->List α) (λ_=>[]) (λ_ ih l=>List.rec (motive:=λ_=>List α) [] (λa t _=>a::ih t) l) n l
def Tq(k:Option Nat)(cs:List DV):Option DV:=Option.rec (motive:=λ_=>Option DV) (List.rec (motive:=λ_=>Option DV) none (λc _ _=>some c) cs) (λn=>Fw (Nat.ble n cs.length) (some (.agg (Xn n cs))) none) k
def lJ{α:Type}(d:DV)(fi:List DV->α)(fp:Nat->Nat->α)(e:α):α:=DV.casesOn (motive_1:=λ_=>α) d e (λ_=>e) (λ_=>e) (λ_=>e) (λ_ _=>e) fi (λ_ _=>e) (λ_ _=>e) (λ_ _ _ _=>e) fp (λ_=>e) (λ_=>e)
def Cj(k:Option Nat)(x:EO):XP:=λes=>lJ (Ae es x) (λcs=>Tq k cs) (λid off=>Ym es.hp id (λ_ cs=>Tq k (Ls off cs)) none) none
def Eg(off:Nat)(x:EO):XP:=λes=>lJ (Ae es x) (λcs=>some (.ia (Ls off cs))) (λid o=>Fw (Sa (gN es.hp id)) (bY (o+off) λn=>some (.pt id n)) none) none
def RP{α:Type}(d:DV)(fv:Value->α)(fs:List DV->Nat->α)(fm:Nat->Nat->Nat->Nat->α)(e:α):α:=DV.casesOn (motive_1:=λ_=>α) d e fv (λ_=>e) (λ_=>e) fs (λ_=>e) (λ_ _=>e) (λ_ _=>e) fm (λ_ _=>e) (λ_=>e) (λ_=>e)
def cI{α:Type}(d:DV)(f:Int->α)(e:α):α:=cV d (λv=>eY v (λ_=>e) (λ_ n=>f n) (λ_=>e) e) e
def uI{α:Type}(j:Int)(n:Nat)(f:Nat->α)(e:α):α:=Int.rec (motive:=λ_=>α) (λm=>Fw (Nat.blt m n) (f m) e) (λ_=>e) j
def Gf(es':Nat)(x i:EO):XP:=λes=>cI (Ae es i) (λj=>RP (Ae es x) (λ_=>none) (λcs n=>uI j n (λm=>some (.ia (Ls (m*es') cs))) none)
 (λid off n _=>Fw (Sa (gN es.hp id)) (uI j n (λm=>bY (off+m*es') λo=>some (.pt id o)) none) none) none) none
def xFx(n es':Nat)(x i:EO):XP:=λes=>cI (Ae es i) (λj=>lJ (Ae es x) (λcs=>uI j n (λm=>some (.ia (Ls (m*es') cs))) none)
 (λid off=>Fw (Sa (gN es.hp id)) (uI j n (λm=>bY (off+m*es') λo=>some (.pt id o)) none) none) none) none
def ab(v:Value):Option DV:=Value.casesOn (motive_1:=λ_=>Option DV) v (λ_=>none) (λ_ _=>none) (λ_ _=>none) (λ_ _ _=>none) (λ_=>none) (λ_=>none)
 (λa n _=>Option.rec (motive:=λ_=>Option DV) (some (.v (.int .i64 n))) (λ_=>none) a) (λ_=>none) (λ_=>none) (λ_ _ _=>none) none (λ_ _=>none) none (λ_=>none) (λ_=>none)
def Dp(x:EO):XP:=λes=>RP (Ae es x) ab (λ_ n=>bY n λn=>some (.v (.int .i64 (.ofNat n)))) (λid _ n _=>Fw (Sa (gN es.hp id)) (bY n λn=>some (.v (.int .i64 (.ofNat n)))) none) none
def qH{α:Type}(d:DV)(f:List DV->α)(e:α):α:=DV.casesOn (motive_1:=λ_=>α) d e (λ_=>e) (λ_=>e) f (λ_ _=>e) (λ_=>e) (λ_ _=>e) (λ_ _=>e) (λ_ _ _ _=>e) (λ_ _=>e) (λ_=>e) (λ_=>e)
def bD{α:Type}(n:Nat)(l:List α):Option α:=List.rec (motive:=λ_=>Option α) none (λa _ _=>some a) (Ls n l)
def vD{α:Type}(d:DV)(f:Value->α)(e:α):α:=DV.casesOn (motive_1:=λ_=>α) d e f (λ_=>e) (λ_=>e) (λ_ _=>e) (λ_=>e) (λ_ _=>e) (λ_ _=>e) (λ_ _ _ _=>e) (λ_ _=>e) (λ_=>e) (λ_=>e)
def Ga(x:EO)(i:Nat):XP:=λes=>qH (Ae es x) (λds=>Option.rec (motive:=λ_=>Option DV) none (λd=>vD d (λv=>some (.v v)) (qH (Oc es x) (λds=>bD i ds) none)) (bD i ds)) none
def Bd(o:DOp):XU:=λes nid=>Ay nid es.ds o
def B8{β α:Type}(l:List β)(k:List β->α):α:=List.rec (motive:=λ_=>(List β->α)->α) (λk=>k []) (λa _ ih k=>ih λt=>k (a::t)) l k
def Lx{α:Type}(a b:List α):List α:=List.rec (motive:=λ_=>List α) b (λx _ ih=>x::ih) a
def Z8(d:DV):List DV:=DV.casesOn (motive_1:=λ_=>List DV) d [d] (λ_=>[d]) (λcs=>cs) (λ_=>[d]) (λ_ _=>[d]) (λ_=>[d]) (λ_ _=>[d]) (λ_ _=>[d]) (λ_ _ _ _=>[d]) (λ_ _=>[d]) (λ_=>[d]) (λ_=>[d])
def PG(d:DV):Bool:=DV.casesOn (motive_1:=λ_=>Bool) d false (λx=>x.oneCell') (λ_=>true) (λ_=>false) (λ_ _=>true) (λ_=>true) (λ_ _=>true) (λ_ _=>true) (λ_ _ _ _=>true) (λ_ _=>true) (λ_=>true) (λ_=>true)
def Jr(n:Nat)(a x:EO):XU:=λes _=>lJ (Ae es a) (λ_=>none) (λid off=>Ym es.hp id (λT cs=>
 Fw (PG (Oc es x)) (Fw (Nat.beq (Z8 (Oc es x)).length n) (Fw (Nat.ble (off+n) cs.length) (B8 (Lx (Xn off cs) (Lx (Z8 (Oc es x)) (Ls (off+n) cs))) λl=>some (.any,.wr id (.row T l))) none) none) none) none) none
def Pn(T:TypeId)(x:EO):XU:=λes nid=>Fw (PG (Oc es x)) (some (.pt nid 0,.lay (.row T (Z8 (Oc es x))))) none
def gE{α β:Type}(f:α->β)(l:List α):List β:=List.rec (motive:=λ_=>List β) [] (λa _ ih=>f a::ih) l
def Rz(T:TypeId)(z:List DV):XU:=λ_ nid=>some (.pt nid 0,.lay (.row T z))
inductive Tg where
 | fn (f:Nat)
 | yl (id:Nat)
def Bg:Type:=Tg->List DV->Tr DObj->Nat->Option (DV×Tr DObj×Nat)
def ES.cs{α:Type}(es:ES)(f:Tr DV->Tr DObj->Nat->α):α:=ES.rec (motive:=λ_=>α) f es
def ES.putE(es:ES)(dst:Option Pa)(d:DV):ES:=ES.rec (motive:=λ_=>ES) (λsl hp nx=>Option.rec (motive:=λ_=>ES) ⟨sl,hp,nx⟩ (λp=>⟨sP p (some d) sl,hp,nx⟩) dst) es
def Mc(hp:Tr DObj)(nid:Nat)(u:Upd):Tr DObj:=Upd.casesOn (motive:=λ_=>Tr DObj) u hp (λo=>Ki hp nid (some o)) (λid o=>Ki hp id (some o))
 (λHv o=>Option.rec (motive:=λ_=>Tr DObj) (Ki hp nid (some o)) (λi=>Ki (Ki hp i none) nid (some o)) Hv)
abbrev Oo:Type:=Bg->ES->Option ES
def sM(dst:Option Pa)(x:EO):Oo:=λ_ es=>some (es.putE dst (Ae es x))
def sX(dst:Option Pa)(x:XP):Oo:=λ_ es=>Option.rec (motive:=λ_=>Option ES) none (λd=>some (es.putE dst d)) (x es)
def sU(dst:Option Pa)(x:XU):Oo:=λ_ es=>Option.rec (motive:=λ_=>Option ES) none (λp=>Prod.rec (motive:=λ_=>Option ES) (λd u=>
 es.cs λsl hp nx=>Fw u.new (bY (nx+1) λn=>some ((ES.mk sl (Mc hp nx u) n).putE dst d)) (some ((ES.mk sl (Mc hp nx u) nx).putE dst d))) p) (x es es.nx)
def iI(tg:Tg)(ds:List DV)(dst:Option Pa):Oo:=λcall es=>Option.rec (motive:=λ_=>Option ES) none (λp=>Prod.rec (motive:=λ_=>Option ES) (λd q=>Prod.rec (motive:=λ_=>Option ES) (λhp nx=>es.cs λsl _ _=>some ((ES.mk sl hp nx).putE dst d)) q) p) (call tg ds es.hp es.nx)
def Yw(es:ES)(args:List EO):List DV:=gE (Ae es) args
def Bj(f:Nat)(args:List EO)(dst:Option Pa):Oo:=λcall es=>iI (.fn f) (Yw es args) dst call es
def aZ(tb:Option (List (TypeId×FuncId)))(x:EO)(args:List EO)(dst:Option Pa):Oo:=λcall es=>
 Option.rec (motive:=λ_=>Option ES) (Option.rec (motive:=λ_=>Option ES) none (λi=>iI (.yl i) (Yw es args) dst call es) ((Oc es x).tgY tb)) (λp=>iI (.fn p.1) (Lx p.2.1 (Lx (Yw es args) p.2.2)) dst call es) ((Oc es x).tgt tb)
def XM(k:Bool)(x:Operand)(dst:Option Pa):Oo:=λ_ es=>match Wp es.ds k x with
 | some [p]=>if p.2.new then none else some ((ES.mk es.sl (Mc es.hp es.nx p.2) es.nx).putE dst p.1)
 | _=>none
def Yy:DOp->Option XP
 | .bin op x y=>some (Av op (.of x) (.of y))
 | .pick c x y=>some (Co (.of c) (.of x) (.of y))
 | .un op x=>some (Qs op (.of x))
 | .ld k x=>some (Cj k (.of x))
 | .fa off x=>some (Eg off (.of x))
 | .ia es x i=>some (Gf es (.of x) (.of i))
 | .fx n es x i=>some (xFx n es (.of x) (.of i))
 | .len x=>some (Dp (.of x))
 | .ext x i=>some (Ga (.of x) i)
 | _=>none
def Uz:DOp->XU
 | .st n a x=>Jr n (.of a) (.of x)
 | .bx T x=>Pn T (.of x)
 | .al T z=>Rz T (z.map .v)
 | o=>Bd o
def Tm(dst:Option Pa)(o:DOp):Oo:=match o with
 | .mv x=>sM dst (.of x)
 | .call f args=>Bj f (args.map EO.of) dst
 | .cv tb x args=>aZ tb (.of x) (args.map EO.of) dst
 | .nxm k x=>XM k x dst
 | o=>match Yy o with
  | some x=>sX dst x
  | none=>sU dst (Uz o)
def jY(tb:Option (List (TypeId×FuncId)))(x:EO)(args:List EO)(dst:Option Pa):Oo:=λcall es=>
 Option.rec (motive:=λ_=>Option ES) none (λp=>iI (.fn p.1) (Lx p.2.1 (Lx (Yw es args) p.2.2)) dst call es) ((Oc es x).tgt tb)
def Zr(dst:Option Pa)(o:DOp):Oo:=match o with
 | .cv tb x args=>jY tb (.of x) (args.map EO.of) dst
 | .nxm _ _=>λ_ _=>none
 | o=>Tm dst o
def Ku(es:ES)(p:Pa)(b:Bool):Option Bool:=cV (Ae es (.t p)) (λv=>Value.casesOn (motive_1:=λ_=>Option Bool) v (λc=>some (c==b)) (λ_ _=>none) (λ_ _=>none) (λ_ _ _=>none) (λ_=>none) (λ_=>none) (λ_ _ _=>none) (λ_=>none) (λ_=>none) (λ_ _ _=>none) none (λ_ _=>none) none (λ_=>none) (λ_=>some false)) none
def sG(p:Pa)(b:Bool)(dst:Option Pa)(s:Oo):Oo:=λcall es=>Option.rec (motive:=λ_=>Option ES) none (λc=>Bool.rec (motive:=λ_=>Option ES) (some (es.putE dst (.v undef))) (s call es) c) (Ku es p b)
def sq(s k:Oo):Oo:=λcall es=>Option.rec (motive:=λ_=>Option ES) none (λes'=>es'.cs λsl hp nx=>k call ⟨sl,hp,nx⟩) (s call es)
def sK:Oo:=λ_ es=>some es
def sL(l:List Oo):Oo:=List.rec (motive:=λ_=>Oo) sK (λs _ ih=>sq s ih) l
def Fc:Option Nat->Option Pa
 | some t=>some (Cm t)
 | none=>none
def Xp(r:DR):Oo:=match r.g with
 | none=>Tm (Fc r.dst) r.op
 | some (t,b)=>sG (Cm t) b (Fc r.dst) (Tm (Fc r.dst) r.op)
def nG:List DR->Oo
 | []=>sK
 | r::rest=>sq (Xp r) (nG rest)
def Qy:Value->Value->Bool
 | .bool a,.bool b=>a==b
 | .int k a,.int k' b=>k==k'&&a==b
 | .string a,.string b=>a.data.toList==b.data.toList
 | .pointer none,.pointer none=>true
 | .slice none a b,.slice none c d=>a==c&&b==d
 | .map none,.map none=>true
 | .nilFunc,.nilFunc=>true
 | .nilIface,.nilIface=>true
 | _,_=>false
def Jo(f:DV->DV->Bool):List DV->List DV->Bool
 | [],[]=>true
 | a::as,b::bs=>f a b&&Jo f as bs
 | _,_=>false
def sn:Fn->Fn->Bool
 | .func f,.func g=>f==g
 | _,_=>false
def Oz:Nat->DV->DV->Bool
 | 0,_,_=>false
 | n+1,a,b=>match a,b with
  | .any,.any=>true
  | .v x,.v y=>Qy x y
  | .agg a,.agg b=>Jo (Oz n) a b
  | .tup a,.tup b=>Jo (Oz n) a b
  | .sl a m,.sl b m'=>m==m'&&Jo (Oz n) a b
  | .ia a,.ia b=>Jo (Oz n) a b
  | .fn f a,.fn g b=>sn f g&&Jo (Oz n) a b
  | .ifc T a,.ifc T' b=>T==T'&&Oz n a b
  | .ms i o k e,.ms i' o' k' e'=>i==i'&&o==o'&&k==k'&&e==e'
  | .pt i o,.pt i' o'=>i==i'&&o==o'
  | .mp i,.mp j=>i==j
  | .yl i,.yl j=>i==j
  | _,_=>false
def sm:Value->Value->Bool
 | .agg a,.agg b=>Jo (λx y=>match x,y with | .v x,.v y=>Qy x y | _,_=>false) (a.toList.map .v) (b.toList.map .v)
 | a,b=>Qy a b
def Zt(n:Nat):List ME->List ME->Bool
 | [],[]=>true
 | a::as,b::bs=>sm a.k b.k&&Oz n a.v b.v&&a.b==b.b&&Zt n as bs
 | _,_=>false
def Z7:List Nat->List Nat->Bool
 | [],[]=>true
 | a::as,b::bs=>a==b&&Z7 as bs
 | _,_=>false
def iM:DObj->DObj->Bool
 | .row T a,.row T' b=>T==T'&&Jo (Oz 6) a b
 | .mapo c a,.mapo d b=>c==d&&Zt 6 a b
 | .miter m c s l,.miter m' c' s' l'=>Oz 2 m m'&&c==c'&&Z7 s s'&&l==l'
 | _,_=>false
structure Look where
 i:Nat
 an:List Nat
 id:Nat
 own:Bool
 c:Bool
structure Past where
 q:Nat
 an:List Nat
 a:Tr DObj
 b:Tr DObj
def sameAt(a b:Tr DObj)(id:Nat):Bool:=match a.get id,b.get id with
 | some x,some y=>iM x y
 | _,_=>false
def uM(a b:Tr DObj)(id:Nat):Bool:=(a.get id).isSome==(b.get id).isSome
def Qw(n0 m:Nat)(ws:List Look)(ps:List Past):Bool:=ws.all λw=>ps.all λp=>w.an.contains p.q||p.an.contains w.i ||
 (if Nat.blt w.id n0||Nat.ble (n0+m) w.id then (if w.c then sameAt p.a p.b w.id else uM p.a p.b w.id) else w.own && !p.an.contains (w.id-n0))
def Cs(n0 m:Nat)(an:List Nat)(hp:Tr DObj)(id:Nat):Bool:=Fw (Sa (gN hp id)) (Fw (Nat.blt id n0) true (Fw (Nat.ble (n0+m) id) true (an.contains (id-n0)))) false
def refsL(es:ES)(ps:List Pa):List Nat:=List.rec (motive:=λ_=>List Nat) [] (λp _ ih=>Lx (Vv (Ae es (.t p))) ih) ps
structure DSt where
 es:ES
 lo:List Nat
 ws:List Look
 ps:List Past
def Q8(n0:Nat)(hp:Tr DObj):List Nat->Tr DObj
 | []=>hp
 | j::js=>Q8 n0 (hp.set (n0+j) none) js
def Ue(n0:Nat)(Hv hp:Tr DObj):List Nat->Tr DObj
 | []=>hp
 | j::js=>Ue n0 Hv (hp.set (n0+j) (Hv.get (n0+j))) js
abbrev Kd:Type:=Bg->Nat->Nat->DSt->Option DSt
def DSt.cs{α:Type}(d:DSt)(f:ES->List Nat->List Look->List Past->α):α:=DSt.rec (motive:=λ_=>α) f d
def Cx(i:Nat)(an:List Nat)(s:Oo):Kd:=λcall n0 _ d=>
 d.cs λes lo ws ps=>es.cs λsl hp nx=>B8 (lo.filter λj=>!an.contains j) λhid=>
 Option.rec (motive:=λ_=>Option DSt) none (λes'=>es'.cs λXL Ao Bk=>Fw (Nat.ble nx Bk) (some ⟨⟨XL,Ue n0 hp Ao hid,Bk⟩,hid,ws,⟨i,an,hp,Ue n0 hp Ao hid⟩::ps⟩) none) (s call ⟨sl,Q8 n0 hp hid,nx⟩)
def Gt(i:Nat)(an:List Nat)(wide c:Bool)(refs:List Nat)(n0:Nat)(lo:List Nat)(ws:List Look):List Look:=Fw wide (Lx (gE (λid=>⟨i,an,id,lo.contains (id-n0),c⟩) refs) ws) ws
def Ch(i:Nat)(an:List Nat)(wide c:Bool)(dst:Option Pa)(x:Nat->XP)(ps:List Pa):Kd:=λ_ n0 _ d=>
 d.cs λes lo ws pp=>Option.rec (motive:=λ_=>Option DSt) none (λv=>some ⟨es.putE dst v,lo,Gt i an wide c (refsL es ps) n0 lo ws,pp⟩) (x (n0+i) es)
def Gd(x:XU):Nat->XP:=λnid es=>Option.rec (motive:=λ_=>Option DV) none (λp=>Upd.casesOn (motive:=λ_=>Option DV) p.2 (some p.1) (λ_=>none) (λ_ _=>none) (λ_ _=>none)) (x es nid)
def Rx(i:Nat)(an:List Nat)(wide c:Bool)(dst:Option Pa)(x:XU)(ps:List Pa):Kd:=λ_ n0 _ d=>
 d.cs λes lo ws pp=>es.cs λsl hp nx=>bY (n0+i) λnid=>Option.rec (motive:=λ_=>Option DSt) none (λp=>Upd.casesOn (motive:=λ_=>Option DSt) p.2 none
  (λo=>some ⟨(ES.mk sl (Ki hp nid (some o)) nx).putE dst p.1,i::lo,Gt i an wide c (refsL es ps) n0 lo ws,pp⟩) (λ_ _=>none) (λ_ _=>none)) (x es nid)
def zZ(i:Nat)(an:List Nat)(tgt:Nat)(dst:Option Pa)(x:XU)(ps:List Pa):Kd:=λ_ n0 _ d=>
 d.cs λes lo ws pp=>es.cs λsl hp nx=>Option.rec (motive:=λ_=>Option DSt) none (λp=>Upd.casesOn (motive:=λ_=>Option DSt) p.2 none (λ_=>none)
  (λid o=>Fw (Nat.beq id (n0+tgt)&&lo.contains tgt&&an.contains tgt&&Ug (refsL es ps) (λr=>Nat.beq r (n0+tgt))) (some ⟨(ES.mk sl (Ki hp id (some o)) nx).putE dst p.1,lo,ws,pp⟩) none) (λ_ _=>none)) (x es (n0+i))
def By(an:List Nat)(ps:List Pa)(s:Kd):Kd:=λcall n0 m d=>Fw (Ug (refsL d.es ps) λid=>Cs n0 m an d.es.hp id) (s call n0 m d) none
def dX(an:List Nat)(ps:List Pa)(i:Nat)(dst:Option Pa)(x:XP):Kd:=By an ps (Ch i an false false dst (λ_=>x) ps)
def dY(an:List Nat)(ps:List Pa)(i:Nat)(dst:Option Pa)(x:XP):Kd:=By an ps (Ch i an false true dst (λ_=>x) ps)
def dP(an:List Nat)(i:Nat)(dst:Option Pa)(p:Pa):Kd:=By an [p] (Ch i an false false dst (λ_ es=>some (Ae es (.t p))) [p])
def dG(p:Pa)(b:Bool)(dst:Option Pa)(s:Kd):Kd:=λcall n0 m d=>Option.rec (motive:=λ_=>Option DSt) none (λc=>Bool.rec (motive:=λ_=>Option DSt) (d.cs λes lo ws pp=>some ⟨es.putE dst (.v undef),lo,ws,pp⟩) (s call n0 m d) c) (Ku d.es p b)
def dq(s k:Kd):Kd:=λcall n0 m d=>Option.rec (motive:=λ_=>Option DSt) none (λd'=>d'.cs λes lo ws pp=>es.cs λsl hp nx=>k call n0 m ⟨⟨sl,hp,nx⟩,lo,ws,pp⟩) (s call n0 m d)
def P0:Kd:=λ_ _ _ d=>some d
def dL(l:List Kd):Kd:=List.rec (motive:=λ_=>Kd) P0 (λs _ ih=>dq s ih) l
def iH(o:DOp):List Nat:=o.opnds.filterMap λ| .tmp t=>some t | _=>none
def uG(i:Nat)(r:DR)(o:OI):Kd:=
 By o.an ((iH r.op).map Cm) (match o.cls with
  | 2=>Cx i o.an (Zr (Fc r.dst) r.op)
  | 0=>Ch i o.an o.wide r.op.rdC (Fc r.dst) (match r.op with
   | .mv x=>λ_ es=>some (Ae es (.of x))
   | op=>match Yy op with
    | some x=>λ_=>x
    | none=>Gd (Uz op)) ((iH r.op).map Cm)
  | 1=>Rx i o.an o.wide r.op.rdC (Fc r.dst) (Uz r.op) ((iH r.op).map Cm)
  | _=>zZ i o.an o.tgt (Fc r.dst) (Uz r.op) ((iH r.op).map Cm))
def eT(i:Nat)(r:DR)(o:OI):Kd:=match r.g with
 | none=>uG i r o
 | some (t,b)=>dG (Cm t) b (Fc r.dst) (uG i r o)
def Qg:List DR->List OI->Nat->Kd
 | r::rs,o::os,i=>dq (eT i r o) (Qg rs os (i+1))
 | _,_,_=>P0
def Gq(m:Nat)(s:Kd):Oo:=λcall es=>Option.rec (motive:=λ_=>Option ES) none (λd=>Fw (Qw es.nx m d.ws d.ps) (some d.es) none) (es.cs λsl hp nx=>bY (nx+m) λn=>s call nx m ⟨⟨sl,hp,n⟩,[],[],[]⟩)
abbrev CE:Type:=Bg->ES->Option (Exit×ES)
def cN(s:Oo):CE:=λcall es=>Option.rec (motive:=λ_=>Option (Exit×ES)) none (λes'=>some (.normal,es')) (s call es)
def cE(e:Exit):CE:=λ_ es=>
 some (e,es)
def cS(a b:CE):CE:=λcall es=>Option.rec (motive:=λ_=>Option (Exit×ES)) none (λp=>Prod.rec (motive:=λ_=>Option (Exit×ES)) (λe es'=>Exit.casesOn (motive:=λ_=>Option (Exit×ES)) e (b call es') (λ_=>some (e,es')) (λ_=>some (e,es')) (some (e,es')) (λ_=>some (e,es')) (some (e,es'))) p) (a call es)
def cT(l:List Oo)(c:CE):CE:=cS (cN (sL l)) c
def cC(x:EO)(a b:CE):CE:=λcall es=>cV (Ae es x) (λv=>eY v (λt=>Bool.rec (motive:=λ_=>Option (Exit×ES)) (b call es) (a call es) t) (λ_ _=>none) (λ_=>none) none) none
def cB(id:Nat)(c:CE):CE:=λcall es=>Option.rec (motive:=λ_=>Option (Exit×ES)) none (λp=>Prod.rec (motive:=λ_=>Option (Exit×ES)) (λe es'=>Exit.casesOn (motive:=λ_=>Option (Exit×ES)) e (some (e,es')) (λi=>Fw (Nat.beq i id) (some (.normal,es')) (some (e,es'))) (λ_=>some (e,es')) (some (e,es')) (λ_=>some (e,es')) (some (e,es'))) p) (c call es)
def cL(n:Nat)(c:CE):CE:=Nat.rec (motive:=λ_=>CE) (λ_ _=>none) (λ_ ih=>cS c ih) n
def cR(nt:Nat)(rd:Bool)(g:EO)(ps:List Nat)(a b:DC):CE:=λcall es=>if rd then none else match (Oc es g).asFn with
 | some (f,cs)=>match call (.fn f) (.yl es.nx::cs) (es.hp.set es.nx (some (.loop ⟨nt,.t es.sl,ps,a,b,.ready,none⟩))) (es.nx+1) with
  | some (_,hp,nx)=>match hp.get es.nx with
   | some (.loop lp)=>match lp.st with
    | .busy=>none
    | _=>match lp.pend with
     | none=>some (.normal,⟨es.sl,hp.set es.nx none,nx⟩)
     | some .ret=>some (.ret,⟨es.sl,hp.set es.nx none,nx⟩)
     | some (.exit i)=>some (.exit i,⟨es.sl,hp.set es.nx none,nx⟩)
     | _=>none
   | _=>none
  | none=>none
 | none=>none
def Dt(n nt:Nat)(rd:Bool):DC->CE
 | .skip=>cE .normal
 | .ret=>cE .ret
 | .exit id=>cE (.exit id)
 | .seq a b=>cS (Dt n nt rd a) (Dt n nt rd b)
 | .cond x a b=>cC (.of x) (Dt n nt rd a) (Dt n nt rd b)
 | .blk id c=>cB id (Dt n nt rd c)
 | .loop c=>cL n (Dt n nt rd c)
 | .reg draw ops info=>match draw with
  | false=>cN (nG ops)
  | true=>match info.ok with
   | true=>cN (Gq ops.length (Qg ops info.l 0))
   | false=>λ_ _=>none
 | .rng g ps a b=>cR nt rd (.of g) ps a b
 | .dfq t g cap=>match rd with
  | true=>λ_ _=>none
  | false=>cN (Tm (some (Cm t)) (.mkf (.func g) [] cap))
 | .bad=>λ_ _=>none
def Vp(ds:List DV):Tr DV:=List.rec (motive:=λ_=>Nat->Tr DV->Tr DV) (λ_ t=>t) (λd _ ih i t=>ih (i+1) (sP (Cm i) (some d) t)) ds 0 .e
def Ov(ps:List Nat)(ds:List DV):Tr DV->Tr DV:=List.rec (motive:=λ_=>List DV->Tr DV->Tr DV) (λ_ t=>t) (λp _ ih ds t=>List.rec (motive:=λ_=>Tr DV) t (λd fP _=>ih fP (sP (Cm p) (some d) t)) ds) ps ds
structure FE where
 run:CE
 res:List (Nat×Option (Option Nat))
 nt:Nat
def AL(k:Option Nat)(x:EO):XP:=λes=>lJ (Ae es x) (λ_=>none) (λid off=>Ym es.hp id (λ_ cs=>Tq k (Ls off cs)) none) none
def Wo(es:ES)(q:Nat×Option (Option Nat)):Option DV:=Prod.rec (motive:=λ_=>Option DV) (λt k=>Option.rec (motive:=λ_=>Option DV) (some (Oc es (.t (Cm t)))) (λk=>AL k (.t (Cm t)) es) k) q
def Zv(ds:Option (List DV)):Option DV:=match ds with
 | some [d]=>some d
 | some ds=>some (.tup ds)
 | none=>none
def Nl(res:List (Nat×Option (Option Nat)))(es:ES):Option (DV×Tr DObj×Nat):=match Zv (res.mapM (Wo es)) with
 | some d=>some (d,es.hp,es.nx)
 | none=>none
def Xq(tb:Nat->Option FE)(n:Nat)(call:Bg):Bg:=λtg ds hp nx=>match tg with
  | .fn f=>match tb f with
   | some fe=>if ds.length<=fe.nt then match fe.run (call) ⟨Vp ds,hp,nx⟩ with
     | some (.normal,es)=>Nl fe.res es
     | some (.ret,es)=>Nl fe.res es
     | _=>none
    else none
   | none=>none
  | .yl id=>match hp.get id with
   | some (.loop lp)=>match lp.st,lp.sl with
    | .ready,.t sl=>if ds.length=lp.ps.length/\lp.ps.all (λt=>Nat.blt t lp.nt)=true then
      match Dt n lp.nt true lp.asg (call) ⟨Ov lp.ps ds sl,hp,nx⟩ with
      | some (.normal,An)=>match An.hp.get id with
       | some (.loop Tt)=>match Tt.st with
        | .ready=>match Dt n lp.nt true lp.body (call) { An with hp:=An.hp.set id (some (.loop { Tt with st:=.busy })) } with
         | some (e,Cb)=>match Cb.hp.get id with
          | some (.loop Pp)=>match e with
           | .normal=>some (.v (.bool true),Cb.hp.set id (some (.loop { Pp with st:=.ready,pend:=none })),Cb.nx)
           | .ret=>some (.v (.bool false),Cb.hp.set id (some (.loop { Pp with st:=.done,pend:=some .ret })),Cb.nx)
           | .exit i=>some (.v (.bool false),Cb.hp.set id (some (.loop { Pp with st:=.done,pend:=some (.exit i) })),Cb.nx)
           | _=>none
          | _=>none
         | none=>none
        | _=>none
       | _=>none
      | _=>none
     else none
    | _,_=>none
   | _=>none
def jL(tb:Nat->Option FE)(n:Nat):Nat->Bg
 | 0=>λ_ _ _ _=>none
 | k+1=>Xq tb n (jL tb n k)
def G6:Option (DV×Tr DObj×Nat)->Bool
 | some (.v (.bool b),_,_)=>b
 | _=>false
def bs(l:List UInt8):ByteArray:=⟨l.toArray⟩
instance aUf:Coe Bool EO:=⟨λb=>.c (.v (.bool b))⟩
instance aUe:Coe Int EO:=⟨λn=>.c (.v (.int .i64 n))⟩
instance aD8 {s:String} [h:CoeDep String s Pa]:CoeDep String s EO:=⟨EO.t h.coe⟩
instance aD7 {s:String} [h:CoeDep String s Pa]:CoeDep String s (Option Pa):=⟨some h.coe⟩
instance:CoeDep String "!" Pa:=⟨Pa.o.l.r⟩
instance:CoeDep String "$" Pa:=⟨Pa.o.r.r⟩
instance:CoeDep String "%" Pa:=⟨Pa.o.l.l.r⟩
instance:CoeDep String "&" Pa:=⟨Pa.o.l.r.l⟩
instance:CoeDep String "(" Pa:=⟨Pa.o.l.l.l⟩
instance:CoeDep String ")" Pa:=⟨Pa.o.r.l⟩
instance:CoeDep String "*" Pa:=⟨Pa.o.l.r.r⟩
instance:CoeDep String "+" Pa:=⟨Pa.o.r.r.l⟩
instance:CoeDep String "," Pa:=⟨Pa.o.r.l.l⟩
instance:CoeDep String "." Pa:=⟨Pa.o.r.l.r⟩
instance:CoeDep String "0" Pa:=⟨Pa.o.l.r.r.l⟩
instance:CoeDep String "1" Pa:=⟨Pa.o.r.r.r⟩
instance:CoeDep String "2" Pa:=⟨Pa.o.l.l.l.r⟩
instance:CoeDep String "3" Pa:=⟨Pa.o.l.l.r.l⟩
instance:CoeDep String "4" Pa:=⟨Pa.o.l.l.l.l⟩
instance:CoeDep String "5" Pa:=⟨Pa.o.r.l.l.r⟩
instance:CoeDep String "6" Pa:=⟨Pa.o.l.l.r.r⟩
instance:CoeDep String "7" Pa:=⟨Pa.o.l.r.l.l⟩
instance:CoeDep String "8" Pa:=⟨Pa.o.l.r.l.r⟩
instance:CoeDep String "9" Pa:=⟨Pa.o.r.l.r.r⟩
instance:CoeDep String ":" Pa:=⟨Pa.o.r.l.l.l⟩
instance:CoeDep String ";" Pa:=⟨Pa.o.r.l.r.l⟩
instance:CoeDep String "<" Pa:=⟨Pa.o.l.r.r.r⟩
instance:CoeDep String "=" Pa:=⟨Pa.o.r.r.l.l⟩
instance:CoeDep String ">" Pa:=⟨Pa.o.l.l⟩
instance:CoeDep String "?" Pa:=⟨Pa.o.r.r.l.r⟩
instance:CoeDep String "@" Pa:=⟨Pa.o.r.r.r.l⟩
instance:CoeDep String "A" Pa:=⟨Pa.o.r.r.r.r⟩
instance:CoeDep String "B" Pa:=⟨Pa.o.l.l.l.l.l⟩
instance:CoeDep String "C" Pa:=⟨Pa.o.l.l.l.l.r⟩
instance:CoeDep String "D" Pa:=⟨Pa.o.l.l.l.r.l⟩
instance:CoeDep String "E" Pa:=⟨Pa.o.l.r.l.l.l⟩
instance:CoeDep String "F" Pa:=⟨Pa.o.l.l.l.r.r⟩
instance:CoeDep String "G" Pa:=⟨Pa.o.l.l.r.l.l⟩
instance:CoeDep String "H" Pa:=⟨Pa.o.l.r.l.l.r⟩
instance:CoeDep String "I" Pa:=⟨Pa.o.l.l.r.l.r⟩
instance:CoeDep String "J" Pa:=⟨Pa.o.l.r.l.r.l⟩
instance:CoeDep String "K" Pa:=⟨Pa.o.l.r.r.l.l⟩
instance:CoeDep String "L" Pa:=⟨Pa.o.l.r.l.r.r⟩
instance:CoeDep String "M" Pa:=⟨Pa.o.l.r.r.r.r⟩
instance:CoeDep String "N" Pa:=⟨Pa.o.l.r.r.l.r⟩
instance:CoeDep String "O" Pa:=⟨Pa.o.l.l.r.r.l⟩
instance:CoeDep String "P" Pa:=⟨Pa.o.l.l.r.r.r⟩
instance:CoeDep String "Q" Pa:=⟨Pa.o.l.r.r.r.l⟩
instance:CoeDep String "R" Pa:=⟨Pa.o.r.l.l.l.l⟩
instance:CoeDep String "S" Pa:=⟨Pa.o.r.l.l.r.l⟩
instance:CoeDep String "T" Pa:=⟨Pa.o.r.l.l.l.r⟩
instance:CoeDep String "U" Pa:=⟨Pa.o.r.l.r.r.r⟩
instance:CoeDep String "V" Pa:=⟨Pa.o.r.r.r.l.l⟩
instance:CoeDep String "W" Pa:=⟨Pa.o.r.l.r.l.l⟩
instance:CoeDep String "X" Pa:=⟨Pa.o.r.l.r.l.r⟩
instance:CoeDep String "Y" Pa:=⟨Pa.o.r.l.l.r.r⟩
instance:CoeDep String "Z" Pa:=⟨Pa.o.r.r.l.r.r⟩
instance:CoeDep String "[" Pa:=⟨Pa.o.r.r.r.r.r⟩
instance:CoeDep String "]" Pa:=⟨Pa.o.l.l.l.l.r.r⟩
instance:CoeDep String "^" Pa:=⟨Pa.o.r.r.l.l.l⟩
instance:CoeDep String "_" Pa:=⟨Pa.o.r.l.r.r.l⟩
instance:CoeDep String "a" Pa:=⟨Pa.o.l.l.l.l.l.r⟩
instance:CoeDep String "b" Pa:=⟨Pa.o.r.r.l.l.r⟩
instance:CoeDep String "c" Pa:=⟨Pa.o.r.r.r.r.l⟩
instance:CoeDep String "d" Pa:=⟨Pa.o.l.l.l.l.l.l⟩
instance:CoeDep String "e" Pa:=⟨Pa.o.r.r.l.r.l⟩
instance:CoeDep String "f" Pa:=⟨Pa.o.r.r.r.l.r⟩
instance:CoeDep String "g" Pa:=⟨Pa.o.l.l.l.l.r.l⟩
instance:CoeDep String "h" Pa:=⟨Pa.o.l.l.l.r.l.l⟩
instance:CoeDep String "i" Pa:=⟨Pa.o.l.r.l.r.l.l⟩
instance:CoeDep String "j" Pa:=⟨Pa.o.l.l.l.r.r.l⟩
instance:CoeDep String "k" Pa:=⟨Pa.o.l.l.r.l.r.l⟩
instance:CoeDep String "l" Pa:=⟨Pa.o.l.l.r.r.l.r⟩
instance:CoeDep String "m" Pa:=⟨Pa.o.l.l.l.r.r.r⟩
instance:CoeDep String "n" Pa:=⟨Pa.o.l.l.l.r.l.r⟩
instance:CoeDep String "o" Pa:=⟨Pa.o.l.l.r.l.l.r⟩
instance:CoeDep String "p" Pa:=⟨Pa.o.l.l.r.l.r.r⟩
instance:CoeDep String "q" Pa:=⟨Pa.o.r.l.l.l.r.l⟩
instance:CoeDep String "r" Pa:=⟨Pa.o.l.r.l.l.r.l⟩
instance:CoeDep String "s" Pa:=⟨Pa.o.l.l.r.l.l.l⟩
instance:CoeDep String "t" Pa:=⟨Pa.o.l.r.l.r.r.l⟩
instance:CoeDep String "u" Pa:=⟨Pa.o.l.r.r.l.l.l⟩
instance:CoeDep String "v" Pa:=⟨Pa.o.l.l.r.r.r.r⟩
instance:CoeDep String "w" Pa:=⟨Pa.o.l.l.r.r.r.l⟩
instance:CoeDep String "x" Pa:=⟨Pa.o.l.r.l.l.l.l⟩
instance:CoeDep String "y" Pa:=⟨Pa.o.l.r.l.l.l.r⟩
instance:CoeDep String "z" Pa:=⟨Pa.o.l.l.r.r.l.l⟩
instance:CoeDep String "|" Pa:=⟨Pa.o.l.r.l.r.l.r⟩
instance:CoeDep String "~" Pa:=⟨Pa.o.l.r.r.r.l.r⟩
instance:CoeDep String "aa" Pa:=⟨Pa.o.l.r.r.l.l.r⟩
instance:CoeDep String "ab" Pa:=⟨Pa.o.l.r.r.r.r.l⟩
instance:CoeDep String "ac" Pa:=⟨Pa.o.l.r.l.r.r.r⟩
instance:CoeDep String "ad" Pa:=⟨Pa.o.l.r.r.l.r.l⟩
instance:CoeDep String "ae" Pa:=⟨Pa.o.l.r.r.l.r.r⟩
instance:CoeDep String "af" Pa:=⟨Pa.o.l.r.r.r.l.l⟩
instance:CoeDep String "ag" Pa:=⟨Pa.o.l.r.l.l.r.r⟩
instance:CoeDep String "ah" Pa:=⟨Pa.o.l.r.r.r.r.r⟩
instance:CoeDep String "ai" Pa:=⟨Pa.o.r.l.l.l.l.l⟩
instance:CoeDep String "aj" Pa:=⟨Pa.o.r.l.l.l.l.r⟩
instance:CoeDep String "ak" Pa:=⟨Pa.o.r.l.l.r.l.l⟩
instance:CoeDep String "al" Pa:=⟨Pa.o.r.l.l.r.l.r⟩
instance:CoeDep String "am" Pa:=⟨Pa.o.r.l.l.r.r.l⟩
instance:CoeDep String "an" Pa:=⟨Pa.o.r.l.l.r.r.r⟩
instance:CoeDep String "ao" Pa:=⟨Pa.o.r.l.r.l.r.l⟩
instance:CoeDep String "ap" Pa:=⟨Pa.o.r.l.l.l.r.r⟩
instance:CoeDep String "aq" Pa:=⟨Pa.o.r.l.r.l.l.l⟩
instance:CoeDep String "ar" Pa:=⟨Pa.o.r.l.r.l.l.r⟩
instance:CoeDep String "as" Pa:=⟨Pa.o.r.l.r.l.r.r⟩
instance:CoeDep String "at" Pa:=⟨Pa.o.r.l.r.r.l.r⟩
instance:CoeDep String "au" Pa:=⟨Pa.o.r.l.r.r.r.l⟩
instance:CoeDep String "av" Pa:=⟨Pa.o.r.l.r.r.r.r⟩
instance:CoeDep String "aw" Pa:=⟨Pa.o.r.r.l.r.l.r⟩
instance:CoeDep String "ax" Pa:=⟨Pa.o.r.r.l.l.l.l⟩
instance:CoeDep String "ay" Pa:=⟨Pa.o.r.l.r.r.l.l⟩
instance:CoeDep String "az" Pa:=⟨Pa.o.r.r.l.l.r.l⟩
instance:CoeDep String "aA" Pa:=⟨Pa.o.r.r.l.l.r.r⟩
instance:CoeDep String "aB" Pa:=⟨Pa.o.r.r.l.r.l.l⟩
instance:CoeDep String "aC" Pa:=⟨Pa.o.r.r.l.r.r.l⟩
instance:CoeDep String "aD" Pa:=⟨Pa.o.r.r.l.r.r.r⟩
instance:CoeDep String "aE" Pa:=⟨Pa.o.r.r.r.l.l.l⟩
instance:CoeDep String "aF" Pa:=⟨Pa.o.r.r.r.l.l.r⟩
instance:CoeDep String "aG" Pa:=⟨Pa.o.r.r.r.l.r.l⟩
instance:CoeDep String "aH" Pa:=⟨Pa.o.r.r.r.l.r.r⟩
instance:CoeDep String "aI" Pa:=⟨Pa.o.r.r.r.r.l.l⟩
instance:CoeDep String "aJ" Pa:=⟨Pa.o.r.r.r.r.l.r⟩
instance:CoeDep String "aK" Pa:=⟨Pa.o.l.l.l.l.l.l.l⟩
instance:CoeDep String "aL" Pa:=⟨Pa.o.l.l.l.l.l.l.r⟩
instance:CoeDep String "aM" Pa:=⟨Pa.o.r.r.l.l.l.r⟩
instance:CoeDep String "aN" Pa:=⟨Pa.o.l.l.l.l.l.r.l⟩
instance:CoeDep String "aO" Pa:=⟨Pa.o.r.r.r.r.r.l⟩
instance:CoeDep String "aP" Pa:=⟨Pa.o.r.r.r.r.r.r⟩
instance:CoeDep String "aQ" Pa:=⟨Pa.o.l.l.l.l.l.r.r⟩
instance:CoeDep String "aR" Pa:=⟨Pa.o.l.l.l.l.r.l.r⟩
instance:CoeDep String "aS" Pa:=⟨Pa.o.l.l.l.r.l.l.r⟩
instance:CoeDep String "aT" Pa:=⟨Pa.o.l.l.l.r.l.r.l⟩
instance:CoeDep String "aU" Pa:=⟨Pa.o.l.l.l.r.r.l.l⟩
instance:CoeDep String "aV" Pa:=⟨Pa.o.l.l.l.r.r.l.r⟩
instance:CoeDep String "aW" Pa:=⟨Pa.o.l.l.l.r.r.r.l⟩
instance:CoeDep String "aX" Pa:=⟨Pa.o.l.l.l.r.r.r.r⟩
instance:CoeDep String "aY" Pa:=⟨Pa.o.l.l.r.l.l.l.l⟩
instance:CoeDep String "aZ" Pa:=⟨Pa.o.l.l.r.l.l.l.r⟩
instance:CoeDep String "a0" Pa:=⟨Pa.o.l.l.l.l.r.l.l⟩
instance:CoeDep String "a1" Pa:=⟨Pa.o.l.l.l.l.r.r.l⟩
instance:CoeDep String "a2" Pa:=⟨Pa.o.l.l.l.r.l.l.l⟩
instance:CoeDep String "a3" Pa:=⟨Pa.o.l.l.l.r.l.r.r⟩
instance:CoeDep String "a4" Pa:=⟨Pa.o.l.r.r.l.r.r.l⟩
instance:CoeDep String "a5" Pa:=⟨Pa.o.r.l.l.l.r.l.l⟩
instance:CoeDep String "a6" Pa:=⟨Pa.o.r.l.r.l.l.r.l⟩
end Go.DD
