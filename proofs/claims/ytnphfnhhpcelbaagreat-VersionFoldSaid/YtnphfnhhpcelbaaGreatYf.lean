/- A part. -/
import Derived.Test.YtnphfnhhpcelbaaGreatYe
import Derived.IntWalk
noncomputable section
set_option linter.unusedSectionVars false
set_option linter.unusedVariables false
namespace Go.DD
theorem zh(ds:List DV)(t:Nat):((Uu ds).get t).getD .any=Xt ds t:=by
 have key:∀ (ds:List DV) (i:Nat) (tr:Tr DV),(List.rec (motive:=λ_=>Nat->Tr DV->Tr DV) (λ_ t=>t) (λd _ ih i t=>ih (i+1) (sP (Cq i) (some d) t)) ds i tr:Tr DV).get t=if i<=t/\t<i+ds.length then ds[t-i]? else tr.get t:=by
  intro ds
  induction ds with
  | nil=>
   intro i tr
   rw [Ae (by simp only [Mh];omega)]
  | cons d ds ih=>
   intro i tr
   show (List.rec (motive:=λ_=>Nat->Tr DV->Tr DV) (λ_ t=>t) (λd _ ih i t=>ih (i+1) (sP (Cq i) (some d) t)) ds (i+1) (sP (Cq i) (some d) tr):Tr DV).get t=_
   rw [ih,uw]
   by_cases h1:i+1<=t/\t<i+1+ds.length
   .rw [Af h1,Af (by simp;omega)]
    rw [show t-i=(t-(i+1))+1 by omega]
    simp
   .rw [Ae h1]
    by_cases h2:i=t
    .subst h2
     rw [Af rfl,Af (by simp)]
     simp
    .rw [Ae h2,Ae (by simp;omega)]
 have:=key ds 0 .e
 unfold Uu Xt
 rw [this]
 by_cases h:t<ds.length
 .rw [Af (by omega)];simp
 .rw [Ae (by omega),Ff (by omega)]
  cases t <;> rfl
theorem Bk1:∀ (ps:List Nat) (ds:List DV) (sl:Tr DV),(λu=>((Np ps ds sl).get u).getD .any)=aA ps ds λu=>(sl.get u).getD .any
 | [],ds,sl=>by cases ds <;> rfl
 | p::ps,[],sl=>rfl
 | p::ps,d::ds,sl=>by
  have e:Np (p::ps) (d::ds) sl=Np ps ds (sP (Cq p) (some d) sl):=rfl
  rw [e,Bk1 ps ds]
  simp only [aA]
  congr 1
  funext u
  rw [uw]
  by_cases h:p=u
  .simp [h]
  .simp [h]
theorem C01{k:Option Nat}{t:Nat}{es:ES}{d:DV}(h:BR k (.t (Cq t)) es=some d):Yf es.ds (t,some k)=some d:=by
 unfold BR at h
 rcases PM h with ⟨_,_,h⟩ | ⟨id,off,ha,h⟩
 .cases h
 .obtain ⟨T,cs,hr,h⟩:=xv h
  have uA:es.ds.rv (.tmp t)=.pt id off:=by rw [<- Ts];exact ha
  have ho:es.ds.ho id=some (.row T cs):=hr
  simp only [Yf,dD uA (by rw [ho];rfl),ho]
  rw [<- jB,<- Z9]
  exact h
theorem Cp2{es:ES}{q:Nat×Option (Option Nat)}{d:DV}(h:Vv es q=some d):Yf es.ds q=some d:=by
 obtain ⟨t,k⟩:=q
 cases k with
 | none=>
  have h':some (My es (.t (Cq t)))=some d:=h
  have e:My es (.t (Cq t))=es.ds.ev (.tmp t):=lY es (.tmp t)
  rw [e] at h'
  exact h'
 | some k=>exact C01 h
theorem Bv6{es:ES} : ∀ {qs:List (Nat×Option (Option Nat))} {ds:List DV},qs.mapM (Vv es)=some ds->qs.mapM (Yf es.ds)=some ds
 | [],ds,h=>by simpa using h
 | q::qs,ds,h=>by
  simp only [Gx,Ge,Ay,Hd] at h ⊢
  obtain ⟨d,hd,dt,lf,h⟩:=h
  exact ⟨d,Cp2 hd,dt,Bv6 lf,h⟩
theorem Bv7{es:ES}{qs:List (Nat×Option (Option Nat))}{d:DV}{hp:Tr DObj}{nx:Nat}(h:Mo qs es=some (d,hp,nx)):aE es.ds qs=some d/\hp=es.hp/\nx=es.nx:=by
 unfold Mo at h
 cases hm:qs.mapM (Vv es) with
 | none=>rw [hm] at h;cases h
 | some ds=>
  rw [hm] at h
  have h2:=Bv6 hm
  unfold aE
  rw [h2]
  match ds,h with
  | [],h=>cases h;exact ⟨rfl,rfl,rfl⟩
  | [x],h=>cases h;exact ⟨rfl,rfl,rfl⟩
  | x::y::l,h=>cases h;exact ⟨rfl,rfl,rfl⟩
def oe(P:Program)(n:Nat)(fn:Func):Option FE:=match Yp P fn with
 | some df=>some ⟨mQ n df.nt df.code,df.res,df.nt⟩
 | none=>none
def TbAt(P:Program)(n f:Nat)(fe:FE):Prop:=Uc P f=true/\∃ fn df,P.funcs[f]?=some fn/\Yp P fn=some df/\fe.run=mQ n df.nt df.code/\fe.res=df.res/\fe.nt=df.nt
def dQ(P:Program)(n:Nat)(tb:Nat->Option FE):Prop:=∀ f fe,tb f=some fe->TbAt P n f fe
theorem TbAt.of{P:Program}{n f:Nat}{fe:FE}{fn:Func}(h1:P.funcs[f]?=some fn)(h2:Uc P f=true)(h3:oe P n fn=some fe):TbAt P n f fe:=by
 unfold oe at h3
 split at h3
 .rename_i df hd
  cases h3
  exact ⟨h2,fn,df,h1,hd,rfl,rfl,rfl⟩
 .cases h3
def WX(P:Program)(n f:Nat):Option FE:=Fv (Uc P f) (Option.rec (motive:=λ_=>Option FE) none (λfn=>oe P n fn) (P.funcs[f]?)) none
theorem um(P:Program)(n:Nat):dQ P n (WX P n):=by
 intro f fe h
 obtain ⟨h1,h2⟩:=dZ h
 obtain ⟨fn,h3,h4⟩:=Jo h2
 exact TbAt.of h3 h1 h4
theorem Ce3(es:ES)(id:Nat)(o:Option DObj):(ES.mk es.sl (es.hp.set id o) es.nx).ds=es.ds.lay id o:=by
 rw [Rv,Tr.set_ho];rfl
theorem Ce4{es:ES}{id:Nat}{o:DObj}{x:DObj}(h:es.hp.get id=some x):Gw es.ds (ES.mk es.sl (es.hp.set id (some o)) es.nx).ds:=by
 rw [Ce3]
 refine ⟨Ag _,λj h1 h2=>?_⟩
 simp only [DS.lay,Gf] at h2
 split at h2
 .rename_i e
  have A0:es.hp.get j=none:=h1
  rw [e,h] at A0;cases A0
 .exact absurd h1 h2
theorem zg{P:Program}(hm:P.follows .mixedOrders=true){tb:Nat->Option FE}{n' n:Nat}(gS:dQ P n' tb){call:Bg}(ih:Uw P call):Uw P (Wv tb n call):=by
  intro tg ds hp nx d An Bm h Cy
  cases tg with
  | fn f=>
   have h0:(match tb f with
    | some fe=>if ds.length<=fe.nt then match fe.run call ⟨Uu ds,hp,nx⟩ with
      | some (.normal,es)=>Mo fe.res es
      | some (.ret,es)=>Mo fe.res es
      | _=>none
     else none
    | none=>none)=some (d,An,Bm):=h
   split at h0
   rotate_left
   .cases h0
   rename_i fe ki
   obtain ⟨Uq,fn,df,hf,oW,e1,e2,e3⟩:=gS f fe ki
   split at h0
   rotate_left
   .cases h0
   rename_i hlen
   rw [e1] at h0
   have Fm:∃ e es,mQ n' df.nt df.code call ⟨Uu ds,hp,nx⟩=some (e,es)/\(e=.normal\/e=.ret)/\Mo fe.res es=some (d,An,Bm):=by
    revert h0
    split
    .rename_i es he;exact λh0=>⟨_,es,he,.inl rfl,h0⟩
    .rename_i es he;exact λh0=>⟨_,es,he,.inr rfl,h0⟩
    .intro h0;cases h0
   obtain ⟨e,es,Td,Xy,Oj⟩:=Fm
   obtain ⟨cF,rfl,rfl⟩:=Bv7 Oj
   obtain ⟨g1,g2⟩:=Cp1 ih hm Td Cy
   refine ⟨g1.le,g1.new,Uq,λsv K hK=>.inl ⟨fn,df,hf,oW,by rw [<- e3];exact hlen,λS G w0 X M Y R=>?_⟩⟩
   have Ib:(ES.mk (Uu ds) hp nx).ds=⟨Xt ds,hp.get,nx⟩:=by
    rw [Rv]
    congr 1
    funext t
    exact zh ds t
   have:=g2 ⟨P,S,G,w0,df.nt,X,M,none,Y,R⟩ (λe s'=>(e=.normal\/e=.ret)/\∃ d,aE s' df.res=some d/\K ⟨sv,s'.ho,s'.nx⟩ d) rfl rfl rfl (λe' Ni=>⟨by rcases Ni with rfl | h | h;exact Xy;exact .inl h;exact .inr h,d,by rw [<- e2];exact cF,hK⟩)
   rw [Ib] at this
   exact this
  | yl id=>
   have h0:(match hp.get id with
   | some (.loop lp)=>match lp.st,lp.sl with
    | .ready,.t sl=>if ds.length=lp.ps.length/\lp.ps.all (λt=>Nat.blt t lp.nt)=true then
      match Dv n lp.nt true lp.asg call ⟨Np lp.ps ds sl,hp,nx⟩ with
      | some (.normal,Ai)=>match Ai.hp.get id with
       | some (.loop Sz)=>match Sz.st with
        | .ready=>match Dv n lp.nt true lp.body call { Ai with hp:=Ai.hp.set id (some (.loop { Sz with st:=.busy })) } with
         | some (e,Cd)=>match Cd.hp.get id with
          | some (.loop Ow)=>match e with
           | .normal=>some (.v (.bool true),Cd.hp.set id (some (.loop { Ow with st:=.ready,pend:=none })),Cd.nx)
           | .ret=>some (.v (.bool false),Cd.hp.set id (some (.loop { Ow with st:=.done,pend:=some .ret })),Cd.nx)
           | .exit i=>some (.v (.bool false),Cd.hp.set id (some (.loop { Ow with st:=.done,pend:=some (.exit i) })),Cd.nx)
           | _=>none
          | _=>none
         | none=>none
        | _=>none
       | _=>none
      | _=>none
     else none
    | _,_=>none
   | _=>none)=some (d,An,Bm):=h
   split at h0
   rotate_left
   .cases h0
   rename_i lp aK
   split at h0
   rotate_left
   .cases h0
   rename_i sl Ib tH
   split at h0
   rotate_left
   .cases h0
   rename_i hlen
   obtain ⟨hlen,Gy⟩:=hlen
   split at h0
   rotate_left
   .cases h0
   rename_i Ai ku
   split at h0
   rotate_left
   .cases h0
   rename_i Sz KB
   split at h0
   rotate_left
   .cases h0
   rename_i L8
   split at h0
   rotate_left
   .cases h0
   rename_i e Cd kr
   split at h0
   rotate_left
   .cases h0
   rename_i Ow tN
   obtain ⟨g1,k1⟩:=PH ih hm lp.asg _ _ _ ku Cy
   have kg:(ES.mk (Np lp.ps ds sl) hp nx).ds.Fr:=Cy
   have cU:Ai.ds.Fr:=Gw.fr kg g1
   have gs1:=Ce4 (o:=.loop { Sz with st:=.busy }) KB
   obtain ⟨g2,k2⟩:=PH ih hm lp.body _ _ _ kr (Gw.fr cU gs1)
   have hz:(ES.mk (Np lp.ps ds sl) hp nx).ds=⟨aA lp.ps ds lp.sl.get,hp.get,nx⟩:=by
    rw [Rv,tH]
    congr 1
    exact Bk1 lp.ps ds sl
   have Ju:∀ t∈lp.ps,t<lp.nt:=λt ht=>by
    have:=Bd.1 Gy t ht
    simpa [Kq] using this
   have ML:∀ o,Gw (ES.mk (Np lp.ps ds sl) hp nx).ds (ES.mk Cd.sl (Cd.hp.set id (some o)) Cd.nx).ds:=λo=>((g1.trans gs1).trans g2).trans (Ce4 tN)
   have fin:∀ (o:DObj) (b:Bool),(d=.v (.bool b)/\An=Cd.hp.set id (some o)/\Bm=Cd.nx)->
     (∀ (sv:Nat->DV) (K:DS->DV->Prop),K ⟨sv,An.get,Bm⟩ d->(λ(e:Exit) (s2:DS)=>∃ Ow,s2.ho id=some (.loop Ow)/\match e with
      | .normal=>K ⟨sv,Gf s2.ho id (some (.loop { Ow with st:=.ready,pend:=none })),s2.nx⟩ (.v (.bool true))
      | .ret=>K ⟨sv,Gf s2.ho id (some (.loop { Ow with st:=.done,pend:=some .ret })),s2.nx⟩ (.v (.bool false))
      | .exit i=>K ⟨sv,Gf s2.ho id (some (.loop { Ow with st:=.done,pend:=some (.exit i) })),s2.nx⟩ (.v (.bool false))
      | _=>False) e Cd.ds)->
     nx<=Bm/\(∀ id,hp.get id=none->An.get id≠none->nx<=id/\id<Bm)/\∀ (sv:Nat->DV) (K:DS->DV->Prop),K ⟨sv,An.get,Bm⟩ d->PZ P id ds ⟨sv,hp.get,nx⟩ K:=λo b ⟨q1,q2,q3⟩ Oj=>by
    have gw:=ML o
    subst q2 q3
    refine ⟨gw.le,gw.new,λsv K hK=>⟨lp,aK,Ib,hlen,Ju,λS G w0 X M Y R l=>?_⟩⟩
    rw [<- hz]
    refine k1 _ _ rfl rfl (λh=>by cases h) ⟨rfl,Sz,KB,L8,?_⟩
    rw [<- Ce3]
    exact k2 _ _ rfl rfl (λh=>by cases h) (Oj sv K hK)
   split at h0
   .cases h0
    refine fin _ true ⟨rfl,rfl,rfl⟩ λsv K hK=>⟨Ow,tN,?_⟩
    rw [Tr.set_ho] at hK
    exact hK
   .cases h0
    refine fin _ false ⟨rfl,rfl,rfl⟩ λsv K hK=>⟨Ow,tN,?_⟩
    rw [Tr.set_ho] at hK
    exact hK
   .cases h0
    refine fin _ false ⟨rfl,rfl,rfl⟩ λsv K hK=>⟨Ow,tN,?_⟩
    rw [Tr.set_ho] at hK
    exact hK
   .cases h0
theorem Bk2{P:Program}(hm:P.follows .mixedOrders=true){tb:Nat->Option FE}{n' n:Nat}(gS:dQ P n' tb):∀ k,Uw P (iQ tb n k)
 | 0=>λtg ds hp nx d An Bm h=>by cases h
 | k+1=>zg hm gS (Bk2 hm gS k)
abbrev kQ:Type:=Tr (List (List DV×DV))
def K5(l:List (List DV×DV))(ds:List DV):Option DV:=List.rec (motive:=λ_=>Option DV) none (λe _ ih=>Bool.rec (motive:=λ_=>Option DV) ih (some e.2) (Je (Nk 8) e.1 ds)) l
def xN(mm:kQ)(call:Bg):Bg:=λtg ds hp nx=>match tg with
 | .fn f=>Option.rec (motive:=λ_=>Option (DV×Tr DObj×Nat)) (call (.fn f) ds hp nx) (λl=>Option.rec (motive:=λ_=>Option (DV×Tr DObj×Nat)) (call (.fn f) ds hp nx) (λd=>some (d,hp,nx)) (K5 l ds)) (gN mm f)
 | .yl id=>call (.yl id) ds hp nx
def pX(tb:Nat->Option FE)(mm:kQ)(n:Nat):Nat->Bg
 | 0=>λ_ _ _ _=>none
 | k+1=>Wv tb n (xN mm (pX tb mm n k))
def Known(P:Program)(f:Nat)(ds:List DV)(d:DV):Prop:=Uc P f=true/\(∀ x∈ds,x.refs=[])/\DCall P f ds λd'=>d'=d
def MemoOK(P:Program)(mm:kQ):Prop:=∀ f l,mm.get f=some l->∀ e∈l,Known P f e.1 e.2
theorem Bk3{ds:List DV}{d:DV} : ∀ {l:List (List DV×DV)},K5 l ds=some d->(ds,d)∈l
 | [],h=>by cases h
 | e::l,h=>by
  have h':Bool.rec (motive:=λ_=>Option DV) (K5 l ds) (some e.2) (Je (Nk 8) e.1 ds)=some d:=h
  cases hs:Je (Nk 8) e.1 ds with
  | true=>
   rw [hs] at h'
   cases h'
   have:=Z8 (U4 8) hs
   obtain ⟨a,b⟩:=e
   simp only at this
   subst this
   simp
  | false=>
   rw [hs] at h'
   exact Bh _ (Bk3 h')
theorem B80{P:Program}{mm:kQ}(W1:MemoOK P mm){call:Bg}(hc:Uw P call):Uw P (xN mm call):=by
 intro tg ds hp nx d An Bm h Cy
 cases tg with
 | yl id=>exact hc (.yl id) ds hp nx d An Bm h Cy
 | fn f=>
  have h0:Option.rec (motive:=λ_=>Option (DV×Tr DObj×Nat)) (call (.fn f) ds hp nx) (λl=>Option.rec (motive:=λ_=>Option (DV×Tr DObj×Nat)) (call (.fn f) ds hp nx) (λd=>some (d,hp,nx)) (K5 l ds)) (gN mm f)=some (d,An,Bm):=h
  cases hg:gN mm f with
  | none=>rw [hg] at h0;exact hc (.fn f) ds hp nx d An Bm h0 Cy
  | some l=>
   rw [hg] at h0
   cases hl:K5 l ds with
   | none=>
    have h1:Option.rec (motive:=λ_=>Option (DV×Tr DObj×Nat)) (call (.fn f) ds hp nx) (λd=>some (d,hp,nx)) (K5 l ds)=some (d,An,Bm):=h0
    rw [hl] at h1
    exact hc (.fn f) ds hp nx d An Bm h1 Cy
   | some d0=>
    have h1:Option.rec (motive:=λ_=>Option (DV×Tr DObj×Nat)) (call (.fn f) ds hp nx) (λd=>some (d,hp,nx)) (K5 l ds)=some (d,An,Bm):=h0
    rw [hl] at h1
    cases h1
    rw [Kn] at hg
    obtain ⟨k1,k2,k3⟩:=W1 f l hg _ (Bk3 hl)
    exact ⟨Ag _,λid h2 h3=>absurd h2 h3,k1,λsv K hK=>.inr ⟨_,k2,k3,hK⟩⟩
theorem Bk4{P:Program}(hm:P.follows .mixedOrders=true){tb:Nat->Option FE}{n' n:Nat}(gS:dQ P n' tb){mm:kQ}(W1:MemoOK P mm):∀ k,Uw P (pX tb mm n k)
 | 0=>λtg ds hp nx d An Bm h=>by cases h
 | k+1=>zg hm gS (B80 W1 (Bk4 hm gS W1 k))
theorem MemoOK.nil(P:Program):MemoOK P .e:=λf l h=>by cases f <;> cases h
theorem wa:∀ (n:Nat) (d r:DV),rz (λ_=>none) n d=some r->r=d
 | 0,d,r,h=>by
  simp only [rz] at h
  split at h
  .cases h;rfl
  .cases h
 | n+1,d,r,h=>by
  have hl:∀ cs l,qP (rz (λ_=>none) n) cs=some l->l=cs:=λcs l hz=>by
   obtain ⟨h1,h2⟩:=UN hz
   apply Ik
   intro j
   by_cases hj:j<cs.length
   .have e1:=Aa hj
    have e2:=Aa (l:=l) (i:=j) (by omega)
    rcases h2 j _ _ e1 e2 with ⟨_,h3⟩ | h3
    .rw [e1,e2,h3]
    .rw [e1,e2,wa n _ _ h3]
   .rw [Ff (by omega),Ff (by omega)]
  cases d with
  | agg cs=>obtain ⟨l,hz,rfl⟩:=Ac.1 h;rw [hl cs l hz]
  | tup cs=>obtain ⟨l,hz,rfl⟩:=Ac.1 h;rw [hl cs l hz]
  | fn f cs=>obtain ⟨l,hz,rfl⟩:=Ac.1 h;rw [hl cs l hz]
  | ifc T d=>obtain ⟨e,hz,rfl⟩:=Ac.1 h;rw [wa n _ _ hz]
  | ms id off k es=>simp [rz] at h
  | pt id off=>simp [rz] at h
  | mp id=>simp [rz] at h
  | yl id=>simp [rz] at h
  | any=>simp [rz] at h;exact h.symm
  | v x=>simp [rz] at h;exact h.symm
  | sl cs k=>simp [rz] at h;exact h.symm
  | ia cs=>simp [rz] at h;exact h.symm
theorem DCall.of_callC{P:Program}{f:FuncId}{args:List DV}{R:DV->Prop}{sv:Nat->DV}(h:callC P f args ⟨sv,λ_=>none,0⟩ λs d=>∃ r,rz s.ho 6 d=some r/\R r):DCall P f args R:=by
 rcases h with h | ⟨d,h1,h2,r,h3,h4⟩
 .exact DCall.of_callI h
 .have hd:r=d:=wa 6 _ _ h3
  subst hd
  exact h2.mono λd hd=>by rw [hd];exact h4
def MQ(ds:List DV):Bool:=ds.all λd=>(Uz d).isEmpty
def EC(x:Option (DV×Tr DObj×Nat))(d:DV):Bool:=match x with
 | some (d',hp,_)=>match rz hp.get 6 d' with
  | some r=>Nk 12 r d
  | none=>false
 | none=>false
theorem Ba4{P:Program}(hm:P.follows .mixedOrders=true){tb:Nat->Option FE}{n' n k f:Nat}(gS:dQ P n' tb){mm:kQ}(W1:MemoOK P mm){ds:List DV}{d:DV}(hf:MQ ds=true)(h:EC (pX tb mm n k (.fn f) ds .e 0) d=true):Known P f ds d:=by
 unfold EC at h
 split at h
 rotate_left
 .cases h
 rename_i d' hp nx hr
 split at h
 rotate_left
 .cases h
 rename_i r JB
 have hd:=U4 _ _ _ h
 subst hd
 obtain ⟨_,_,Uq,hI⟩:=Bk4 hm gS W1 k _ _ _ _ _ _ _ hr (λid _=>by cases id <;> rfl)
 refine ⟨Uq,λx hx=>?_,DCall.of_callC (sv:=λ_=>.any) ?_⟩
 .have:=Bd.1 hf x hx
  rw [AA] at this
  simpa using this
 .have:=hI (λ_=>.any) (λs d=>∃ r',rz s.ho 6 d=some r'/\r'=r) ⟨r,JB,rfl⟩
  have e:(Tr.e:Tr DObj).get=λ_=>none:=by funext id;cases id <;> rfl
  rw [e] at this
  exact this
theorem Bk5{P:Program}(hm:P.follows .mixedOrders=true){tb:Nat->Option FE}{n' n k f:Nat}(gS:dQ P n' tb)(h:J2 (iQ tb n k (.fn f) [] .e 0)=true):Uc P f=true/\DCall P f [] λd=>d=.v (.bool true):=by
 unfold J2 at h
 split at h
 rotate_left
 .cases h
 rename_i b hp nx hr
 subst h
 obtain ⟨_,_,Uq,hI⟩:=Bk2 hm gS k _ _ _ _ _ _ _ hr (λid _=>by cases id <;> rfl)
 refine ⟨Uq,DCall.of_callC (sv:=λ_=>.any) ?_⟩
 have:=hI (λ_=>.any) (λs d=>∃ r,rz s.ho 6 d=some r/\r=.v (.bool true)) ⟨.v (.bool true),rfl,rfl⟩
 have e:(Tr.e:Tr DObj).get=λ_=>none:=by funext id;cases id <;> rfl
 rw [e] at this
 exact this
end Go.DD

/- The evaluator, read with symbols: what a piece of code leads to. -/
namespace Go.DD
def EW(c:CE)(call:Bg)(es:ES)(Q:Exit->ES->Prop):Prop:=∃ e es',c call es=some (e,es')/\Q e es'
def SW(s:Nw)(call:Bg)(es:ES)(Q:ES->Prop):Prop:=∃ es',s call es=some es'/\Q es'
def XW(x:Option DV)(Q:DV->Prop):Prop:=∃ d,x=some d/\Q d
def Nc(next:ES->Prop)(Q:Exit->ES->Prop):Exit->ES->Prop
 | .normal,es=>next es
 | e,es=>Q e es
def Ms(id:Nat)(Q:Exit->ES->Prop):Exit->ES->Prop
 | .exit i,es=>if i=id then Q .normal es else Q (.exit i) es
 | e,es=>Q e es
theorem EW.mono{c:CE}{call:Bg}{es:ES}{Q Q':Exit->ES->Prop}(h:EW c call es Q)(hq:∀ e es,Q e es->Q' e es):EW c call es Q':=by
 obtain ⟨e,es',h1,h2⟩:=h
 exact ⟨e,es',h1,hq _ _ h2⟩
theorem EW.s{a b:CE}{call:Bg}{es:ES}{Q:Exit->ES->Prop}(h:EW a call es (Nc (λAi=>EW b call Ai Q) Q)):EW (cS a b) call es Q:=by
 obtain ⟨e,Ai,h1,h2⟩:=h
 cases e with
 | normal=>
  obtain ⟨e2,Cd,h3,h4⟩:=h2
  refine ⟨e2,Cd,?_,h4⟩
  unfold cS;rw [h1];exact h3
 | _=>exact ⟨_,Ai,by unfold cS;rw [h1],h2⟩
theorem EW.n{s:Nw}{call:Bg}{es:ES}{Q:Exit->ES->Prop}(h:SW s call es (Q .normal)):EW (cN s) call es Q:=by
 obtain ⟨Ai,h1,h2⟩:=h
 exact ⟨_,Ai,by unfold cN;rw [h1],h2⟩
theorem EW.e{e:Exit}{call:Bg}{es:ES}{Q:Exit->ES->Prop}(h:Q e es):EW (cE e) call es Q:=⟨e,es,rfl,h⟩
theorem EW.c{x:EO}{a b:CE}{call:Bg}{es:ES}{Q:Exit->ES->Prop}(t:Bool)(ht:Ad es x=.v (.bool t))(h1:t=true->EW a call es Q)(h2:t=false->EW b call es Q):EW (cC x a b) call es Q:=by
 have e:cC x a b call es=Bool.rec (motive:=λ_=>Option (Exit×ES)) (b call es) (a call es) t:=by unfold cC;rw [ht];rfl
 cases t with
 | true=>obtain ⟨e1,Ai,h3,h4⟩:=h1 rfl;exact ⟨e1,Ai,e.trans h3,h4⟩
 | false=>obtain ⟨e1,Ai,h3,h4⟩:=h2 rfl;exact ⟨e1,Ai,e.trans h3,h4⟩
theorem EW.b{id:Nat}{c:CE}{call:Bg}{es:ES}{Q:Exit->ES->Prop}(h:EW c call es (Ms id Q)):EW (cB id c) call es Q:=by
 obtain ⟨e,Ai,h1,h2⟩:=h
 cases e with
 | exit i=>
  have e1:cB id c call es=Fv (Nat.beq i id) (some (.normal,Ai)) (some (.exit i,Ai)):=by unfold cB;rw [h1]
  rw [Sq] at e1
  simp only [Ms] at h2
  by_cases hi:i=id
  .subst hi
   rw [Af (Nat.beq_refl i)] at e1
   rw [Af rfl] at h2
   exact ⟨_,_,e1,h2⟩
  .rw [Ae (λh=>hi (Fc h))] at e1
   rw [Ae hi] at h2
   exact ⟨_,_,e1,h2⟩
 | _=>exact ⟨_,Ai,by unfold cB;rw [h1],h2⟩
theorem EW.l{c:CE}{call:Bg}{Q:Exit->ES->Prop}(I:Nat->ES->Prop)(step:∀ n es,I n es->EW c call es (Nc (λAi=>∃ m,m<n/\I m Ai) Q)):∀ (n k:Nat) (es:ES),I n es->n<k->EW (cL k c) call es Q:=by
 intro n
 induction n using Nat.strongRecOn with
 | _ n ih=>
  intro k es h hk
  cases k with
  | zero=>omega
  | succ k=>
   show EW (cS c (cL k c)) call es Q
   refine EW.s ((step n es h).mono ?_)
   intro e Ai h1
   cases e with
   | normal=>
    obtain ⟨m,hm,hI⟩:=h1
    exact ih m hm k Ai hI (by omega)
   | _=>exact h1
theorem SW.q{s k:Nw}{call:Bg}{es:ES}{Q:ES->Prop}(h:SW s call es λAi=>SW k call Ai Q):SW (sq s k) call es Q:=by
 obtain ⟨Ai,h1,Cd,h2,h3⟩:=h
 exact ⟨Cd,by unfold sq;rw [h1];exact h2,h3⟩
theorem SW.z{call:Bg}{es:ES}{Q:ES->Prop}(h:Q es):SW sF call es Q:=⟨es,rfl,h⟩
theorem SW.m{dst:Option Pa}{x:EO}{call:Bg}{es:ES}{Q:ES->Prop}(h:Q (es.putE dst (Ad es x))):SW (sM dst x) call es Q:=⟨_,rfl,h⟩
theorem SW.x{dst:Option Pa}{x:XP}{call:Bg}{es:ES}{Q:ES->Prop}(d:DV)(hx:x es=some d)(h:Q (es.putE dst d)):SW (sX dst x) call es Q:=⟨_,by unfold sX;rw [hx],h⟩
theorem SW.call{f:Nat}{args:List EO}{dst:Option Pa}{call:Bg}{es:ES}{Q:ES->Prop}(d:DV)(hp:Tr DObj)(nx:Nat)(hc:call (.fn f) (args.map (Ad es)) es.hp es.nx=some (d,hp,nx))(h:Q ((ES.mk es.sl hp nx).putE dst d)):SW (Bj f args dst) call es Q:=by
 refine ⟨_,?_,h⟩
 unfold Bj gH Zk
 rw [qL,hc];rfl
theorem kG{α:Type}(p:Pa):gP p (.e:Tr α)=none:=by cases p <;> rfl
theorem OV{α:Type} : ∀ (p:Pa) (v:Option α) (t:Tr α),gP p (sP p v t)=v
 | .o,v,t=>by cases t <;> rfl
 | .l p,v,.e=>OV p v .e
 | .l p,v,.n l _ _=>OV p v l
 | .r p,v,.e=>OV p v .e
 | .r p,v,.n _ _ r=>OV p v r
theorem PG{α:Type} : ∀ {p q:Pa} (v:Option α) (t:Tr α),q≠p->gP p (sP q v t)=gP p t
 | .o,.o,v,t,h=>absurd rfl h
 | .o,.l q,v,t,_=>by cases t <;> rfl
 | .o,.r q,v,t,_=>by cases t <;> rfl
 | .l p,.o,v,t,_=>by cases t <;> first | rfl | exact kG p
 | .l p,.r q,v,t,_=>by cases t <;> first | rfl | exact kG p
 | .r p,.o,v,t,_=>by cases t <;> first | rfl | exact kG p
 | .r p,.l q,v,t,_=>by cases t <;> first | rfl | exact kG p
 | .l p,.l q,v,.e,h=>show gP p (sP q v .e)=none from (PG (p:=p) (q:=q) v .e λe=>h (by rw [e])).trans (kG p)
 | .l p,.l q,v,.n l _ _,h=>PG v l λe=>h (by rw [e])
 | .r p,.r q,v,.e,h=>show gP p (sP q v .e)=none from (PG (p:=p) (q:=q) v .e λe=>h (by rw [e])).trans (kG p)
 | .r p,.r q,v,.n _ _ r,h=>PG v r λe=>h (by rw [e])
theorem Cp3(sl:Tr DV)(hp:Tr DObj)(nx:Nat)(p:Pa)(d:DV):Ad (ES.putE ⟨sl,hp,nx⟩ (some p) d) (.t p)=d:=by
 show Option.rec (motive:=λ_=>DV) _ _ (gP p (sP p (some d) sl))=d
 rw [OV]
theorem zf(es:ES){p q:Pa}(d:DV)(h:q≠p):Ad (ES.putE es (some q) d) (.t p)=Ad es (.t p):=by
 obtain ⟨sl,hp,nx⟩:=es
 show Option.rec (motive:=λ_=>DV) _ _ (gP p (sP q (some d) sl))=Option.rec (motive:=λ_=>DV) _ _ (gP p sl)
 rw [PG _ _ h]
theorem uk(es:ES)(p:Pa)(d:DV):Ad (ES.putE es (some p) d) (.t p)=d:=by
 obtain ⟨sl,hp,nx⟩:=es
 exact Cp3 sl hp nx p d
theorem uj(es:ES)(p:Option Pa)(d:DV):(ES.putE es p d).hp=es.hp:=by cases p <;> rfl
theorem nx_put(es:ES)(p:Option Pa)(d:DV):(ES.putE es p d).nx=es.nx:=by cases p <;> rfl
theorem ui(es:ES)(hp:Tr DObj)(nx:Nat)(p:Option Pa)(d:DV):ES.putE (ES.mk es.sl hp nx) p d=ES.mk (ES.putE es p d).sl hp nx:=by cases p <;> rfl
theorem Ce5(b:Bool):Yg (some (.bool b))=some (.v (.bool b)):=by cases b <;> rfl
theorem C02(k:IntKind)(n:Int):Yg (some (.int k n))=some (.v (.int k n)):=by
 show uz n (λn=>some (DV.v (.int k n)))=_
 rw [A94]
def CW(d:DV)(A B:Prop):Prop:=∃ t,d=.v (.bool t)/\(t=true->A)/\(t=false->B)
def KW(call:Bg)(tg:Tg)(ds:List DV)(hp:Tr DObj)(nx:Nat)(K:DV->Tr DObj->Nat->Prop):Prop:=∃ d An Bm,call tg ds hp nx=some (d,An,Bm)/\K d An Bm
theorem ew_s{a b:CE}{call:Bg}{es:ES}{Q:Exit->ES->Prop} : EW (cS a b) call es Q↔EW a call es (Nc (λAi=>EW b call Ai Q) Q):=by
 refine ⟨λ⟨e,es',h1,h2⟩=>?_,EW.s⟩
 rcases VO h1 with ⟨Ai,h3,h4⟩ | ⟨h3,Gt⟩
 .exact ⟨.normal,Ai,h3,e,es',h4,h2⟩
 .refine ⟨e,es',h3,?_⟩
  cases e <;> first | exact h2 | exact absurd rfl Gt
theorem R5{s:Nw}{call:Bg}{es:ES}{Q:Exit->ES->Prop} : EW (cN s) call es Q↔SW s call es (Q .normal):=by
 refine ⟨λ⟨e,es',h1,h2⟩=>?_,EW.n⟩
 obtain ⟨h3,rfl⟩:=VN h1
 exact ⟨es',h3,h2⟩
theorem MY{e:Exit}{call:Bg}{es:ES}{Q:Exit->ES->Prop} : EW (cE e) call es Q↔Q e es:=by
 refine ⟨λ⟨e',es',h1,h2⟩=>?_,EW.e⟩
 have h3:some (e,es)=some (e',es'):=h1
 cases h3;exact h2
theorem oo{x:EO}{a b:CE}{call:Bg}{es:ES}{Q:Exit->ES->Prop}(h:CW (Ad es x) (EW a call es Q) (EW b call es Q)):EW (cC x a b) call es Q:=by
 obtain ⟨t,h1,h2,h3⟩:=h
 exact EW.c t h1 h2 h3
theorem A8{x:EO}{a b:CE}{call:Bg}{es:ES}{Q:Exit->ES->Prop} : EW (cC x a b) call es Q↔CW (Ad es x) (EW a call es Q) (EW b call es Q):=by
 refine ⟨λ⟨e,es',h1,h2⟩=>?_,oo⟩
 unfold cC at h1
 obtain ⟨v,hv,h1⟩:=uQ h1
 cases v with
 | bool t=>
  refine ⟨t,hv,λht=>?_,λht=>?_⟩
  .subst ht;exact ⟨e,es',h1,h2⟩
  .subst ht;exact ⟨e,es',h1,h2⟩
 | _=>cases h1
theorem NA{id:Nat}{c:CE}{call:Bg}{es:ES}{Q:Exit->ES->Prop} : EW (cB id c) call es Q↔EW c call es (Ms id Q):=by
 refine ⟨λ⟨e,es',h1,h2⟩=>?_,EW.b⟩
 obtain ⟨⟨e1,Ai⟩,h3,h4⟩:=Jo h1
 refine ⟨e1,Ai,h3,?_⟩
 cases e1 with
 | exit i=>
  have h5:Fv (Nat.beq i id) (some (Exit.normal,Ai)) (some (Exit.exit i,Ai))=some (e,es'):=h4
  rw [Sq] at h5
  simp only [Ms]
  split at h5
  .rename_i hb
   cases h5
   rw [Af (Fc hb)];exact h2
  .rename_i hb
   cases h5
   rw [Ae (λe=>hb (by rw [e];exact Nat.beq_refl id))];exact h2
 | _=>cases h4;exact h2
theorem H3{s k:Nw}{call:Bg}{es:ES}{Q:ES->Prop} : SW (sq s k) call es Q↔SW s call es λAi=>SW k call Ai Q:=by
 refine ⟨λ⟨es',h1,h2⟩=>?_,SW.q⟩
 obtain ⟨Ai,h3,h4⟩:=Jo h1
 exact ⟨Ai,h3,es',h4,h2⟩
theorem H2{call:Bg}{es:ES}{Q:ES->Prop} : SW sF call es Q↔Q es:=by
 refine ⟨λ⟨es',h1,h2⟩=>?_,SW.z⟩
 have h3:some es=some es':=h1
 cases h3;exact h2
theorem vX{s:Nw}{l:List Nw}{call:Bg}{es:ES}{Q:ES->Prop} : SW (sL (s::l)) call es Q↔SW s call es λAi=>SW (sL l) call Ai Q:=H3
theorem vW{call:Bg}{es:ES}{Q:ES->Prop} : SW (sL []) call es Q↔Q es:=H2
theorem MX{l:List Nw}{c:CE}{call:Bg}{es:ES}{Q:Exit->ES->Prop} : EW (cT l c) call es Q↔SW (sL l) call es λAi=>EW c call Ai Q:=ew_s.trans R5
theorem sw_m{dst:Option Pa}{x:EO}{call:Bg}{es:ES}{Q:ES->Prop} : SW (sM dst x) call es Q↔Q (es.putE dst (Ad es x)):=by
 refine ⟨λ⟨es',h1,h2⟩=>?_,SW.m⟩
 have h3:some (es.putE dst (Ad es x))=some es':=h1
 cases h3;exact h2
theorem eS{dst:Option Pa}{x:XP}{call:Bg}{es:ES}{Q:ES->Prop} : SW (sX dst x) call es Q↔XW (x es) λd=>Q (es.putE dst d):=by
 refine ⟨λ⟨es',h1,h2⟩=>?_,λ⟨d,h1,h2⟩=>SW.x d h1 h2⟩
 obtain ⟨d,h3,h4⟩:=Jo h1
 have h5:some (es.putE dst d)=some es':=h4
 cases h5
 exact ⟨d,h3,h2⟩
theorem xw_some{d:DV}{Q:DV->Prop} : XW (some d) Q↔Q d:=⟨λ⟨d',h1,h2⟩=>(by cases h1;exact h2),λh=>⟨d,rfl,h⟩⟩
theorem sw_call{f:Nat}{args:List EO}{dst:Option Pa}{call:Bg}{es:ES}{Q:ES->Prop} : SW (Bj f args dst) call es Q↔KW call (.fn f) (args.map (Ad es)) es.hp es.nx λd hp nx=>Q ((ES.mk es.sl hp nx).putE dst d):=by
 have e:Bj f args dst call es=gH (.fn f) (args.map (Ad es)) dst call es:=by unfold Bj Zk;rw [qL]
 constructor
 .rintro ⟨es',h1,h2⟩
  rw [e] at h1
  obtain ⟨⟨d,hp,nx⟩,h3,h4⟩:=Jo h1
  have h5:some ((ES.mk es.sl hp nx).putE dst d)=some es':=h4
  cases h5
  exact ⟨d,hp,nx,h3,h2⟩
 .rintro ⟨d,hp,nx,h1,h2⟩
  exact SW.call d hp nx h1 h2
theorem R9{t:Bool}{A B:Prop} : CW (.v (.bool t)) A B↔(t=true->A)/\(t=false->B):=⟨λ⟨_,h1,h2⟩=>(by cases h1;exact h2),λh=>⟨t,rfl,h⟩⟩
def Dm(op:BinOp)(a b:DV):Option DV:=(Nv op a b).map .v
theorem vL(op:BinOp)(x y:EO)(es:ES):Ar op x y es=Dm op (Ad es x) (Ad es y):=by
 cases hx:Ad es x with
 | v a=>
  cases hy:Ad es y with
  | v b=>
   cases a with
   | int k m=>
    cases b with
    | int k' n=>
     have e:Ar op x y es=Yg (Fv (Qm op) (qO op k m n) (Fv (Nat.beq k.ctorIdx k'.ctorIdx) (Qp op k m n) none)):=by unfold Ar;rw [hx,hy];rfl
     rw [e,Sq,Sq]
     have hk:(Nat.beq k.ctorIdx k'.ctorIdx=true)↔k=k':=by cases k <;> cases k' <;> simp [IntKind.ctorIdx]
     have Lj:∀ v:Option Value,(∀ w,v=some w->(∃ t,w=.bool t)\/∃ k n,w=.int k n)->Yg v=v.map DV.v:=by
      intro v hv
      cases v with
      | none=>rfl
      | some w=>
       rcases hv w rfl with ⟨t,rfl⟩ | ⟨k,n,rfl⟩
       .exact Ce5 t
       .exact C02 k n
     have M1:∀ w,qO op k m n=some w->(∃ t,w=.bool t)\/∃ k n,w=.int k n:=by
      intro w hw
      unfold qO at hw
      split at hw
      .cases hw
      .split at hw <;> first | (cases hw;exact .inr ⟨_,_,rfl⟩) | cases hw
     have hbi:∀ w,Qp op k m n=some w->(∃ t,w=.bool t)\/∃ k n,w=.int k n:=by
      intro w hw
      unfold Qp at hw
      split at hw <;> first | (cases hw;exact .inr ⟨_,_,rfl⟩) | (cases hw;exact .inl ⟨_,rfl⟩) | (split at hw <;> first | (cases hw;exact .inr ⟨_,_,rfl⟩) | cases hw) | cases hw
     simp only [Dm,Nv]
     split
     .exact Lj _ M1
     .by_cases h:k=k'
      .rw [Af (hk.2 h),Af h];exact Lj _ hbi
      .rw [Ae (λh'=>h (hk.1 h')),Ae h];rfl
    | _=>unfold Ar;rw [hx,hy];rfl
   | string m=>
    cases b with
    | string n=>
     have e:Ar op x y es=Yg (dK op m n):=by unfold Ar;rw [hx,hy];rfl
     rw [e]
     simp only [Dm,Nv]
     have P9:∀ w,dK op m n=some w->(∃ t,w=.bool t)\/∃ s,w=.string s:=by
      intro w hw
      unfold dK at hw
      split at hw <;> first | (cases hw;exact .inl ⟨_,rfl⟩) | (split at hw <;> first | (cases hw;exact .inr ⟨_,rfl⟩) | cases hw) | cases hw
     cases hv:dK op m n with
     | none=>rfl
     | some w=>
      rcases P9 w hv with ⟨t,rfl⟩ | ⟨s,rfl⟩
      .exact Ce5 t
      .rfl
    | _=>unfold Ar;rw [hx,hy];rfl
   | _=>unfold Ar;rw [hx,hy];rfl
  | _=>unfold Ar;rw [hx,hy];cases a <;> rfl
 | _=>unfold Ar;rw [hx];rfl
theorem Ej{n:Int}(h : -9223372036854775808<=n/\n<=9223372036854775807):IntKind.i64.wrap n=n:=IntWalk.i64_in n h
theorem C8(k:IntKind)(a b:Int):Dm .lss (.v (.int k a)) (.v (.int k b))=some (.v (.bool (decide (a<b)))):=by simp [Dm,Nv,Qm,Qp]
theorem D0(k:IntKind)(a b:Int):Dm .gtr (.v (.int k a)) (.v (.int k b))=some (.v (.bool (decide (a>b)))):=by simp [Dm,Nv,Qm,Qp]
theorem C9(k:IntKind)(a b:Int):Dm .leq (.v (.int k a)) (.v (.int k b))=some (.v (.bool (decide (a<=b)))):=by simp [Dm,Nv,Qm,Qp]
theorem D1(k:IntKind)(a b:Int):Dm .geq (.v (.int k a)) (.v (.int k b))=some (.v (.bool (decide (a≥b)))):=by simp [Dm,Nv,Qm,Qp]
theorem NT(k:IntKind)(a b:Int):Dm .eql (.v (.int k a)) (.v (.int k b))=some (.v (.bool (a==b))):=by simp [Dm,Nv,Qm,Qp]
theorem NS(k:IntKind)(a b:Int):Dm .neq (.v (.int k a)) (.v (.int k b))=some (.v (.bool (a != b))):=by simp [Dm,Nv,Qm,Qp]
theorem D3(k:IntKind)(a b:Int):Dm .add (.v (.int k a)) (.v (.int k b))=some (.v (.int k (k.wrap (a+b)))):=by simp [Dm,Nv,Qm,Qp]
theorem Lo(k:IntKind)(a b:Int):Dm .sub (.v (.int k a)) (.v (.int k b))=some (.v (.int k (k.wrap (a-b)))):=by simp [Dm,Nv,Qm,Qp]
theorem qC(k:IntKind)(a b:Int):Dm .mul (.v (.int k a)) (.v (.int k b))=some (.v (.int k (k.wrap (a*b)))):=by simp [Dm,Nv,Qm,Qp]
end Go.DD

/- Contracts in the evaluator's terms. -/
namespace Go.DD
structure Al (hp:Tr DObj) (nx:Nat) (An:Tr DObj) (Bm:Nat):Prop where
 le:nx<=Bm
 same:∀ id,id<nx->An.get id=hp.get id
theorem Al.refl(hp:Tr DObj)(nx:Nat):Al hp nx hp nx:=⟨Ag _,λ_ _=>rfl⟩
theorem Al.trans{h1 h2 h3:Tr DObj}{n1 n2 n3:Nat}(a:Al h1 n1 h2 n2)(b:Al h2 n2 h3 n3):Al h1 n1 h3 n3:=
 ⟨Dz a.le b.le,λid h=>by rw [b.same id (by have:=a.le;omega),a.same id h]⟩
def qF(es:ES)(args:List DV):Prop:=∀ i d,args[i]?=some d->Ad es (.t (Cq i))=d
theorem Bw2(args:List DV)(hp:Tr DObj)(nx:Nat):qF ⟨Uu args,hp,nx⟩ args:=λi d h=>by
 have e:Ad ⟨Uu args,hp,nx⟩ (.t (Cq i))=Xt args i:=by
  rw [uv]
  exact zh args i
 rw [e]
 simp [Xt,h]
end Go.DD

/- The evaluator, read with symbols: regions that draw their order. -/
namespace Go.DD
def TW(s:Jw)(call:Bg)(n0 m:Nat)(δ:DSt)(Q:DSt->Prop):Prop:=∃ δ',s call n0 m δ=some δ'/\Q δ'
theorem Ce6{m:Nat}{s:Jw}{call:Bg}{es:ES}{Q:ES->Prop} : SW (Gk m s) call es Q↔TW s call es.nx m ⟨⟨es.sl,es.hp,es.nx+m⟩,[],[],[]⟩ λd=>Pl es.nx m d.ws d.ps=true/\Q d.es:=by
 have e:Gk m s call es=Option.rec (motive:=λ_=>Option ES) none (λd=>Fv (Pl es.nx m d.ws d.ps) (some d.es) none) (s call es.nx m ⟨⟨es.sl,es.hp,es.nx+m⟩,[],[],[]⟩):=by
  unfold Gk;rw [dH,bM]
 constructor
 .rintro ⟨es',h1,h2⟩
  rw [e] at h1
  obtain ⟨d,h3,h4⟩:=Jo h1
  obtain ⟨h5,h6⟩:=dZ h4
  cases h6
  exact ⟨d,h3,h5,h2⟩
 .rintro ⟨d,h1,h2,h3⟩
  exact ⟨d.es,by rw [e,h1];show Fv _ _ _=_;rw [h2];rfl,h3⟩
theorem G7{s k:Jw}{call:Bg}{n0 m:Nat}{δ:DSt}{Q:DSt->Prop} : TW (dq s k) call n0 m δ Q↔TW s call n0 m δ λδ'=>TW k call n0 m δ' Q:=by
 constructor
 .rintro ⟨δ',h1,h2⟩
  obtain ⟨δ1,h3,h4⟩:=Jo h1
  exact ⟨δ1,h3,δ',h4,h2⟩
 .rintro ⟨δ1,h1,δ',h2,h3⟩
  exact ⟨δ',by unfold dq;rw [h1];exact h2,h3⟩
theorem G6{call:Bg}{n0 m:Nat}{δ:DSt}{Q:DSt->Prop} : TW R8 call n0 m δ Q↔Q δ:=by
 constructor
 .rintro ⟨δ',h1,h2⟩
  have h3:some δ=some δ':=h1
  cases h3;exact h2
 .exact λh=>⟨δ,rfl,h⟩
theorem vP{s:Jw}{l:List Jw}{call:Bg}{n0 m:Nat}{δ:DSt}{Q:DSt->Prop} : TW (dL (s::l)) call n0 m δ Q↔TW s call n0 m δ λδ'=>TW (dL l) call n0 m δ' Q:=G7
theorem vO{call:Bg}{n0 m:Nat}{δ:DSt}{Q:DSt->Prop} : TW (dL []) call n0 m δ Q↔Q δ:=G6
theorem Ce7{an:List Nat}{ps:List Pa}{s:Jw}{call:Bg}{n0 m:Nat}{δ:DSt}{Q:DSt->Prop} : TW (Bx an ps s) call n0 m δ Q↔Tp (refsL δ.es ps) (λid=>Cp n0 m an δ.es.hp id)=true/\TW s call n0 m δ Q:=by
 constructor
 .rintro ⟨δ',h1,h2⟩
  obtain ⟨h3,h4⟩:=dZ (show Fv _ _ _=_ from h1)
  exact ⟨h3,δ',h4,h2⟩
 .rintro ⟨h1,δ',h2,h3⟩
  exact ⟨δ',by unfold Bx;rw [h1];exact h2,h3⟩
theorem vR{an:List Nat}{ps:List Pa}{i:Nat}{dst:Option Pa}{x:XP}{call:Bg}{n0 m:Nat}{δ:DSt}{Q:DSt->Prop} : TW (dX an ps i dst x) call n0 m δ Q↔TW (Bx an ps (Ch i an false false dst (λ_=>x) ps)) call n0 m δ Q:=Dg
theorem vQ{an:List Nat}{ps:List Pa}{i:Nat}{dst:Option Pa}{x:XP}{call:Bg}{n0 m:Nat}{δ:DSt}{Q:DSt->Prop} : TW (dY an ps i dst x) call n0 m δ Q↔TW (Bx an ps (Ch i an false true dst (λ_=>x) ps)) call n0 m δ Q:=Dg
theorem vS{an:List Nat}{i:Nat}{dst:Option Pa}{p:Pa}{call:Bg}{n0 m:Nat}{δ:DSt}{Q:DSt->Prop} : TW (dP an i dst p) call n0 m δ Q↔TW (Bx an [p] (Ch i an false false dst (λ_ es=>some (Ad es (.t p))) [p])) call n0 m δ Q:=Dg
theorem Bw3{i:Nat}{an:List Nat}{wide c:Bool}{dst:Option Pa}{x:Nat->XP}{ps:List Pa}{call:Bg}{n0 m:Nat}{es:ES}{lo:List Nat}{ws:List Look}{pp:List Past}{Q:DSt->Prop} :
  TW (Ch i an wide c dst x ps) call n0 m ⟨es,lo,ws,pp⟩ Q↔XW (x (n0+i) es) λv=>Q ⟨es.putE dst v,lo,Gg i an wide c (refsL es ps) n0 lo ws,pp⟩:=by
 constructor
 .rintro ⟨δ',h1,h2⟩
  obtain ⟨v,h3,h4⟩:=Jo h1
  have h5:some (⟨es.putE dst v,lo,Gg i an wide c (refsL es ps) n0 lo ws,pp⟩:DSt)=some δ':=h4
  cases h5
  exact ⟨v,h3,h2⟩
 .rintro ⟨v,h1,h2⟩
  have e:Ch i an wide c dst x ps call n0 m ⟨es,lo,ws,pp⟩=Option.rec (motive:=λ_=>Option DSt) none (λv=>some ⟨es.putE dst v,lo,Gg i an wide c (refsL es ps) n0 lo ws,pp⟩) (x (n0+i) es):=rfl
  exact ⟨_,by rw [e,h1],h2⟩
theorem Ce8(i:Nat)(c:Bool)(an refs lo:List Nat)(n0:Nat)(ws:List Look):Gg i an false c refs n0 lo ws=ws:=rfl
theorem OU(n0 m:Nat)(ps:List Past):Pl n0 m [] ps=true:=rfl
theorem Bk6(es:ES):refsL es []=[]:=rfl
theorem dW{hp:Tr DObj}{d:DV}(h:d.refs=[]):Cg hp d=d:=by
 unfold Cg;rw [AA,h];rfl
theorem kT(es:ES)(t:Nat):es.ds.ev (.tmp t)=Cg es.hp (Ad es (.t (Cq t))):=(lY es (.tmp t)).symm
theorem Ce9(cs:List DV)(n:Nat):(DV.sl cs n).refs=[]:=rfl
theorem Cf0(v:Value):(DV.v v).refs=[]:=rfl
theorem Cf1(cs:List DV):(DV.ia cs).refs=[]:=rfl
def uD(neg:Bool)(ks:List Nat):DV->DV->Option DV
 | .agg xs,.agg ys=>(Ri ks xs ys).map λb=>.v (.bool (xor neg b))
 | _,_=>none
end Go.DD

/- Lists of records, as their cells lie. -/
namespace Go.DD
end Go.DD

/- The evaluator, read with symbols: guards, choices, parts of tuples; contracts without a heap. -/
namespace Go.DD
def GW(d:DV)(b:Bool)(A B:Prop):Prop:=(∃ c,d=.v (.bool c)/\(c=b->A)/\(c≠b->B))\/(∃ vs,d=.v (.tuple vs)/\B)
theorem YN{p:Pa}{b:Bool}{dst:Option Pa}{s:Nw}{call:Bg}{es:ES}{Q:ES->Prop} : GW (Ad es (.t p)) b (SW s call es Q) (Q (es.putE dst (.v undef)))->SW (sG p b dst s) call es Q:=by
 rintro (⟨c,h1,h2,h3⟩ | ⟨vs,h1,h2⟩)
 .have hw:Kk es p b=some (c==b):=by unfold Kk;rw [h1];rfl
  unfold SW sG
  rw [hw]
  by_cases hc:c=b
  .obtain ⟨es',h4,h5⟩:=h2 hc
   refine ⟨es',?_,h5⟩
   subst hc
   simp only [Ox]
   exact h4
  .refine ⟨_,?_,h3 hc⟩
   have:(c==b)=false:=by simpa using hc
   rw [this]
 .have hw:Kk es p b=some false:=by unfold Kk;rw [h1];rfl
  exact ⟨_,by unfold sG;rw [hw],h2⟩
theorem mJ{p:Pa}{b:Bool}{dst:Option Pa}{s:Nw}{call:Bg}{es:ES}{Q:ES->Prop} : SW (sG p b dst s) call es Q↔GW (Ad es (.t p)) b (SW s call es Q) (Q (es.putE dst (.v undef))):=by
 refine ⟨?_,YN⟩
 rintro ⟨es',h1,h2⟩
 unfold sG at h1
 obtain ⟨c,h3,h4⟩:=Jo h1
 unfold Kk at h3
 obtain ⟨v,hv,h3⟩:=uQ h3
 cases v with
 | bool t=>
  refine .inl ⟨t,hv,λe=>?_,λe=>?_⟩
  .have h5:some (t==b)=some c:=h3
   cases h5
   subst e
   simp only [Ox] at h4
   exact ⟨es',h4,h2⟩
  .have h5:some (t==b)=some c:=h3
   cases h5
   have:(t==b)=false:=by simpa using e
   rw [this] at h4
   cases h4
   exact h2
 | tuple vs=>
  refine .inr ⟨vs,hv,?_⟩
  have h5:some false=some c:=h3
  cases h5
  cases h4
  exact h2
 | _=>cases h3
theorem uB{c b:Bool}{A B:Prop} : GW (.v (.bool c)) b A B↔(c=b->A)/\(c≠b->B):=by
 constructor
 .rintro (⟨c',h1,h2⟩ | ⟨vs,h1,_⟩)
  .cases h1;exact h2
  .cases h1
 .exact λh=>.inl ⟨c,rfl,h⟩
theorem MI{b:Bool}{A B:Prop} : GW (.v undef) b A B↔B:=by
 constructor
 .rintro (⟨c',h1,h2⟩ | ⟨vs,_,h⟩)
  .cases h1
  .exact h
 .exact λh=>.inr ⟨_,rfl,h⟩
def Yx(c x y:DV):Option DV:=match c with
 | .v (.bool t)=>some (if t then x else y)
 | _=>none
theorem Cf2(c x y:EO)(es:ES):Co c x y es=Yx (Ad es c) (Ad es x) (Ad es y):=by
 unfold Co
 cases Ad es c with
 | v a=>cases a <;> first | rfl | (rename_i t;cases t <;> rfl)
 | _=>rfl
theorem Cf3(t:Bool)(x y:DV):Yx (.v (.bool t)) x y=some (if t then x else y):=rfl
def G5(op:UnOp)(x:DV):Option DV:=match x with
 | .v v=>(CB op (.v v)).map .v
 | _=>none
theorem BK(op:UnOp)(x:EO)(es:ES):Nz op x es=G5 op (Ad es x):=by
 unfold Nz
 cases Ad es x with
 | v a=>
  show Yg _=_
  rw [VR];rfl
 | _=>rfl
def qA(rel:Nat->List DV->Option DV):Bg:=λtg ds hp nx=>match tg with
 | .fn f=>match rel f ds with
  | some d=>some (d,hp,nx)
  | none=>none
 | .yl _=>none
theorem Bk7{P:Program}{rel:Nat->List DV->Option DV}(h:∀ f ds d,rel f ds=some d->Known P f ds d):Uw P (qA rel):=by
 intro tg ds hp nx d An Bm hc _
 cases tg with
 | yl id=>cases hc
 | fn f=>
  have Km:(match rel f ds with
   | some d=>some (d,hp,nx)
   | none=>none)=some (d,An,Bm):=hc
  split at Km
  .rename_i d0 hd
   cases Km
   obtain ⟨k1,k2,k3⟩:=h f ds d hd
   exact ⟨Ag _,λid h2 h3=>absurd h2 h3,k1,λsv K hK=>.inr ⟨_,k2,k3,hK⟩⟩
  .cases Km
end Go.DD

/- The evaluator, read with symbols: steps that lay or write; loops counted upwards; contracts by families. -/
namespace Go.DD
open Go
theorem EW.up{c:CE}{call:Bg}{Q:Exit->ES->Prop}(n:Nat)(St:Nat->ES->Prop)(step:∀ i es,i<=n->St i es->EW c call es (Nc (λAi=>i<n/\St (i+1) Ai) Q)){k:Nat}{es:ES}(h0:St 0 es)(hk:n<k):EW (cL k c) call es Q:=
 EW.l (I:=λm es=>∃ i,m=n-i/\i<=n/\St i es) (by
  rintro m es ⟨i,rfl,hi,hs⟩
  refine (step i es hi hs).mono λe Ai h=>?_
  cases e with
  | normal=>obtain ⟨Et,Mi⟩:=h;exact ⟨n-(i+1),by omega,i+1,rfl,by omega,Mi⟩
  | _=>exact h) n k es ⟨0,rfl,by omega,h0⟩ hk
def UW(x:Option (DV×Upd))(K:DV->Upd->Prop):Prop:=∃ d u,x=some (d,u)/\K d u
theorem T7{d:DV}{u:Upd}{K:DV->Upd->Prop} : UW (some (d,u)) K↔K d u:=⟨λ⟨_,_,h1,h2⟩=>(by cases h1;exact h2),λh=>⟨d,u,rfl,h⟩⟩
def ES.up(es:ES)(u:Upd):ES:=⟨es.sl,Lv es.hp es.nx u,if u.new then es.nx+1 else es.nx⟩
theorem Zu(es:ES)(o:DObj):es.up (.lay o)=⟨es.sl,Ka es.hp es.nx (some o),es.nx+1⟩:=rfl
theorem Ld(es:ES)(id:Nat)(o:DObj):es.up (.wr id o)=⟨es.sl,Ka es.hp id (some o),es.nx⟩:=rfl
theorem Cf4(es:ES)(o:DObj):es.up (.mv none o)=⟨es.sl,Ka es.hp es.nx (some o),es.nx+1⟩:=rfl
theorem Cf5(es:ES)(i:Nat)(o:DObj):es.up (.mv (some i) o)=⟨es.sl,Ka (Ka es.hp i none) es.nx (some o),es.nx+1⟩:=rfl
theorem sw_u{dst:Option Pa}{x:XU}{call:Bg}{es:ES}{Q:ES->Prop} : SW (sU dst x) call es Q↔UW (x es es.nx) λd u=>Q ((es.up u).putE dst d):=by
 have key:∀ d u,x es es.nx=some (d,u)->sU dst x call es=some ((es.up u).putE dst d):=by
  intro d u h
  unfold sU
  rw [h]
  show es.cs (λsl hp nx=>Fv u.new (aX (nx+1) λn=>some ((ES.mk sl (Lv hp nx u) n).putE dst d)) (some ((ES.mk sl (Lv hp nx u) nx).putE dst d)))=_
  rw [dH,bM,Sq]
  unfold ES.up
  cases u.new <;> rfl
 constructor
 .rintro ⟨es',h1,h2⟩
  cases hx:x es es.nx with
  | none=>
   have:sU dst x call es=none:=by unfold sU;rw [hx]
   rw [this] at h1;cases h1
  | some p=>
   obtain ⟨d,u⟩:=p
   rw [key d u hx] at h1
   cases h1
   exact ⟨d,u,rfl,h2⟩
 .rintro ⟨d,u,h1,h2⟩
  exact ⟨_,key d u h1,h2⟩
theorem Ft(o:DOp)(es:ES)(nid:Nat):Bi o es nid=Ba nid es.ds o:=rfl
theorem get_set(t:Tr DObj)(k j:Nat)(v:Option DObj):(Ka t k v).get j=if j=k then v else t.get j:=by rw [F5]
theorem Sa(hp:Tr DObj)(v:Value):Cg hp (.v v)=.v v:=dW rfl
theorem Bw4(hp:Tr DObj)(cs:List DV)(n:Nat):Cg hp (.sl cs n)=.sl cs n:=dW rfl
theorem Bw5(hp:Tr DObj)(cs:List DV):Cg hp (.ia cs)=.ia cs:=dW rfl
theorem Wm{hp:Tr DObj}{d:DV}(h:∀ id∈d.refs,(hp.get id).isSome=true):Cg hp d=d:=by
 unfold Cg
 rw [AA,OX,Sq,Af]
 rw [Bd]
 intro id hi
 rw [qM,Kn]
 exact h id hi
theorem Yb{hp:Tr DObj}{id off n es:Nat}{o:DObj}(h:hp.get id=some o):Cg hp (.ms id off n es)=.ms id off n es:=Wm λi hi=>by
 have:i=id:=by simpa [DV.refs] using hi
 rw [this,h];rfl
theorem Vk{hp:Tr DObj}{id off:Nat}{o:DObj}(h:hp.get id=some o):Cg hp (.pt id off)=.pt id off:=Wm λi hi=>by
 have:i=id:=by simpa [DV.refs] using hi
 rw [this,h];rfl
theorem iZ{hp:Tr DObj}{id:Nat}{o:DObj}(h:hp.get id=some o):Cg hp (.mp id)=.mp id:=Wm λi hi=>by
 have:i=id:=by simpa [DV.refs] using hi
 rw [this,h];rfl
def fB:DV->Option DV
 | .v (.string b)=>some (.v (.int .i64 b.size))
 | _=>none
def Ra:DV->DV->Option DV
 | .v (.string b),.v (.int _ j)=>if 0<=j then (b[j.toNat]?).map λc=>.v (.int .u8 (c.toNat:Int)) else none
 | _,_=>none
def Ip(x:Option DV):Option (DV×Upd):=x.map λd=>(d,.keep)
theorem Bw6{d:DV}{K:DV->Upd->Prop} : UW (Ip (some d)) K↔K d .keep:=T7
theorem BM{t:Nat}{es:ES}{nid:Nat} : Bi (.lns (.tmp t)) es nid=Ip (fB (Cg es.hp (Ad es (.t (Cq t))))):=by
 rw [Ft,<- kT]
 simp only [Ba]
 cases es.ds.ev (.tmp t) with
 | v x=>cases x <;> rfl
 | _=>rfl
theorem BO{t u:Nat}{es:ES}{nid:Nat} : Bi (.ixs (.tmp t) (.tmp u)) es nid=Ip (Ra (Cg es.hp (Ad es (.t (Cq t)))) (Cg es.hp (Ad es (.t (Cq u))))):=by
 rw [Ft,<- kT,<- kT]
 simp only [Ba]
 cases es.ds.ev (.tmp t) with
 | v x=>cases x <;> cases es.ds.ev (.tmp u) with
  | v y=>cases y <;> first | rfl | (simp only [Ku,Ra,Ip];split <;> first | rfl | (cases ByteArray.get? _ _ <;> rfl) | (simp only [Option.map_map];rfl))
  | _=>rfl
 | _=>cases es.ds.ev (.tmp u) with
  | v y=>cases y <;> rfl
  | _=>rfl
def sH:DV->Option DV
 | .v (.string b)=>some (.sl (b.data.toList.map λc=>.v (.int .u8 (c.toNat:Int))) b.size)
 | _=>none
theorem BL{t:Nat}{es:ES}{nid:Nat} : Bi (.s2b (.tmp t)) es nid=Ip (sH (Cg es.hp (Ad es (.t (Cq t))))):=by
 rw [Ft,<- kT]
 simp only [Ba]
 cases es.ds.ev (.tmp t) with
 | v x=>cases x <;> rfl
 | _=>rfl
end Go.DD

/- The evaluator, read with symbols: guarded steps as data, not as branches; operations that lay nothing as data. -/
namespace Go.DD
open Go
theorem nr{α:Sort _}{a b:α}(h:a=b):a=b:=h
@[congr] theorem MZ{c:CE}{call:Bg}{es es':ES}{Q:Exit->ES->Prop}(h:es=es'):EW c call es Q=EW c call es' Q:=by rw [h]
@[congr] theorem DG{s:Nw}{call:Bg}{es es':ES}{Q:ES->Prop}(h:es=es'):SW s call es Q=SW s call es' Q:=by rw [h]
@[congr] theorem BG{x x':Option DV}{K:DV->Prop}(h:x=x'):XW x K=XW x' K:=by rw [h]
@[congr] theorem BW{x x':Option (DV×Upd)}{K:DV->Upd->Prop}(h:x=x'):UW x K=UW x' K:=by rw [h]
@[congr] theorem HS{call:Bg}{tg:Tg}{ds eH:List DV}{hp An:Tr DObj}{nx Bm:Nat}{K:DV->Tr DObj->Nat->Prop}(h1:ds=eH)(h2:hp=An)(h3:nx=Bm):KW call tg ds hp nx K=KW call tg eH An Bm K:=by rw [h1,h2,h3]
@[congr] theorem NG{d d':DV}{A B:Prop}(h:d=d'):CW d A B=CW d' A B:=by rw [h]
@[congr] theorem MK{d d':DV}{b:Bool}{A B:Prop}(h:d=d'):GW d b A B=GW d' b A B:=by rw [h]
@[congr] theorem CS{s:Jw}{call:Bg}{n0 m:Nat}{d d':DSt}{Q:DSt->Prop}(h:d=d'):TW s call n0 m d Q=TW s call n0 m d' Q:=by rw [h]
@[congr] theorem G8{n:ES->Prop}{Q:Exit->ES->Prop}{e:Exit}{es:ES} : Nc n Q e es=Nc n Q e es:=nr rfl
@[congr] theorem X7{i:Nat}{Q:Exit->ES->Prop}{e:Exit}{es:ES} : Ms i Q e es=Ms i Q e es:=nr rfl
theorem Cf6{n:ES->Prop}{Q:Exit->ES->Prop}{es:ES} : Nc n Q .normal es=n es:=nr rfl
theorem Cf7{n:ES->Prop}{Q:Exit->ES->Prop}{es:ES} : Nc n Q .ret es=Q .ret es:=nr rfl
theorem Cf8{n:ES->Prop}{Q:Exit->ES->Prop}{i:Nat}{es:ES} : Nc n Q (.exit i) es=Q (.exit i) es:=nr rfl
theorem C4{i:Nat}{Q:Exit->ES->Prop}{es:ES} : Ms i Q .normal es=Q .normal es:=nr rfl
theorem C3{i:Nat}{Q:Exit->ES->Prop}{es:ES} : Ms i Q .ret es=Q .ret es:=nr rfl
theorem C1{i:Nat}{Q:Exit->ES->Prop}{es:ES} : Ms i Q (.exit i) es=Q .normal es:=by simp [Ms]
theorem C0{i j:Nat}{Q:Exit->ES->Prop}{es:ES}(h:j≠i):Ms i Q (.exit j) es=Q (.exit j) es:=by simp [Ms,h]
def mk1(d:DV):Option DV:=some d
theorem Cf9(d:DV):mk1 d=some d:=nr rfl
theorem vV{dst:Option Pa}{x:EO}{call:Bg}{es:ES}{Q:ES->Prop} : SW (sM dst x) call es Q↔XW (mk1 (Ad es x)) λd=>Q (es.putE dst d):=sw_m.trans (xw_some (Q:=λd=>Q (es.putE dst d))).symm
def dC(g:DV)(b:Bool)(x:Option DV):Option DV:=match g with
 | .v (.bool c)=>if c=b then x else some (.v undef)
 | .v (.tuple _)=>some (.v undef)
 | _=>none
theorem Bw7{es:ES}{p:Pa}{b c:Bool}(h:Kk es p b=some c):(∃ t,Ad es (.t p)=.v (.bool t)/\c=(t==b))\/(∃ vs,Ad es (.t p)=.v (.tuple vs)/\c=false):=by
 unfold Kk at h
 obtain ⟨v,hv,h⟩:=uQ h
 cases v with
 | bool t=>
  have h5:some (t==b)=some c:=h
  cases h5
  exact .inl ⟨t,hv,rfl⟩
 | tuple vs=>
  have h5:some false=some c:=h
  cases h5
  exact .inr ⟨vs,hv,rfl⟩
 | _=>cases h
theorem mN{p:Pa}{b:Bool}{dst:Option Pa}{s:Nw}{X:ES->Option DV}{call:Bg}{es:ES}{Q:ES->Prop}
  (hs:∀ Q:ES->Prop,SW s call es Q↔XW (X es) λd=>Q (es.putE dst d)):SW (sG p b dst s) call es Q↔XW (dC (Ad es (.t p)) b (X es)) λd=>Q (es.putE dst d):=by
 rw [mJ]
 constructor
 .rintro (⟨c,h1,h2,h3⟩ | ⟨vs,h1,h2⟩)
  .rw [h1]
   simp only [dC]
   by_cases hc:c=b
   .rw [Af hc];exact (hs Q).1 (h2 hc)
   .rw [Ae hc];exact ⟨_,rfl,h3 hc⟩
  .rw [h1];exact ⟨_,rfl,h2⟩
 .rintro ⟨d,h1,h2⟩
  unfold dC at h1
  split at h1
  .rename_i c hr
   refine .inl ⟨c,hr,λhc=>?_,λhc=>?_⟩
   .rw [Af hc] at h1;exact (hs Q).2 ⟨d,h1,h2⟩
   .rw [Ae hc] at h1;cases h1;exact h2
  .rename_i vs hr
   cases h1
   exact .inr ⟨_,hr,h2⟩
  .cases h1
theorem DA{p:Pa}{b:Bool}{dst:Option Pa}{x:XP}{call:Bg}{es:ES}{Q:ES->Prop} : SW (sG p b dst (sX dst x)) call es Q↔XW (dC (Ad es (.t p)) b (x es)) λd=>Q (es.putE dst d):=mN λ_=>eS
theorem DB{p:Pa}{b:Bool}{dst:Option Pa}{x:EO}{call:Bg}{es:ES}{Q:ES->Prop} : SW (sG p b dst (sM dst x)) call es Q↔XW (dC (Ad es (.t p)) b (some (Ad es x))) λd=>Q (es.putE dst d):=
 mN (X:=λes=>some (Ad es x)) λQ=>by rw [sw_m];exact (xw_some (Q:=λd=>Q (es.putE dst d))).symm
theorem VL{dst:Option Pa}{x:XU}{X:XP}(h:∀ es nid,x es nid=Ip (X es)):sU dst x=sX dst X:=by
 funext call es
 unfold sU sX
 rw [h]
 unfold Ip
 cases X es with
 | none=>rfl
 | some d=>
  show es.cs (λsl hp nx=>Fv Upd.keep.new (aX (nx+1) λn=>some ((ES.mk sl (Lv hp nx .keep) n).putE dst d)) (some ((ES.mk sl (Lv hp nx .keep) nx).putE dst d)))=_
  rfl
def rZ(t:Nat):XP:=λes=>fB (Cg es.hp (Ad es (.t (Cq t))))
def sA(t u:Nat):XP:=λes=>Ra (Cg es.hp (Ad es (.t (Cq t)))) (Cg es.hp (Ad es (.t (Cq u))))
def F9(t:Nat):XP:=λes=>sH (Cg es.hp (Ad es (.t (Cq t))))
theorem uh{dst:Option Pa}{t:Nat}{call:Bg}{es:ES}{Q:ES->Prop} : SW (sU dst (Bi (.lns (.tmp t)))) call es Q↔XW (rZ t es) λd=>Q (es.putE dst d):=by rw [VL (X:=rZ t) λ_ _=>BM];exact eS
theorem ug{dst:Option Pa}{t u:Nat}{call:Bg}{es:ES}{Q:ES->Prop} : SW (sU dst (Bi (.ixs (.tmp t) (.tmp u)))) call es Q↔XW (sA t u es) λd=>Q (es.putE dst d):=by rw [VL (X:=sA t u) λ_ _=>BO];exact eS
theorem Cg0{dst:Option Pa}{t:Nat}{call:Bg}{es:ES}{Q:ES->Prop} : SW (sU dst (Bi (.s2b (.tmp t)))) call es Q↔XW (F9 t es) λd=>Q (es.putE dst d):=by rw [VL (X:=F9 t) λ_ _=>BL];exact eS
theorem xI(b:Bool):G5 .not (.v (.bool b))=some (.v (.bool !b)):=nr rfl
theorem GQ(k:IntKind)(n:Int):G5 .neg (.v (.int k n))=some (.v (.int k (k.wrap (0-n)))):=nr rfl
theorem bj(es:ES)(d:DV):Ad es (.c d)=d:=nr rfl
theorem J5(es:ES)(hp:Tr DObj)(nx:Nat)(p:Pa):Ad (ES.mk es.sl hp nx) (.t p)=Ad es (.t p):=nr rfl
theorem xJ(b:ByteArray):fB (.v (.string b))=some (.v (.int .i64 b.size)):=nr rfl
theorem xC(b:ByteArray):sH (.v (.string b))=some (.sl (b.data.toList.map λc=>.v (.int .u8 (c.toNat:Int))) b.size):=nr rfl
theorem GP(es:ES):es.up .keep=es:=nr rfl
theorem Cg1(t:Nat)(es:ES):rZ t es=fB (Cg es.hp (Ad es (.t (Cq t)))):=nr rfl
theorem Cg2(t u:Nat)(es:ES):sA t u es=Ra (Cg es.hp (Ad es (.t (Cq t)))) (Cg es.hp (Ad es (.t (Cq u)))):=nr rfl
theorem Cg3(t:Nat)(es:ES):F9 t es=sH (Cg es.hp (Ad es (.t (Cq t)))):=nr rfl
theorem Cp4{p:Pa}{b:Bool}{dst:Option Pa}{t:Nat}{call:Bg}{es:ES}{Q:ES->Prop} : SW (sG p b dst (sU dst (Bi (.lns (.tmp t))))) call es Q↔XW (dC (Ad es (.t p)) b (rZ t es)) λd=>Q (es.putE dst d):=mN λ_=>uh
theorem Cp5{p:Pa}{b:Bool}{dst:Option Pa}{t u:Nat}{call:Bg}{es:ES}{Q:ES->Prop} : SW (sG p b dst (sU dst (Bi (.ixs (.tmp t) (.tmp u))))) call es Q↔XW (dC (Ad es (.t p)) b (sA t u es)) λd=>Q (es.putE dst d):=mN λ_=>ug
section
variable {c:Bool}
theorem nm{x:Option DV} : dC (.v (.bool c)) true x=if c=true then x else some (.v undef):=nr rfl
theorem np{x:Option DV} : dC (.v (.bool c)) false x=if c=true then some (.v undef) else x:=by cases c <;> rfl
theorem nk{b:Bool}{x:Option DV} : dC (.v undef) b x=some (.v undef):=nr rfl
theorem nn{a a':DV}{b:Bool}{x:Option DV} : dC (if c=true then a else a') b x=if c=true then dC a b x else dC a' b x:=by cases c <;> rfl
theorem C03{a b:DV} : (if c=true then some a else some b)=some (if c=true then a else b):=by cases c <;> rfl
theorem cz{α:Type}{a b d:α} : (if c=true then (if c=true then a else b) else d)=if c=true then a else d:=by cases c <;> rfl
theorem dh{α:Type}{a b d:α} : (if c=true then a else (if c=true then b else d))=if c=true then a else d:=by cases c <;> rfl
theorem C04{op:BinOp}{a b y:DV} : Dm op (if c=true then a else b) y=if c=true then Dm op a y else Dm op b y:=by cases c <;> rfl
theorem C05{op:BinOp}{a b y:DV} : Dm op y (if c=true then a else b)=if c=true then Dm op y a else Dm op y b:=by cases c <;> rfl
theorem cy{op:UnOp}{a b:DV} : G5 op (if c=true then a else b)=if c=true then G5 op a else G5 op b:=by cases c <;> rfl
theorem Cp6{a b x y:DV} : Yx (if c=true then a else b) x y=if c=true then Yx a x y else Yx b x y:=by cases c <;> rfl
theorem C06{hp:Tr DObj}{a b:DV} : Cg hp (if c=true then a else b)=if c=true then Cg hp a else Cg hp b:=by cases c <;> rfl
theorem IA{a b:DV} : fB (if c=true then a else b)=if c=true then fB a else fB b:=by cases c <;> rfl
theorem C07{a b y:DV} : Ra (if c=true then a else b) y=if c=true then Ra a y else Ra b y:=by cases c <;> rfl
theorem C08{a b y:DV} : Ra y (if c=true then a else b)=if c=true then Ra y a else Ra y b:=by cases c <;> rfl
theorem cw{x y:Bool} : (if c=true then DV.v (.bool x) else .v (.bool y))=.v (.bool (if c=true then x else y)):=by cases c <;> rfl
theorem db{w:Bool} : (if c=true then true else w)=(c||w):=by cases c <;> rfl
theorem IE{w:Bool} : (if c=true then w else false)=(c&&w):=by cases c <;> rfl
end
theorem C09(t:Bool)(x y:DV):Yx (.v (.bool t)) x y=some (if t=true then x else y):=by cases t <;> rfl
def lR(hp:Tr DObj)(id:Nat):Bool:=(hp.get id).isSome
def Oc(hp:Tr DObj)(x:DV):Option DV:=match x with
 | .sl _ n=>some (.v (.int .i64 n))
 | .v (.slice none n _)=>some (.v (.int .i64 n))
 | .ms id _ n _=>if lR hp id=true then some (.v (.int .i64 n)) else none
 | _=>none
def Qu(hp:Tr DObj)(es:Nat)(x i:DV):Option DV:=match i with
 | .v (.int _ j)=>match x with
  | .sl cs n=>if 0<=j/\j<n then some (.ia (cs.drop (j.toNat*es))) else none
  | .ms id off n _=>if lR hp id=true/\0<=j/\j<n then some (.pt id (off+j.toNat*es)) else none
  | _=>none
 | _=>none
def Fy(hp:Tr DObj)(k:Option Nat)(x:DV):Option DV:=match x with
 | .ia cs=>Io k cs
 | .pt id off=>match hp.get id with
  | some (.row _ cs)=>Io k (cs.drop off)
  | _=>none
 | _=>none
def Mx(hp:Tr DObj)(off:Nat)(x:DV):Option DV:=match x with
 | .ia cs=>some (.ia (cs.drop off))
 | .pt id o=>if lR hp id=true then some (.pt id (o+off)) else none
 | _=>none
theorem vK(x:EO)(es:ES):Cu x es=Oc es.hp (Ad es x):=by
 unfold Cu Oc
 cases Ad es x with
 | v a=>
  cases a with
  | slice a n c=>cases a <;> rfl
  | _=>rfl
 | sl cs n=>show aX n (λn=>some (DV.v (.int .i64 (.ofNat n))))=some (DV.v (.int .i64 n));rw [bM];rfl
 | ms id off n es'=>
  show Fv (Rm (gN es.hp id)) (aX n λn=>some (DV.v (.int .i64 (.ofNat n)))) (none:Option DV)=if lR es.hp id=true then some (DV.v (.int .i64 n)) else none
  rw [bM,Sq,qM,Kn];rfl
 | _=>rfl
theorem Cg4{α:Type}(j:Int)(n:Nat)(f:Nat->Option α):uH j n f none=if 0<=j/\j<n then f j.toNat else none:=by
 cases j with
 | ofNat m=>
  show Fv (Nat.blt m n) (f m) none=_
  rw [Sq]
  by_cases h:m<n
  .rw [Af (by simpa [Kq] using h),Af ⟨by simp,by simpa using h⟩];rfl
  .rw [Ae (by simpa [Kq] using h),Ae (λhh=>h (by simpa using hh.2))]
 | negSucc m=>
  rw [Ae (λhh=>absurd hh.1 (by simp))];rfl
theorem BP(es':Nat)(x i:EO)(es:ES):Fg es' x i es=Qu es.hp es' (Ad es x) (Ad es i):=by
 unfold Fg Qu
 cases Ad es i with
 | v a=>
  cases a with
  | int k j=>
   show TH (Ad es x) _ _ _ _=_
   cases Ad es x with
   | sl cs n=>show uH j n (λm=>some (DV.ia (Lk (m*es') cs))) none=_;rw [Cg4];simp only [jB]
   | ms id off n e=>
    show Fv (Rm (gN es.hp id)) (uH j n (λm=>aX (off+m*es') λo=>some (DV.pt id o)) none) none=_
    rw [Sq,qM,Kn,Cg4]
    simp only [bM,lR]
    by_cases h1:(es.hp.get id).isSome=true <;> by_cases h2:0<=j/\j<n <;> simp [h1,h2]
   | _=>rfl
  | _=>rfl
 | _=>rfl
theorem BN(k:Option Nat)(x:EO)(es:ES):Cf k x es=Fy es.hp k (Ad es x):=by
 unfold Cf Fy
 cases Ad es x with
 | ia cs=>exact Z9 k cs
 | pt id off=>
  show Xs es.hp id (λ_ cs=>Sx k (Lk off cs)) (none:Option DV)=match es.hp.get id with
   | some (.row _ cs)=>Io k (cs.drop off)
   | _=>none
  unfold Xs
  rw [Kn]
  cases es.hp.get id with
  | none=>rfl
  | some o=>
   cases o with
   | row T cs=>show Sx k (Lk off cs)=Io k (cs.drop off);rw [Z9,jB]
   | _=>rfl
 | _=>rfl
theorem BQ(off:Nat)(x:EO)(es:ES):Ea off x es=Mx es.hp off (Ad es x):=by
 unfold Ea Mx
 cases Ad es x with
 | ia cs=>show some (DV.ia (Lk off cs))=_;rw [jB]
 | pt id o=>
  show Fv (Rm (gN es.hp id)) (aX (o+off) λn=>some (DV.pt id n)) none=_
  rw [Sq,qM,Kn,bM];rfl
 | _=>rfl
theorem xP(hp:Tr DObj)(cs:List DV)(n:Nat):Oc hp (.sl cs n)=some (.v (.int .i64 n)):=nr rfl
theorem cu{hp:Tr DObj}{es n i:Nat}{k:IntKind}{cs:List DV}(h:i<n):Qu hp es (.sl cs n) (.v (.int k (i:Int)))=some (.ia (cs.drop (i*es))):=by
 show (if 0<=(i:Int)/\(i:Int)<n then some (DV.ia (cs.drop ((i:Int).toNat*es))) else none)=_
 rw [Af ⟨by omega,by omega⟩];rfl
theorem HR(hp:Tr DObj)(k:Option Nat)(cs:List DV):Fy hp k (.ia cs)=Io k cs:=nr rfl
theorem Qz{hp:Tr DObj}{k:Option Nat}{id off:Nat}{T:TypeId}{cs:List DV}(h:hp.get id=some (.row T cs)):Fy hp k (.pt id off)=Io k (cs.drop off):=by
 unfold Fy;simp only [h]
theorem R4(hp:Tr DObj)(off:Nat)(cs:List DV):Mx hp off (.ia cs)=some (.ia (cs.drop off)):=nr rfl
theorem Py{hp:Tr DObj}{id o off:Nat}{x:DObj}(h:hp.get id=some x):Mx hp off (.pt id o)=some (.pt id (o+off)):=by
 unfold Mx lR;simp only [h];rfl
section
variable {c:Bool}
theorem IB{hp:Tr DObj}{a b:DV} : Oc hp (if c=true then a else b)=if c=true then Oc hp a else Oc hp b:=by cases c <;> rfl
theorem ID{hp:Tr DObj}{es:Nat}{a b y:DV} : Qu hp es (if c=true then a else b) y=if c=true then Qu hp es a y else Qu hp es b y:=by cases c <;> rfl
theorem IC{hp:Tr DObj}{es:Nat}{a b y:DV} : Qu hp es y (if c=true then a else b)=if c=true then Qu hp es y a else Qu hp es y b:=by cases c <;> rfl
theorem de{hp:Tr DObj}{k:Option Nat}{a b:DV} : Fy hp k (if c=true then a else b)=if c=true then Fy hp k a else Fy hp k b:=by cases c <;> rfl
theorem dg{hp:Tr DObj}{k:Nat}{a b:DV} : Mx hp k (if c=true then a else b)=if c=true then Mx hp k a else Mx hp k b:=by cases c <;> rfl
end
end Go.DD

/- The evaluator, read with symbols: the operations one by one; own rows, maps, strings' iterators; calls of function values; calls in drawn regions. -/
namespace Go.DD
open Go
theorem aC{dst:Option Pa}{x:XU}{X:XP}(h:∀ es nid,x es nid=Ip (X es)){call:Bg}{es:ES}{Q:ES->Prop} : SW (sU dst x) call es Q↔XW (X es) λd=>Q (es.putE dst d):=by
 rw [VL h];exact eS
theorem mI{p:Pa}{b:Bool}{dst:Option Pa}{x:XU}{X:XP}(h:∀ es nid,x es nid=Ip (X es)){call:Bg}{es:ES}{Q:ES->Prop} : SW (sG p b dst (sU dst x)) call es Q↔XW (dC (Ad es (.t p)) b (X es)) λd=>Q (es.putE dst d):=mN λ_=>aC h
theorem Dc(es:ES)(t:Nat):es.ds.ev (.tmp t)=Cg es.hp (Ad es (.t (Cq t))):=nr (kT es t)
theorem xK(es:ES)(v:Value):es.ds.ev (.const v)=Qf v:=nr rfl
theorem xG(k:IntKind)(n:Int):Qf (.int k n)=.v (.int k n):=nr rfl
theorem xH(b:Bool):Qf (.bool b)=.v (.bool b):=nr rfl
theorem xD(b:ByteArray):Qf (.string b)=.v (.string b):=nr rfl
theorem xF(n m:Nat):Qf (.slice none n m)=.v (.slice none n m):=nr rfl
theorem xE:Qf (.pointer none)=.v (.pointer none):=nr rfl
theorem OT(hp:Tr DObj)(f:Nat):Cg hp (.fn (.func f) [.tup []])=.fn (.func f) [.tup []]:=nr (dW rfl)
def sY(mx:Bool)(x y:DV):Option DV:=match x,y with
 | .v (.int k a),.v (.int _ b)=>some (.v (.int k (if mx then (if b>a then b else a) else (if b<a then b else a))))
 | _,_=>none
def NR(neg:Bool)(x y:DV):Option DV:=match x,y with
 | .v (.bool a),.v (.bool b)=>some (.v (.bool (xor neg (a==b))))
 | _,_=>none
def Xr(k:IntKind)(x:DV):Option DV:=match x with
 | .v (.int _ n)=>some (.v (.int k (k.wrap n)))
 | _=>none
theorem K9(b:Bool)(x y:Operand)(es:ES)(nid:Nat):Bi (.mm b x y) es nid=Ip (sY b (es.ds.ev x) (es.ds.ev y)):=by
 rw [Ft];simp only [Ba]
 cases es.ds.ev x with
 | v a=>cases a <;> cases es.ds.ev y with
  | v c=>cases c <;> rfl
  | _=>rfl
 | _=>cases es.ds.ev y <;> rfl
theorem HY(b:Bool)(x y:Operand)(es:ES)(nid:Nat):Bi (.bb b x y) es nid=Ip (NR b (es.ds.ev x) (es.ds.ev y)):=by
 rw [Ft];simp only [Ba]
 cases es.ds.ev x with
 | v a=>cases a <;> cases es.ds.ev y with
  | v c=>cases c <;> rfl
  | _=>rfl
 | _=>cases es.ds.ev y <;> rfl
theorem HX(neg:Bool)(ks:List Nat)(x y:Operand)(es:ES)(nid:Nat):Bi (.eqs neg ks x y) es nid=Ip (uD neg ks (es.ds.ev x) (es.ds.ev y)):=by
 rw [Ft];simp only [Ba]
 cases es.ds.ev x with
 | agg xs=>cases es.ds.ev y with
  | agg ys=>show (Ri ks xs ys).map _=Ip ((Ri ks xs ys).map _);cases Ri ks xs ys <;> rfl
  | _=>rfl
 | _=>cases es.ds.ev y <;> rfl
theorem yS(k:IntKind)(x:Operand)(es:ES)(nid:Nat):Bi (.cvi k x) es nid=Ip (Xr k (es.ds.ev x)):=by
 rw [Ft];simp only [Ba]
 cases es.ds.ev x with
 | v a=>cases a <;> rfl
 | _=>rfl
theorem HW(f:Fn)(fst cap:List Operand)(es:ES)(nid:Nat):Bi (.mkf f fst cap) es nid=Ip (some (.fn f (.tup (fst.map es.ds.ev)::cap.map es.ds.ev))):=rfl
theorem vU{dst:Option Pa}{b:Bool}{x y:Operand}{call:Bg}{es:ES}{Q:ES->Prop} : SW (sU dst (Bi (.mm b x y))) call es Q↔XW (sY b (es.ds.ev x) (es.ds.ev y)) λd=>Q (es.putE dst d):=aC (K9 b x y)
theorem C10{p:Pa}{g:Bool}{dst:Option Pa}{b:Bool}{x y:Operand}{call:Bg}{es:ES}{Q:ES->Prop} : SW (sG p g dst (sU dst (Bi (.mm b x y)))) call es Q↔XW (dC (Ad es (.t p)) g (sY b (es.ds.ev x) (es.ds.ev y))) λd=>Q (es.putE dst d):=mI (K9 b x y)
theorem vY{dst:Option Pa}{b:Bool}{x y:Operand}{call:Bg}{es:ES}{Q:ES->Prop} : SW (sU dst (Bi (.bb b x y))) call es Q↔XW (NR b (es.ds.ev x) (es.ds.ev y)) λd=>Q (es.putE dst d):=aC (HY b x y)
theorem C11{p:Pa}{g:Bool}{dst:Option Pa}{b:Bool}{x y:Operand}{call:Bg}{es:ES}{Q:ES->Prop} : SW (sG p g dst (sU dst (Bi (.bb b x y)))) call es Q↔XW (dC (Ad es (.t p)) g (NR b (es.ds.ev x) (es.ds.ev y))) λd=>Q (es.putE dst d):=mI (HY b x y)
theorem Bx0{dst:Option Pa}{k:IntKind}{x:Operand}{call:Bg}{es:ES}{Q:ES->Prop} : SW (sU dst (Bi (.cvi k x))) call es Q↔XW (Xr k (es.ds.ev x)) λd=>Q (es.putE dst d):=aC (yS k x)
theorem Cg5{dst:Option Pa}{f:Fn}{fst cap:List Operand}{call:Bg}{es:ES}{Q:ES->Prop} : SW (sU dst (Bi (.mkf f fst cap))) call es Q↔XW (some (.fn f (.tup (fst.map es.ds.ev)::cap.map es.ds.ev))) λd=>Q (es.putE dst d):=aC (HW f fst cap)
theorem Cg6(k k':IntKind)(a b:Int):sY false (.v (.int k a)) (.v (.int k' b))=some (.v (.int k (min a b))):=by
 show some (DV.v (.int k (if b<a then b else a)))=_
 congr 3;omega
theorem C12(k k':IntKind)(a b:Int):sY true (.v (.int k a)) (.v (.int k' b))=some (.v (.int k (max a b))):=by
 show some (DV.v (.int k (if b>a then b else a)))=_
 congr 3;omega
theorem B6(k k':IntKind)(n:Int):Xr k (.v (.int k' n))=some (.v (.int k (k.wrap n))):=nr rfl
theorem Zl(neg:Bool)(ks:List Nat)(xs ys:List DV):uD neg ks (.agg xs) (.agg ys)=(Ri ks xs ys).map λb=>.v (.bool (xor neg b)):=nr rfl
theorem C5(op:BinOp)(a b:ByteArray):Dm op (.v (.string a)) (.v (.string b))=(dK op a b).map .v:=nr rfl
def S1(nid:Nat)(T:TypeId)(d:DV):Option (DV×Upd):=if d.okC=true then some (.pt nid 0,.lay (.row T d.cells)) else none
theorem sw_bx{dst:Option Pa}{T:TypeId}{x:EO}{call:Bg}{es:ES}{Q:ES->Prop} : SW (sU dst (Nx T x)) call es Q↔UW (S1 es.nx T (My es x)) λd u=>Q ((es.up u).putE dst d):=by
 rw [sw_u]
 have e:Nx T x es es.nx=S1 es.nx T (My es x):=by
  unfold Nx S1
  rw [Sq,PX,AI]
 rw [e]
theorem sw_al{dst:Option Pa}{T:TypeId}{z:List DV}{call:Bg}{es:ES}{Q:ES->Prop} : SW (sU dst (Qe T z)) call es Q↔Q ((es.up (.lay (.row T z))).putE dst (.pt es.nx 0)):=by
 rw [sw_u];exact T7
def QK(hp:Tr DObj)(n:Nat)(a x:DV):Option (DV×Upd):=match a with
 | .pt id off=>match hp.get id with
  | some (.row T cs)=>if x.okC=true/\x.cells.length=n/\off+n<=cs.length then some (.any,.wr id (.row T (cs.take off++x.cells++cs.drop (off+n)))) else none
  | _=>none
 | _=>none
theorem mH{dst:Option Pa}{n:Nat}{a x:EO}{call:Bg}{es:ES}{Q:ES->Prop} : SW (sU dst (Is n a x)) call es Q↔UW (QK es.hp n (Ad es a) (My es x)) λd u=>Q ((es.up u).putE dst d):=by
 rw [sw_u]
 have e:Is n a x es es.nx=QK es.hp n (Ad es a) (My es x):=by
  unfold Is QK
  cases Ad es a with
  | pt id off=>
   show Xs es.hp id _ _=_
   unfold Xs
   rw [Kn]
   simp only []
   cases es.hp.get id with
   | none=>rfl
   | some o=>
    cases o with
    | row T cs=>
     show Fv (QW (My es x)) (Fv (Nat.beq (AX (My es x)).length n) (Fv (Nat.ble (off+n) cs.length) (E1 (Kw (Wu off cs) (Kw (AX (My es x)) (Lk (off+n) cs))) λl=>some (DV.any,Upd.wr id (.row T l))) none) none) none=if (My es x).okC=true/\(My es x).cells.length=n/\off+n<=cs.length then some (.any,.wr id (.row T (cs.take off++(My es x).cells++cs.drop (off+n)))) else none
     rw [Sq,Sq,Sq,PX,AI,UR,dT,dT,UJ,jB]
     by_cases h1:(My es x).okC=true
     .by_cases h2:(My es x).cells.length=n
      .by_cases h3:off+n<=cs.length
       .simp [h1,h2,h3]
       .simp [h1,h2,h3]
      .have:¬ (Nat.beq (My es x).cells.length n=true):=λe=>h2 (Fc e)
       simp [h1,h2,this]
     .simp [h1]
    | _=>rfl
  | _=>rfl
 rw [e]
def DI(id off n:Nat)(x:DV)(o:Option DObj):Option (DV×Upd):=match o with
 | some (.row T cs)=>if x.okC=true/\x.cells.length=n/\off+n<=cs.length then some (.any,.wr id (.row T (cs.take off++x.cells++cs.drop (off+n)))) else none
 | _=>none
theorem mL(hp:Tr DObj)(n id off:Nat)(x:DV):QK hp n (.pt id off) x=DI id off n x (hp.get id):=by
 show (match hp.get id with
  | some (.row T cs)=>if x.okC=true/\x.cells.length=n/\off+n<=cs.length then some (DV.any,Upd.wr id (.row T (cs.take off++x.cells++cs.drop (off+n)))) else none
  | _=>none)=DI id off n x (hp.get id)
 unfold DI
 generalize hp.get id=o
 cases o with
 | none=>rfl
 | some o=>cases o <;> rfl
theorem H4(id off n:Nat)(x:DV)(T:TypeId)(cs:List DV)(h1:x.okC=true)(h2:x.cells.length=n)(h3:off+n<=cs.length):DI id off n x (some (.row T cs))=some (.any,.wr id (.row T (cs.take off++x.cells++cs.drop (off+n)))):=by
 show (if x.okC=true/\x.cells.length=n/\off+n<=cs.length then _ else _)=_
 rw [Af ⟨h1,h2,h3⟩]
theorem H5(id n:Nat)(ds:List DV)(T:TypeId)(cs:List DV)(h2:ds.length=n)(h3:cs.length=n):DI id 0 n (.agg ds) (some (.row T cs))=some (.any,.wr id (.row T ds)):=by
 rw [H4 id 0 n (.agg ds) T cs rfl h2 (by omega)]
 have e:cs.take 0++(DV.agg ds).cells++cs.drop (0+n)=ds:=by
  rw [Df,Bc (by omega)]
  simp [DV.cells]
 rw [e]
end Go.DD

/- The evaluator, read with symbols: calls that are walked in place; rounds of a loop over a function; regions that draw their order. -/
namespace Go.DD
open Go
def Hg(tb:Nat->Option FE)(n:Nat)(rel:Nat->List DV->Option DV):Nat->Bg
 | 0=>qA rel
 | k+1=>λtg ds hp nx=>match tg with
  | .fn f=>match rel f ds with
   | some d=>some (d,hp,nx)
   | none=>Wv tb n (Hg tb n rel k) (.fn f) ds hp nx
  | .yl id=>Wv tb n (Hg tb n rel k) (.yl id) ds hp nx
theorem Z7{P:Program}(hm:P.follows .mixedOrders=true){tb:Nat->Option FE}{n' n:Nat}(gS:dQ P n' tb){rel:Nat->List DV->Option DV}(h:∀ f ds d,rel f ds=some d->Known P f ds d):∀ k,Uw P (Hg tb n rel k)
 | 0=>Bk7 h
 | k+1=>λtg ds hp nx d An Bm hc hf=>by
  have ih:=zg hm (n:=n) gS (Z7 (n:=n) hm gS h k)
  cases tg with
  | yl id=>exact ih (.yl id) ds hp nx d An Bm hc hf
  | fn f=>
   have Km:(match rel f ds with
    | some d=>some (d,hp,nx)
    | none=>Wv tb n (Hg tb n rel k) (.fn f) ds hp nx)=some (d,An,Bm):=hc
   cases hr:rel f ds with
   | none=>rw [hr] at Km;exact ih (.fn f) ds hp nx d An Bm Km hf
   | some d0=>
    rw [hr] at Km
    have Xz:qA rel (.fn f) ds hp nx=some (d,An,Bm):=by
     show (match rel f ds with
      | some d=>some (d,hp,nx)
      | none=>none)=_
     rw [hr];exact Km
    exact Bk7 h _ _ _ _ _ _ _ Xz hf
section
variable {tb:Nat->Option FE} {n:Nat} {rel:Nat->List DV->Option DV} {k f nt:Nat} {c:CE} {ds:List DV} {hp:Tr DObj} {nx:Nat} {K:DV->Tr DObj->Nat->Prop}
theorem OQ{d:DV}(h:rel f ds=some d)(hK:K d hp nx):KW (Hg tb n rel (k+1)) (.fn f) ds hp nx K:=
 ⟨d,hp,nx,show (match rel f ds with
  | some d=>some (d,hp,nx)
  | none=>Wv tb n (Hg tb n rel k) (.fn f) ds hp nx)=_ by rw [h],hK⟩
theorem bX{res:List (Nat×Option (Option Nat))}(hr:rel f ds=none)(hf:tb f=some ⟨c,res,nt⟩)(hn:ds.length<=nt)
  (h:∀ es,es.hp=hp->es.nx=nx->qF es ds->EW c (Hg tb n rel k) es λe es=>(e=.normal\/e=.ret)/\∃ d,Mo res es=some (d,es.hp,es.nx)/\K d es.hp es.nx):KW (Hg tb n rel (k+1)) (.fn f) ds hp nx K:=by
 obtain ⟨e,es,h1,h2,d,h3,h4⟩:=h ⟨Uu ds,hp,nx⟩ rfl rfl (Bw2 ds hp nx)
 refine ⟨d,es.hp,es.nx,?_,h4⟩
 show (match rel f ds with
  | some d=>some (d,hp,nx)
  | none=>match tb f with
   | some fe=>if ds.length<=fe.nt then match fe.run (Hg tb n rel k) ⟨Uu ds,hp,nx⟩ with
     | some (.normal,es)=>Mo fe.res es
     | some (.ret,es)=>Mo fe.res es
     | _=>none
    else none
   | none=>none)=_
 rw [hr,hf]
 simp only
 rw [Af hn,h1]
 rcases h2 with rfl | rfl
 .exact h3
 .exact h3
theorem fe0(es:ES):Mo [] es=some (.tup [],es.hp,es.nx):=by
 unfold Mo
 simp only [Ud,Hd,Yv]
theorem fe1(es:ES)(t:Nat):Mo [(t,none)] es=some (Cg es.hp (Ad es (.t (Cq t))),es.hp,es.nx):=by
 have e:Vv es (t,none)=some (Cg es.hp (Ad es (.t (Cq t)))):=rfl
 unfold Mo
 simp only [Gx,Ud,e,Hd,Ge,Oy,Yv]
theorem fe2(es:ES)(t u:Nat):Mo [(t,none),(u,none)] es=some (.tup [Cg es.hp (Ad es (.t (Cq t))),Cg es.hp (Ad es (.t (Cq u)))],es.hp,es.nx):=by
 have e:∀ t,Vv es (t,none)=some (Cg es.hp (Ad es (.t (Cq t)))):=λ_=>rfl
 unfold Mo
 simp only [Gx,Ud,e,Hd,Ge,Oy,Yv]
theorem Sf(hr:rel f ds=none)(hf:tb f=some ⟨c,[],nt⟩)(hn:ds.length<=nt)
  (h:∀ es,es.hp=hp->es.nx=nx->qF es ds->EW c (Hg tb n rel k) es λe es=>(e=.normal\/e=.ret)/\K (.tup []) es.hp es.nx):KW (Hg tb n rel (k+1)) (.fn f) ds hp nx K:=
 bX hr hf hn λes h1 h2 h3=>(h es h1 h2 h3).mono λ_ es ⟨h4,h5⟩=>⟨h4,_,fe0 es,h5⟩
theorem Es{t:Nat}(hr:rel f ds=none)(hf:tb f=some ⟨c,[(t,none)],nt⟩)(hn:ds.length<=nt)
  (h:∀ es,es.hp=hp->es.nx=nx->qF es ds->EW c (Hg tb n rel k) es λe es=>(e=.normal\/e=.ret)/\K (Cg es.hp (Ad es (.t (Cq t)))) es.hp es.nx):KW (Hg tb n rel (k+1)) (.fn f) ds hp nx K:=
 bX hr hf hn λes h1 h2 h3=>(h es h1 h2 h3).mono λ_ es ⟨h4,h5⟩=>⟨h4,_,fe1 es t,h5⟩
theorem nN{t u:Nat}(hr:rel f ds=none)(hf:tb f=some ⟨c,[(t,none),(u,none)],nt⟩)(hn:ds.length<=nt)
  (h:∀ es,es.hp=hp->es.nx=nx->qF es ds->EW c (Hg tb n rel k) es λe es=>(e=.normal\/e=.ret)/\K (.tup [Cg es.hp (Ad es (.t (Cq t))),Cg es.hp (Ad es (.t (Cq u)))]) es.hp es.nx):KW (Hg tb n rel (k+1)) (.fn f) ds hp nx K:=
 bX hr hf hn λes h1 h2 h3=>(h es h1 h2 h3).mono λ_ es ⟨h4,h5⟩=>⟨h4,_,fe2 es t u,h5⟩
theorem nM{id:Nat}{lp:DLoop}{sl:Tr DV}{es0:ES}(hl:hp.get id=some (.loop lp))(hs:lp.st=.ready)(tH:lp.sl=.t sl)(SB:ds.length=lp.ps.length)(Gy:lp.ps.all (λt=>Nat.blt t lp.nt)=true)(h0:es0=⟨Np lp.ps ds sl,hp,nx⟩)
  (h:EW (Dv n lp.nt true lp.asg) (Hg tb n rel k) es0 λe Ai=>e=.normal/\∃ Sz,Ai.hp.get id=some (.loop Sz)/\Sz.st=.ready/\
   EW (Dv n lp.nt true lp.body) (Hg tb n rel k) ⟨Ai.sl,Ai.hp.set id (some (.loop { Sz with st:=.busy })),Ai.nx⟩ λe Cd=>∃ Ow,Cd.hp.get id=some (.loop Ow)/\
    match e with
    | .normal=>K (.v (.bool true)) (Cd.hp.set id (some (.loop { Ow with st:=.ready,pend:=none }))) Cd.nx
    | .ret=>K (.v (.bool false)) (Cd.hp.set id (some (.loop { Ow with st:=.done,pend:=some .ret }))) Cd.nx
    | .exit i=>K (.v (.bool false)) (Cd.hp.set id (some (.loop { Ow with st:=.done,pend:=some (.exit i) }))) Cd.nx
    | _=>False):KW (Hg tb n rel (k+1)) (.yl id) ds hp nx K:=by
 subst h0
 obtain ⟨e,Ai,h1,rfl,Sz,h2,h3,e2,Cd,h4,Ow,h5,h6⟩:=h
 have key:∀ r,(match Dv n lp.nt true lp.asg (Hg tb n rel k) ⟨Np lp.ps ds sl,hp,nx⟩ with
      | some (.normal,Ai)=>match Ai.hp.get id with
       | some (.loop Sz)=>match Sz.st with
        | .ready=>match Dv n lp.nt true lp.body (Hg tb n rel k) { Ai with hp:=Ai.hp.set id (some (.loop { Sz with st:=.busy })) } with
         | some (e,Cd)=>match Cd.hp.get id with
          | some (.loop Ow)=>match e with
           | .normal=>some (.v (.bool true),Cd.hp.set id (some (.loop { Ow with st:=.ready,pend:=none })),Cd.nx)
           | .ret=>some (.v (.bool false),Cd.hp.set id (some (.loop { Ow with st:=.done,pend:=some .ret })),Cd.nx)
           | .exit i=>some (.v (.bool false),Cd.hp.set id (some (.loop { Ow with st:=.done,pend:=some (.exit i) })),Cd.nx)
           | _=>none
          | _=>none
         | none=>none
        | _=>none
       | _=>none
      | _=>none)=r->Hg tb n rel (k+1) (.yl id) ds hp nx=r:=by
  intro r hr
  show (match hp.get id with
   | some (.loop lp)=>match lp.st,lp.sl with
    | .ready,.t sl=>if ds.length=lp.ps.length/\lp.ps.all (λt=>Nat.blt t lp.nt)=true then
      match Dv n lp.nt true lp.asg (Hg tb n rel k) ⟨Np lp.ps ds sl,hp,nx⟩ with
      | some (.normal,Ai)=>match Ai.hp.get id with
       | some (.loop Sz)=>match Sz.st with
        | .ready=>match Dv n lp.nt true lp.body (Hg tb n rel k) { Ai with hp:=Ai.hp.set id (some (.loop { Sz with st:=.busy })) } with
         | some (e,Cd)=>match Cd.hp.get id with
          | some (.loop Ow)=>match e with
           | .normal=>some (.v (.bool true),Cd.hp.set id (some (.loop { Ow with st:=.ready,pend:=none })),Cd.nx)
           | .ret=>some (.v (.bool false),Cd.hp.set id (some (.loop { Ow with st:=.done,pend:=some .ret })),Cd.nx)
           | .exit i=>some (.v (.bool false),Cd.hp.set id (some (.loop { Ow with st:=.done,pend:=some (.exit i) })),Cd.nx)
           | _=>none
          | _=>none
         | none=>none
        | _=>none
       | _=>none
      | _=>none
     else none
    | _,_=>none
   | _=>none)=r
  rw [hl]
  simp only [hs,tH]
  rw [Af ⟨SB,Gy⟩]
  exact hr
 cases e2 with
 | normal=>exact ⟨_,_,_,key _ (by rw [h1];simp only [h2,h3];rw [h4];simp only [h5]),h6⟩
 | ret=>exact ⟨_,_,_,key _ (by rw [h1];simp only [h2,h3];rw [h4];simp only [h5]),h6⟩
 | exit i=>exact ⟨_,_,_,key _ (by rw [h1];simp only [h2,h3];rw [h4];simp only [h5]),h6⟩
 | _=>exact h6.elim
end
theorem Cg7{nt:Nat}{g:EO}{ps:List Nat}{a b:DC}{call:Bg}{es:ES}{Q:Exit->ES->Prop}{f:Nat}{cs:List DV}(hg:My es g=.fn (.func f) (.tup []::cs))
  (h:KW call (.fn f) (.yl es.nx::cs) (es.hp.set es.nx (some (.loop ⟨nt,.t es.sl,ps,a,b,.ready,none⟩))) (es.nx+1) λ_ hp nx=>∃ lp,hp.get es.nx=some (.loop lp)/\lp.st≠.busy/\
   ((lp.pend=none/\Q .normal ⟨es.sl,hp.set es.nx none,nx⟩)\/(lp.pend=some .ret/\Q .ret ⟨es.sl,hp.set es.nx none,nx⟩)\/∃ i,lp.pend=some (.exit i)/\Q (.exit i) ⟨es.sl,hp.set es.nx none,nx⟩)):EW (cR nt false g ps a b) call es Q:=by
 obtain ⟨d,An,Bm,h1,lp,h2,h3,h4⟩:=h
 have key:∀ r,(match lp.pend with
     | none=>some (Exit.normal,(⟨es.sl,An.set es.nx none,Bm⟩:ES))
     | some .ret=>some (.ret,⟨es.sl,An.set es.nx none,Bm⟩)
     | some (.exit i)=>some (.exit i,⟨es.sl,An.set es.nx none,Bm⟩)
     | _=>none)=r->cR nt false g ps a b call es=r:=by
  intro r hr
  unfold cR
  rw [Ae (by simp),hg]
  simp only [DV.asFn]
  rw [h1]
  simp only [h2]
  cases Ib:lp.st with
  | busy=>exact absurd Ib h3
  | _=>exact hr
 rcases h4 with ⟨h4,h5⟩ | ⟨h4,h5⟩ | ⟨i,h4,h5⟩
 .exact ⟨_,_,key _ (by rw [h4]),h5⟩
 .exact ⟨_,_,key _ (by rw [h4]),h5⟩
 .exact ⟨_,_,key _ (by rw [h4]),h5⟩
end Go.DD

/- The evaluator, read with symbols: regions that draw their order, with guards, calls and new objects; rows of bytes. -/
namespace Go.DD
open Go
section
variable {call:Bg} {n0 m i:Nat} {es:ES} {lo an:List Nat} {ws:List Look} {pp:List Past} {Q:DSt->Prop} {ps:List Pa} {dst:Option Pa}
theorem CR{p:Pa}{b:Bool}{s:Jw} : TW (dG p b dst s) call n0 m ⟨es,lo,ws,pp⟩ Q↔GW (Ad es (.t p)) b (TW s call n0 m ⟨es,lo,ws,pp⟩ Q) (Q ⟨es.putE dst (.v undef),lo,ws,pp⟩):=by
 have key:∀ c,Kk es p b=some c->dG p b dst s call n0 m ⟨es,lo,ws,pp⟩=Bool.rec (motive:=λ_=>Option DSt) (some ⟨es.putE dst (.v undef),lo,ws,pp⟩) (s call n0 m ⟨es,lo,ws,pp⟩) c:=by
  intro c hc
  unfold dG
  show Option.rec (motive:=λ_=>Option DSt) none _ (Kk es p b)=_
  rw [hc];rfl
 constructor
 .rintro ⟨δ',h1,h2⟩
  have h0:∃ c,Kk es p b=some c:=by
   unfold dG at h1
   obtain ⟨c,h3,_⟩:=Jo h1
   exact ⟨c,h3⟩
  obtain ⟨c,hc⟩:=h0
  rw [key c hc] at h1
  rcases Bw7 hc with ⟨t,h3,rfl⟩ | ⟨vs,h3,rfl⟩
  .refine .inl ⟨t,h3,λe=>?_,λe=>?_⟩
   .subst e
    simp only [Ox] at h1
    exact ⟨δ',h1,h2⟩
   .have:(t==b)=false:=by simpa using e
    rw [this] at h1
    cases h1
    exact h2
  .cases h1
   exact .inr ⟨vs,h3,h2⟩
 .rintro (⟨c,h1,h2,h3⟩ | ⟨vs,h1,h2⟩)
  .have hw:Kk es p b=some (c==b):=by unfold Kk;rw [h1];rfl
   by_cases hc:c=b
   .obtain ⟨δ',h4,h5⟩:=h2 hc
    refine ⟨δ',?_,h5⟩
    rw [key _ hw]
    subst hc
    simp only [Ox]
    exact h4
   .have:(c==b)=false:=by simpa using hc
    exact ⟨_,by rw [key _ hw,this],h3 hc⟩
  .have hw:Kk es p b=some false:=by unfold Kk;rw [h1];rfl
   exact ⟨_,by rw [key _ hw],h2⟩
theorem Cp7{s:Nw}(hid:(lo.filter λj=>!an.contains j)=[]):TW (Cx i an s) call n0 m ⟨es,lo,ws,pp⟩ Q↔SW s call es λes'=>es.nx<=es'.nx/\Q ⟨es',[],ws,⟨i,an,es.hp,es'.hp⟩::pp⟩:=by
 have key:Cx i an s call n0 m ⟨es,lo,ws,pp⟩=Option.rec (motive:=λ_=>Option DSt) none (λes'=>Fv (Nat.ble es.nx es'.nx) (some ⟨es',[],ws,⟨i,an,es.hp,es'.hp⟩::pp⟩) none) (s call es):=by
  unfold Cx
  show E1 (lo.filter λj=>!an.contains j) _=_
  rw [UR,hid]
  rfl
 constructor
 .rintro ⟨δ',h1,h2⟩
  rw [key] at h1
  obtain ⟨es',h3,h4⟩:=Jo h1
  obtain ⟨h5,h6⟩:=dZ h4
  cases h6
  exact ⟨es',h3,Ab h5,h2⟩
 .rintro ⟨es',h1,h2,h3⟩
  refine ⟨_,?_,h3⟩
  rw [key,h1]
  show Fv (Nat.ble es.nx es'.nx) _ _=_
  rw [Sq,Af (Nat.ble_eq_true_of_le h2)]
def LW(x:Option (DV×Upd))(K:DV->DObj->Prop):Prop:=∃ d o,x=some (d,.lay o)/\K d o
@[congr] theorem HJ{x x':Option (DV×Upd)}{K:DV->DObj->Prop}(h:x=x'):LW x K=LW x' K:=by rw [h]
def ES.layAt(es:ES)(id:Nat)(o:DObj):ES:=⟨es.sl,Ka es.hp id (some o),es.nx⟩
theorem vz(es:ES)(id:Nat)(o:DObj)(p:Pa):Ad (es.layAt id o) (.t p)=Ad es (.t p):=nr rfl
theorem uf(es:ES)(id:Nat)(o:DObj):(es.layAt id o).hp=Ka es.hp id (some o):=nr rfl
theorem ue(es:ES)(id:Nat)(o:DObj):(es.layAt id o).nx=es.nx:=nr rfl
theorem Cg8{wide c:Bool}{x:XU} : TW (Qa i an wide c dst x ps) call n0 m ⟨es,lo,ws,pp⟩ Q↔LW (x es (n0+i)) λd o=>Q ⟨(es.layAt (n0+i) o).putE dst d,i::lo,Gg i an wide c (refsL es ps) n0 lo ws,pp⟩:=by
 have key:Qa i an wide c dst x ps call n0 m ⟨es,lo,ws,pp⟩=Option.rec (motive:=λ_=>Option DSt) none (λp=>Upd.casesOn (motive:=λ_=>Option DSt) p.2 none
  (λo=>some ⟨(ES.mk es.sl (Ka es.hp (n0+i) (some o)) es.nx).putE dst p.1,i::lo,Gg i an wide c (refsL es ps) n0 lo ws,pp⟩) (λ_ _=>none) (λ_ _=>none)) (x es (n0+i)):=by
  obtain ⟨sl,hp,nx⟩:=es
  unfold Qa DSt.cs ES.cs
  dsimp only
  rw [bM]
 constructor
 .rintro ⟨δ',h1,h2⟩
  rw [key] at h1
  obtain ⟨⟨d,u⟩,h3,h4⟩:=Jo h1
  cases u with
  | lay o=>cases h4;exact ⟨d,o,h3,h2⟩
  | _=>cases h4
 .rintro ⟨d,o,h1,h2⟩
  exact ⟨_,by rw [key,h1];rfl,h2⟩
theorem A1{A B:Prop} : GW (.v (.bool true)) true A B↔A:=by rw [uB];simp
theorem A4{A B:Prop} : GW (.v (.bool false)) false A B↔A:=by rw [uB];simp
theorem A2{A B:Prop} : GW (.v (.bool true)) false A B↔B:=by rw [uB];simp
theorem A3{A B:Prop} : GW (.v (.bool false)) true A B↔B:=by rw [uB];simp
theorem si{A B:Prop} : CW (.v (.bool true)) A B↔A:=by rw [R9];simp
theorem sj{A B:Prop} : CW (.v (.bool false)) A B↔B:=by rw [R9];simp
def Hh(d:DV)(f:Nat->Bool):Prop:=∀ id∈d.refs,f id=true
theorem Bx3(f:Nat->Bool):(Tp (refsL es []) f=true)↔True:=⟨λ_=>trivial,λ_=>rfl⟩
theorem Bk8{α:Type}(l:List α)(f:α->Bool):Tp l f=true↔∀ x∈l,f x=true:=by rw [OX];simp
theorem ym(es:ES)(p:Pa)(ps:List Pa):refsL es (p::ps)=(Ad es (.t p)).refs++refsL es ps:=by
 show Kw (Uz (Ad es (.t p))) (refsL es ps)=_
 rw [dT,AA]
theorem Bk9(p:Pa)(f:Nat->Bool):(Tp (refsL es (p::ps)) f=true)↔Hh (Ad es (.t p)) f/\Tp (refsL es ps) f=true:=by
 rw [ym,Bk8,Bk8]
 simp only [Ax,Hh]
 exact ⟨λh=>⟨λx hx=>h x (.inl hx),λx hx=>h x (.inr hx)⟩,λh x hx=>hx.elim (h.1 x) (h.2 x)⟩
theorem OP{d:DV}{f:Nat->Bool}(h:d.refs=[]):Hh d f↔True:=⟨λ_=>trivial,λ_ id hid=>by rw [h] at hid;cases hid⟩
theorem DU(v:Value)(f:Nat->Bool):Hh (.v v) f↔True:=OP rfl
theorem wF(cs:List DV)(n:Nat)(f:Nat->Bool):Hh (.sl cs n) f↔True:=OP rfl
theorem wK(cs:List DV)(f:Nat->Bool):Hh (.ia cs) f↔True:=OP rfl
theorem wI(id off n e:Nat)(f:Nat->Bool):Hh (.ms id off n e) f↔f id=true:=by simp [Hh,DV.refs]
theorem wH(id off:Nat)(f:Nat->Bool):Hh (.pt id off) f↔f id=true:=by simp [Hh,DV.refs]
theorem wJ(id:Nat)(f:Nat->Bool):Hh (.mp id) f↔f id=true:=by simp [Hh,DV.refs]
theorem rX(hp:Tr DObj)(id:Nat):(Cp n0 m an hp id=true)↔(hp.get id).isSome=true/\(id<n0\/n0+m<=id\/an.contains (id-n0)=true):=by
 unfold Cp
 rw [Sq,qM,Kn,Sq,Sq]
 by_cases h1:(hp.get id).isSome=true
 .by_cases h2:id<n0
  .simp [h1,h2,Kq]
  .by_cases h3:n0+m<=id
   .simp [h1,h3,Oz]
   .simp [h1,h2,h3,Kq,Oz]
 .simp [h1]
theorem Bl0(ws:List Look):Pl n0 m ws []=true:=by
 unfold Pl
 simp
theorem look_nil(wide c:Bool):Gg i an wide c [] n0 lo ws=ws:=by cases wide <;> rfl
theorem eQ{x:XU}{X:XP}(h:∀ es nid,x es nid=Ip (X es))(nid:Nat):Fu x nid es=X es:=by
 unfold Fu
 rw [h]
 unfold Ip
 cases X es <;> rfl
end
theorem Cg9(k:IntKind)(x:Operand)(nid:Nat)(es:ES):Fu (Bi (.cvi k x)) nid es=Xr k (es.ds.ev x):=eQ (X:=λes=>Xr k (es.ds.ev x)) (yS k x) nid
theorem vJ(b:Bool)(x y:Operand)(nid:Nat)(es:ES):Fu (Bi (.mm b x y)) nid es=sY b (es.ds.ev x) (es.ds.ev y):=eQ (X:=λes=>sY b (es.ds.ev x) (es.ds.ev y)) (K9 b x y) nid
def ub(n:Nat):DV:=.v (.int .u8 (n:Int))
def Cb:DV:=.v (.slice none 0 0)
theorem ze{cs:List DV}{i:Nat}{d:DV}(h:cs[i]?=some d):Io none (cs.drop i)=some d:=by
 obtain ⟨hi,rfl⟩:=Aq.1 h
 rw [Bb hi];rfl
theorem lW{a b:Nat}(h:a+b<9223372036854775808):Dm .add (.v (.int .i64 (a:Int))) (.v (.int .i64 (b:Int)))=some (.v (.int .i64 ((a+b:Nat):Int))):=by
 rw [D3,Ej (by omega)];rfl
theorem Hz{a:Nat}(h:a<9000000000000000000):Dm .add (.v (.int .i64 (a:Int))) (.v (.int .i64 1))=some (.v (.int .i64 ((a+1:Nat):Int))):=by
 rw [D3,Ej (by omega)];rfl
theorem C13{a b:Nat}(h:b<=a)(h2:a<9000000000000000000):Dm .sub (.v (.int .i64 (a:Int))) (.v (.int .i64 (b:Int)))=some (.v (.int .i64 ((a-b:Nat):Int))):=by
 rw [Lo,Ej (by omega)]
 congr 3;omega
end Go.DD

/- The evaluator, read with symbols: where simp is to stop; rows that grow; stores. -/
namespace Go.DD
open Go
class Hold (α:Type) where
 val:α
def Na(s:Nw)(call:Bg)(es:ES)[q:Hold (ES->Prop)]:Prop:=SW s call es q.val
def EWs(c:CE)(call:Bg)(es:ES)[q:Hold (Exit->ES->Prop)]:Prop:=EW c call es q.val
def KWs(call:Bg)(tg:Tg)(ds:List DV)(hp:Tr DObj)(nx:Nat)[q:Hold (DV->Tr DObj->Nat->Prop)]:Prop:=KW call tg ds hp nx q.val
def S6(s:Jw)(call:Bg)(n0 m:Nat)(es:ES)(lo:List Nat)(ws:List Look)(pp:List Past)[q:Hold (DSt->Prop)]:Prop:=TW s call n0 m ⟨es,lo,ws,pp⟩ q.val
section
variable {call:Bg} {es:ES} {Q:ES->Prop} {dst:Option Pa} {R:Exit->ES->Prop}
theorem vI{T e b:Nat}{d x:Operand} : SW (sU dst (Bi (.app T e b d x))) call es Q↔@Na (sU dst (Bi (.app T e b d x))) call es ⟨Q⟩:=Dg
theorem vF{T n e:Nat}{z:List Value}{ps:List (Nat×Nat×Operand)} : SW (sU dst (Bi (.bsl T n e z ps))) call es Q↔@Na (sU dst (Bi (.bsl T n e z ps))) call es ⟨Q⟩:=Dg
theorem AZ{n:Nat}{a x:EO} : SW (sU dst (Is n a x)) call es Q↔@Na (sU dst (Is n a x)) call es ⟨Q⟩:=Dg
theorem uX{e:Nat}{x:Operand}{lo hi:Option Operand} : SW (sU dst (Bi (.sli e x lo hi))) call es Q↔@Na (sU dst (Bi (.sli e x lo hi))) call es ⟨Q⟩:=Dg
theorem vH{x:Operand} : SW (sU dst (Bi (.b2s x))) call es Q↔@Na (sU dst (Bi (.b2s x))) call es ⟨Q⟩:=Dg
theorem F8{tb:Option (List (TypeId×FuncId))}{x:EO}{args:List EO} : SW (eA tb x args dst) call es Q↔@Na (eA tb x args dst) call es ⟨Q⟩:=Dg
theorem Ch0{f:Nat}{args:List EO} : SW (Bj f args dst) call es Q↔@KWs call (.fn f) (args.map (Ad es)) es.hp es.nx ⟨λd hp nx=>Q ((ES.mk es.sl hp nx).putE dst d)⟩:=sw_call
theorem z_l{k:Nat}{c:CE} : EW (cL k c) call es R↔@EWs (cL k c) call es ⟨R⟩:=Dg
theorem zy{nt:Nat}{rd:Bool}{g:EO}{ps:List Nat}{a b:DC} : EW (cR nt rd g ps a b) call es R↔@EWs (cR nt rd g ps a b) call es ⟨R⟩:=Dg
end
section
variable {call:Bg} {es:ES} {dst:Option Pa} {q:Hold (ES->Prop)}
theorem lS{a x:EO}{id off T:Nat}{v:DV}{cs:List DV}(ea:Ad es a=.pt id off)(hg:es.hp.get id=some (.row T cs))(ev:My es x=v)(hv:v.okC=true/\v.cells=[v])(M6:off<cs.length)
  (h:∀ An,An.get id=some (.row T (cs.set off v))->(∀ j,j≠id->An.get j=es.hp.get j)->q.val ((ES.mk es.sl An es.nx).putE dst .any)) :
  Na (sU dst (Is 1 a x)) call es:=by
 show SW _ _ _ _
 rw [mH,ea,mL,hg,ev,H4 id off 1 v T cs hv.1 (by rw [hv.2];rfl) (by omega),T7]
 have e:cs.take off++v.cells++cs.drop (off+1)=cs.set off v:=by
  rw [hv.2,List.set_eq_take_append_cons_drop,Af M6];simp
 rw [e]
 exact h (es.up (.wr id (.row T (cs.set off v)))).hp (by rw [Ld,get_set,Af rfl]) λj hj=>by rw [Ld,get_set,Ae hj]
theorem Qx{n:Nat}{a x:EO}{id T:Nat}{ds cs:List DV}(ea:Ad es a=.pt id 0)(hg:es.hp.get id=some (.row T cs))(ev:My es x=.agg ds)(h2:ds.length=n)(h3:cs.length=n)
  (h:∀ An,An.get id=some (.row T ds)->(∀ j,j≠id->An.get j=es.hp.get j)->q.val ((ES.mk es.sl An es.nx).putE dst .any)) :
  Na (sU dst (Is n a x)) call es:=by
 show SW _ _ _ _
 rw [mH,ea,mL,hg,ev,H5 id n ds T cs h2 h3,T7]
 exact h (es.up (.wr id (.row T ds))).hp (by rw [Ld,get_set,Af rfl]) λj hj=>by rw [Ld,get_set,Ae hj]
theorem AG(es:ES)(x:Operand)(n:Int):Ig es.ds n (some x)=Ku (es.ds.ev x):=rfl
theorem UQ(es:ES)(n:Int):Ig es.ds n none=some n:=rfl
end
theorem Ha(es:ES)(p:Pa):My es (.t p)=Cg es.hp (Ad es (.t p)):=nr rfl
theorem bO(id off n e:Nat):(DV.ms id off n e).okC=true/\(DV.ms id off n e).cells=[.ms id off n e]:=⟨rfl,rfl⟩
theorem C14{k:IntKind}{n:Nat}(h:n<256):Xr .u8 (.v (.int k (n:Int)))=some (ub n):=by
 show some (DV.v (.int .u8 (IntKind.u8.wrap (n:Int))))=_
 rw [IntWalk.u8_in _ (by omega)];rfl
theorem Cp8{k:IntKind}{n:Nat}(h:n<9223372036854775808):Xr .i64 (.v (.int k (n:Int)))=some (.v (.int .i64 (n:Int))):=by
 show some (DV.v (.int .i64 (IntKind.i64.wrap (n:Int))))=_
 rw [Ej (by omega)]
theorem mU(es:ES)(d:DV):ES.putE es none d=es:=nr rfl
section
variable {call:Bg} {n0 m i:Nat} {es:ES} {lo an:List Nat} {ws:List Look} {pp:List Past} {Q:DSt->Prop} {q:Hold (DSt->Prop)} {ps:List Pa} {dst:Option Pa}
theorem Ch1{s:Nw} : TW (Cx i an s) call n0 m ⟨es,lo,ws,pp⟩ Q↔@S6 (Cx i an s) call n0 m es lo ws pp ⟨Q⟩:=Dg
theorem vE{wide c:Bool}{x:XU} : TW (Qa i an wide c dst x ps) call n0 m ⟨es,lo,ws,pp⟩ Q↔@S6 (Qa i an wide c dst x ps) call n0 m es lo ws pp ⟨Q⟩:=Dg
theorem Ly{s:Nw}(hid:(lo.filter λj=>!an.contains j)=[])(h : @Na s call es ⟨λes'=>es.nx<=es'.nx/\q.val ⟨es',[],ws,⟨i,an,es.hp,es'.hp⟩::pp⟩⟩):S6 (Cx i an s) call n0 m es lo ws pp:=(Cp7 hid).2 h
theorem Lp{hp:Tr DObj}{id:Nat}{o:DObj}(h:hp.get id=some o)(hl:id<n0):Cp n0 m an hp id=true:=(rX hp id).2 ⟨by rw [h];rfl,.inl hl⟩
theorem kY{hp:Tr DObj}{o:DObj}(h:hp.get (n0+i)=some o)(hc:an.contains i=true):Cp n0 m an hp (n0+i)=true:=(rX hp _).2 ⟨by rw [h];rfl,.inr (.inr (by rw [Vn];exact hc))⟩
theorem qG{hp:Tr DObj}{id T:Nat}{d:DV}(h:hp.get id=some (.row T [d])):Fy hp none (.pt id 0)=some d:=by rw [Qz h];rfl
end
def Fb(hp:Tr DObj)(d:DV)(i:Nat):Option DV:=match d with
 | .tup ds=>match ds[i]? with
  | some (.v v)=>some (.v v)
  | some _=>match Cg hp (.tup ds) with
   | .tup ds=>ds[i]?
   | _=>none
  | none=>none
 | _=>none
theorem BI(p:Pa)(i:Nat)(es:ES):Gd (.t p) i es=Fb es.hp (Ad es (.t p)) i:=by
 have Td:My es (.t p)=Cg es.hp (Ad es (.t p)):=rfl
 have hn:∀ ds:List DV,aF i ds=ds[i]?:=by
  intro ds
  unfold aF
  rw [jB,<- List.head?_drop]
  cases ds.drop i <;> rfl
 unfold Gd Fb
 rw [Td]
 cases Ad es (.t p) with
 | tup ds=>
  show Option.rec (motive:=λ_=>Option DV) none (λd=>vD d (λv=>some (.v v)) (qB (Cg es.hp (.tup ds)) (λds=>aF i ds) none)) (aF i ds)=_
  rw [hn]
  simp only []
  cases ds[i]? with
  | none=>rfl
  | some d=>
   have e:∀ x:DV,qB x (λds=>aF i ds) (none:Option DV)=match x with
    | .tup ds=>ds[i]?
    | _=>none:=by
    intro x
    cases x <;> first | rfl | exact hn _
   cases d <;> first | rfl | exact e _
 | _=>rfl
theorem B81{hp:Tr DObj}{ds:List DV}(h:∀ id∈DV.refsL ds,(hp.get id).isSome=true):Cg hp (.tup ds)=.tup ds:=Wm λid hid=>h id (by rwa [DV.refs] at hid)
theorem E4{hp:Tr DObj}{ds:List DV}{i:Nat}(h:∀ id∈DV.refsL ds,(hp.get id).isSome=true):Fb hp (.tup ds) i=ds[i]?:=by
 unfold Fb
 simp only [B81 h]
 cases ds[i]? with
 | none=>rfl
 | some d=>cases d <;> rfl
theorem Ru{hp:Tr DObj}{d:DV}{v:Value} : Fb hp (.tup [d,.v v]) 1=some (.v v):=nr rfl
theorem A7{hp:Tr DObj}{d:DV}{w v:Value} : Fb hp (.tup [d,.v w,.v v]) 1=some (.v w):=nr rfl
theorem A6{hp:Tr DObj}{d e:DV}{v:Value} : Fb hp (.tup [d,e,.v v]) 2=some (.v v):=nr rfl
theorem p0:Cq 0=.o:=nr rfl
theorem p1:Cq 1=.l .o:=nr rfl
theorem p2:Cq 2=.r .o:=nr rfl
theorem p3:Cq 3=.l (.l .o):=nr rfl
theorem p4:Cq 4=.r (.l .o):=nr rfl
theorem p5:Cq 5=.l (.r .o):=nr rfl
theorem p6:Cq 6=.r (.r .o):=nr rfl
theorem p7:Cq 7=.l (.l (.l .o)):=nr rfl
theorem p8:Cq 8=.r (.l (.l .o)):=nr rfl
theorem p9:Cq 9=.l (.r (.l .o)):=nr rfl
theorem p10:Cq 10=.r (.r (.l .o)):=nr rfl
theorem p11:Cq 11=.l (.l (.r .o)):=nr rfl
theorem p12:Cq 12=.r (.l (.r .o)):=nr rfl
theorem p13:Cq 13=.l (.r (.r .o)):=nr rfl
theorem p14:Cq 14=.r (.r (.r .o)):=nr rfl
theorem p15:Cq 15=.l (.l (.l (.l .o))):=nr rfl
theorem p16:Cq 16=.r (.l (.l (.l .o))):=nr rfl
theorem p17:Cq 17=.l (.r (.l (.l .o))):=nr rfl
theorem p18:Cq 18=.r (.r (.l (.l .o))):=nr rfl
theorem p19:Cq 19=.l (.l (.r (.l .o))):=nr rfl
theorem p20:Cq 20=.r (.l (.r (.l .o))):=nr rfl
theorem p21:Cq 21=.l (.r (.r (.l .o))):=nr rfl
theorem p22:Cq 22=.r (.r (.r (.l .o))):=nr rfl
theorem p23:Cq 23=.l (.l (.l (.r .o))):=nr rfl
theorem p24:Cq 24=.r (.l (.l (.r .o))):=nr rfl
theorem p25:Cq 25=.l (.r (.l (.r .o))):=nr rfl
theorem p26:Cq 26=.r (.r (.l (.r .o))):=nr rfl
theorem p27:Cq 27=.l (.l (.r (.r .o))):=nr rfl
theorem p28:Cq 28=.r (.l (.r (.r .o))):=nr rfl
theorem p29:Cq 29=.l (.r (.r (.r .o))):=nr rfl
theorem p30:Cq 30=.r (.r (.r (.r .o))):=nr rfl
theorem p31:Cq 31=.l (.l (.l (.l (.l .o)))):=nr rfl
theorem p32:Cq 32=.r (.l (.l (.l (.l .o)))):=nr rfl
theorem p33:Cq 33=.l (.r (.l (.l (.l .o)))):=nr rfl
theorem p34:Cq 34=.r (.r (.l (.l (.l .o)))):=nr rfl
theorem p35:Cq 35=.l (.l (.r (.l (.l .o)))):=nr rfl
theorem p36:Cq 36=.r (.l (.r (.l (.l .o)))):=nr rfl
theorem p37:Cq 37=.l (.r (.r (.l (.l .o)))):=nr rfl
theorem p38:Cq 38=.r (.r (.r (.l (.l .o)))):=nr rfl
theorem p39:Cq 39=.l (.l (.l (.r (.l .o)))):=nr rfl
theorem p40:Cq 40=.r (.l (.l (.r (.l .o)))):=nr rfl
theorem p41:Cq 41=.l (.r (.l (.r (.l .o)))):=nr rfl
theorem p42:Cq 42=.r (.r (.l (.r (.l .o)))):=nr rfl
theorem p43:Cq 43=.l (.l (.r (.r (.l .o)))):=nr rfl
theorem p44:Cq 44=.r (.l (.r (.r (.l .o)))):=nr rfl
theorem p45:Cq 45=.l (.r (.r (.r (.l .o)))):=nr rfl
theorem p46:Cq 46=.r (.r (.r (.r (.l .o)))):=nr rfl
theorem p47:Cq 47=.l (.l (.l (.l (.r .o)))):=nr rfl
theorem p48:Cq 48=.r (.l (.l (.l (.r .o)))):=nr rfl
theorem p49:Cq 49=.l (.r (.l (.l (.r .o)))):=nr rfl
theorem p50:Cq 50=.r (.r (.l (.l (.r .o)))):=nr rfl
theorem p51:Cq 51=.l (.l (.r (.l (.r .o)))):=nr rfl
theorem p52:Cq 52=.r (.l (.r (.l (.r .o)))):=nr rfl
theorem p53:Cq 53=.l (.r (.r (.l (.r .o)))):=nr rfl
theorem p54:Cq 54=.r (.r (.r (.l (.r .o)))):=nr rfl
theorem p55:Cq 55=.l (.l (.l (.r (.r .o)))):=nr rfl
theorem p56:Cq 56=.r (.l (.l (.r (.r .o)))):=nr rfl
theorem p57:Cq 57=.l (.r (.l (.r (.r .o)))):=nr rfl
theorem p58:Cq 58=.r (.r (.l (.r (.r .o)))):=nr rfl
theorem p59:Cq 59=.l (.l (.r (.r (.r .o)))):=nr rfl
theorem p60:Cq 60=.r (.l (.r (.r (.r .o)))):=nr rfl
theorem p61:Cq 61=.l (.r (.r (.r (.r .o)))):=nr rfl
theorem p62:Cq 62=.r (.r (.r (.r (.r .o)))):=nr rfl
theorem p63:Cq 63=.l (.l (.l (.l (.l (.l .o))))):=nr rfl
theorem p64:Cq 64=.r (.l (.l (.l (.l (.l .o))))):=nr rfl
theorem p65:Cq 65=.l (.r (.l (.l (.l (.l .o))))):=nr rfl
theorem p66:Cq 66=.r (.r (.l (.l (.l (.l .o))))):=nr rfl
theorem p67:Cq 67=.l (.l (.r (.l (.l (.l .o))))):=nr rfl
theorem p68:Cq 68=.r (.l (.r (.l (.l (.l .o))))):=nr rfl
theorem p69:Cq 69=.l (.r (.r (.l (.l (.l .o))))):=nr rfl
theorem p70:Cq 70=.r (.r (.r (.l (.l (.l .o))))):=nr rfl
theorem p71:Cq 71=.l (.l (.l (.r (.l (.l .o))))):=nr rfl
theorem p72:Cq 72=.r (.l (.l (.r (.l (.l .o))))):=nr rfl
theorem p73:Cq 73=.l (.r (.l (.r (.l (.l .o))))):=nr rfl
theorem p74:Cq 74=.r (.r (.l (.r (.l (.l .o))))):=nr rfl
theorem p75:Cq 75=.l (.l (.r (.r (.l (.l .o))))):=nr rfl
theorem p76:Cq 76=.r (.l (.r (.r (.l (.l .o))))):=nr rfl
theorem p77:Cq 77=.l (.r (.r (.r (.l (.l .o))))):=nr rfl
theorem p78:Cq 78=.r (.r (.r (.r (.l (.l .o))))):=nr rfl
theorem p79:Cq 79=.l (.l (.l (.l (.r (.l .o))))):=nr rfl
theorem p80:Cq 80=.r (.l (.l (.l (.r (.l .o))))):=nr rfl
theorem p81:Cq 81=.l (.r (.l (.l (.r (.l .o))))):=nr rfl
theorem p82:Cq 82=.r (.r (.l (.l (.r (.l .o))))):=nr rfl
theorem p83:Cq 83=.l (.l (.r (.l (.r (.l .o))))):=nr rfl
theorem p84:Cq 84=.r (.l (.r (.l (.r (.l .o))))):=nr rfl
theorem p85:Cq 85=.l (.r (.r (.l (.r (.l .o))))):=nr rfl
theorem p86:Cq 86=.r (.r (.r (.l (.r (.l .o))))):=nr rfl
theorem p87:Cq 87=.l (.l (.l (.r (.r (.l .o))))):=nr rfl
theorem p88:Cq 88=.r (.l (.l (.r (.r (.l .o))))):=nr rfl
theorem p89:Cq 89=.l (.r (.l (.r (.r (.l .o))))):=nr rfl
theorem p90:Cq 90=.r (.r (.l (.r (.r (.l .o))))):=nr rfl
theorem p91:Cq 91=.l (.l (.r (.r (.r (.l .o))))):=nr rfl
theorem p92:Cq 92=.r (.l (.r (.r (.r (.l .o))))):=nr rfl
theorem p93:Cq 93=.l (.r (.r (.r (.r (.l .o))))):=nr rfl
theorem p94:Cq 94=.r (.r (.r (.r (.r (.l .o))))):=nr rfl
theorem p95:Cq 95=.l (.l (.l (.l (.l (.r .o))))):=nr rfl
theorem p96:Cq 96=.r (.l (.l (.l (.l (.r .o))))):=nr rfl
theorem p97:Cq 97=.l (.r (.l (.l (.l (.r .o))))):=nr rfl
theorem p98:Cq 98=.r (.r (.l (.l (.l (.r .o))))):=nr rfl
theorem p99:Cq 99=.l (.l (.r (.l (.l (.r .o))))):=nr rfl
end Go.DD

/- The evaluator, read with symbols: calls of function values and of rounds; what a drawn region has looked at. -/
namespace Go.DD
open Go
section
variable {call:Bg} {es:ES} {dst:Option Pa} {q:Hold (ES->Prop)}
theorem Uy{f:Nat}{args:List EO}(h:KW call (.fn f) (args.map (Ad es)) es.hp es.nx λd hp nx=>q.val ((ES.mk es.sl hp nx).putE dst d)):Na (Bj f args dst) call es:=sw_call.2 h
theorem doc{tg:Tg}{ds:List DV}(h:KW call tg ds es.hp es.nx λd hp nx=>q.val ((ES.mk es.sl hp nx).putE dst d)):SW (gH tg ds dst) call es q.val:=by
 obtain ⟨d,An,Bm,h1,h2⟩:=h
 refine ⟨_,?_,h2⟩
 unfold gH
 rw [h1];rfl
theorem mG{p:Pa}{args:List EO}{L:Nat}{o:DObj}(h0:Ad es (.t p)=.yl L)(hL:es.hp.get L=some o)(h:KW call (.yl L) (args.map (Ad es)) es.hp es.nx λd hp nx=>q.val ((ES.mk es.sl hp nx).putE dst d)):Na (eA none (.t p) args dst) call es:=by
 have he:My es (.t p)=.yl L:=by
  rw [Ha,h0]
  exact Wm λi hi=>by
   have:i=L:=by simpa [DV.refs] using hi
   rw [this,hL];rfl
 obtain ⟨es',h1,h2⟩:=doc h
 refine ⟨es',?_,h2⟩
 unfold eA
 rw [he]
 have e:Zk es args=args.map (Ad es):=by unfold Zk;rw [qL]
 show gH (.yl L) (Zk es args) dst call es=_
 rw [e];exact h1
theorem gI{p:Pa}{args:List EO}{f:Nat}{fs cs:List DV}(h0:My es (.t p)=.fn (.func f) (.tup fs::cs))(h:KW call (.fn f) (fs++(args.map (Ad es)++cs)) es.hp es.nx λd hp nx=>q.val ((ES.mk es.sl hp nx).putE dst d)):Na (eA none (.t p) args dst) call es:=by
 obtain ⟨es',h1,h2⟩:=doc h
 refine ⟨es',?_,h2⟩
 unfold eA
 rw [h0]
 have e:Zk es args=args.map (Ad es):=by unfold Zk;rw [qL]
 show gH (.fn f) (Kw fs (Kw (Zk es args) cs)) dst call es=_
 rw [e,dT,dT];exact h1
end
section
variable {call:Bg} {es:ES} {dst:Option Pa} {q:Hold (ES->Prop)} {Q:ES->Prop}
theorem BD{T:TypeId}{z:List DV} : SW (sU dst (Qe T z)) call es Q↔@Na (sU dst (Qe T z)) call es ⟨Q⟩:=Dg
theorem BC{T:TypeId}{x:EO} : SW (sU dst (Nx T x)) call es Q↔@Na (sU dst (Nx T x)) call es ⟨Q⟩:=Dg
theorem Rz{T:TypeId}{z:List DV}(h:∀ An,An.get es.nx=some (.row T z)->(∀ j,j≠es.nx->An.get j=es.hp.get j)->q.val ((ES.mk es.sl An (es.nx+1)).putE dst (.pt es.nx 0))):Na (sU dst (Qe T z)) call es:=
 sw_al.2 (h (es.up (.lay (.row T z))).hp (by rw [Zu,get_set,Af rfl]) λj hj=>by rw [Zu,get_set,Ae hj])
theorem AV{T:TypeId}{x:EO}{v:DV}(hv:My es x=v)(hk:v.okC=true/\v.cells=[v])(h:∀ An,An.get es.nx=some (.row T [v])->(∀ j,j≠es.nx->An.get j=es.hp.get j)->q.val ((ES.mk es.sl An (es.nx+1)).putE dst (.pt es.nx 0))):Na (sU dst (Nx T x)) call es:=by
 refine sw_bx.2 ⟨.pt es.nx 0,.lay (.row T [v]),?_,h (es.up (.lay (.row T [v]))).hp (by rw [Zu,get_set,Af rfl]) λj hj=>by rw [Zu,get_set,Ae hj]⟩
 unfold S1
 rw [hv,Af hk.1,hk.2]
theorem vC:SW (sU dst (Bi .mkm)) call es Q↔@Na (sU dst (Bi .mkm)) call es ⟨Q⟩:=Dg
theorem Bx4(h:∀ An,An.get es.nx=some (.mapo 0 [])->(∀ j,j≠es.nx->An.get j=es.hp.get j)->q.val ((ES.mk es.sl An (es.nx+1)).putE dst (.mp es.nx))):Na (sU dst (Bi .mkm)) call es:=
 sw_u.2 ⟨.mp es.nx,.lay (.mapo 0 []),rfl,h (es.up (.lay (.mapo 0 []))).hp (by rw [Zu,get_set,Af rfl]) λj hj=>by rw [Zu,get_set,Ae hj]⟩
end
theorem yk{f:DV->DV->Bool} : ∀ {l:List DV},(∀ c∈l,f c c=true)->Je f l l=true
 | [],_=>rfl
 | a::l,h=>by
  show (f a a&&Je f l l)=true
  rw [h a (Ct ..),yk λc hc=>h c (Bh _ hc)];rfl
theorem C15(n:Nat)(k:IntKind)(x:Int):Nk (n+1) (.v (.int k x)) (.v (.int k x))=true:=by simp [Nk,Qh]
theorem PR{H H':Tr DObj}{id:Nat}{T:TypeId}{cs:List DV}(h:H.get id=some (.row T cs))(he:H'.get id=H.get id)(hc:∀ c∈cs,Nk 6 c c=true):sameAt H H' id=true:=by
 unfold sameAt
 rw [he,h]
 show (T==T&&Je (Nk 6) cs cs)=true
 rw [yk hc];simp
section
variable {n0 m i:Nat} {an refs lo:List Nat} {c:Bool} {ws:List Look} {ps:List Past}
theorem okl_cons{w:Look} : Pl n0 m (w::ws) ps=true↔(∀ p∈ps,(w.an.contains p.q||p.an.contains w.i||(if Nat.blt w.id n0||Nat.ble (n0+m) w.id then (if w.c then sameAt p.a p.b w.id else rL p.a p.b w.id) else w.own && !p.an.contains (w.id-n0)))=true)/\Pl n0 m ws ps=true:=by
 unfold Pl
 rw [List.all_cons,Bo,Bd]
theorem rT(h:∀ id∈refs,id<n0/\∀ p∈ps,p.an.contains i=true\/an.contains p.q=true\/(if c=true then sameAt p.a p.b id=true else rL p.a p.b id=true))(h2:Pl n0 m ws ps=true):Pl n0 m (Gg i an true c refs n0 lo ws) ps=true:=by
 have e:Gg i an true c refs n0 lo ws=(refs.map λid=>⟨i,an,id,lo.contains (id-n0),c⟩)++ws:=by
  show Kw (bT _ refs) ws=_
  rw [dT,qL]
 rw [e]
 clear e
 induction refs with
 | nil=>exact h2
 | cons id refs ih=>
  rw [Am,Iz,okl_cons]
  refine ⟨λp hp=>?_,ih λid hid=>h id (Bh _ hid)⟩
  obtain ⟨h3,h4⟩:=h id (Ct ..)
  simp only
  have hb:(Nat.blt id n0||Nat.ble (n0+m) id)=true:=by
   rw [Ii];exact .inl (by simpa [Kq] using h3)
  rw [Af hb]
  rcases h4 p hp with h | h | h
  .rw [h];simp
  .rw [h];simp
  .cases c with
   | true=>simp only [Gl] at h;simp [h]
   | false=>simp at h;simp [h]
end
end Go.DD

/- The evaluator, read with symbols: rows of integers; maps of numbers. -/
namespace Go.DD
open Go
section
variable {call:Bg} {es:ES} {dst:Option Pa} {q:Hold (ES->Prop)} {n0 m i:Nat} {lo an:List Nat} {ws:List Look} {pp:List Past} {r:Hold (DSt->Prop)} {ps:List Pa}
def Ql(hp:Tr DObj)(kd:KD)(z:Value)(x k:DV):Option DV:=match Vx k with
 | some kv=>if iX kd kv=true then (match x with
  | .v (.map none)=>some (Gm false (.v z) false)
  | .mp id=>match hp.get id with
   | some (.mapo _ es)=>match findD kd kv es 0 with
    | some (some p)=>some (Gm false p.2.v true)
    | some none=>some (Gm false (.v z) false)
    | none=>none
   | _=>none
  | _=>none) else none
 | none=>none
theorem Ch2(kd:KD)(z:Value)(x k:Operand)(nid:Nat)(es:ES):Fu (Bi (.lkp kd z x k false)) nid es=Ql es.hp kd z (es.ds.ev x) (es.ds.ev k):=by
 refine eQ (X:=λes=>Ql es.hp kd z (es.ds.ev x) (es.ds.ev k)) (λes nid=>?_) nid
 rw [Ft]
 simp only [Ba,Ql]
 cases Vx (es.ds.ev k) with
 | none=>rfl
 | some kv=>
  simp only []
  by_cases hk:iX kd kv=true
  .rw [Af hk,Af hk]
   cases es.ds.ev x with
   | v a=>
    cases a with
    | map a=>cases a <;> rfl
    | _=>rfl
   | mp id=>
    show (match es.hp.get id with
     | some (.mapo _ es)=>match findD kd kv es 0 with
      | some (some p)=>some (Gm false p.2.v true,Upd.keep)
      | some none=>some (Gm false (.v z) false,.keep)
      | none=>none
     | _=>none)=Ip (match es.hp.get id with
     | some (.mapo _ es)=>match findD kd kv es 0 with
      | some (some p)=>some (Gm false p.2.v true)
      | some none=>some (Gm false (.v z) false)
      | none=>none
     | _=>none)
    cases es.hp.get id with
    | none=>rfl
    | some o=>
     cases o with
     | mapo c l=>
      simp only []
      cases findD kd kv l 0 with
      | none=>rfl
      | some r=>cases r <;> rfl
     | _=>rfl
   | _=>rfl
  .rw [Ae hk,Ae hk];rfl
end
section
variable {call:Bg} {es:ES} {dst:Option Pa} {q:Hold (ES->Prop)}
theorem T3{p:Pa}{args:List EO}{f:Nat}{fs cs:List DV}(h0:My es (.t p)=.fn (.func f) (.tup fs::cs))(h:KW call (.fn f) (fs++(args.map (Ad es)++cs)) es.hp es.nx λd hp nx=>q.val ((ES.mk es.sl hp nx).putE dst d)):Na (jF none (.t p) args dst) call es:=by
 obtain ⟨es',h1,h2⟩:=doc h
 refine ⟨es',?_,h2⟩
 unfold jF
 rw [h0]
 have e:Zk es args=args.map (Ad es):=by unfold Zk;rw [qL]
 show gH (.fn f) (Kw fs (Kw (Zk es args) cs)) dst call es=_
 rw [e,dT,dT];exact h1
end
theorem Yu(f:Nat)(id off:Nat)(g:Nat->Bool):Hh (.fn (.func f) [.tup [],.pt id off]) g↔g id=true:=by simp [Hh,DV.refs,DV.refsL]
theorem UF{hp:Tr DObj}{f id off:Nat}{o:DObj}(h:hp.get id=some o):Cg hp (.fn (.func f) [.tup [],.pt id off])=.fn (.func f) [.tup [],.pt id off]:=Wm λi hi=>by
 have:i=id:=by simpa [DV.refs,DV.refsL] using hi
 rw [this,h];rfl
end Go.DD

/- The evaluator, read with symbols: bytes as strings; empty slices; numbers that are turned and divided. -/
namespace Go.DD
open Go
section
variable {call:Bg} {es:ES} {dst:Option Pa} {q:Hold (ES->Prop)}
end
end Go.DD

/- The evaluator, read with symbols: records and rows of them; the test for nil. -/
namespace Go.DD
open Go
section
variable {call:Bg} {es:ES} {dst:Option Pa} {q:Hold (ES->Prop)} {Q:ES->Prop}
theorem vG{z:List Value}{ps:List (Nat×Nat×Operand)} : SW (sU dst (Bi (.bld z ps))) call es Q↔@Na (sU dst (Bi (.bld z ps))) call es ⟨Q⟩:=Dg
theorem uY{k:Nat}{neg:Bool}{x y:Operand} : SW (sU dst (Bi (.nilq k neg x y))) call es Q↔@Na (sU dst (Bi (.nilq k neg x y))) call es ⟨Q⟩:=Dg
theorem OS{z:List Value}{ps:List (Nat×Nat×Operand)}{cs:List DV}(hf:Ho (z.map .v) (ps.map λp=>(p.1,p.2.1,es.ds.ev p.2.2))=some cs)(h:q.val (es.putE dst (.agg cs))):Na (sU dst (Bi (.bld z ps))) call es:=by
 show SW _ _ _ _
 rw [sw_u,Ft]
 refine ⟨.agg cs,.keep,?_,h⟩
 simp only [Ba,hf]
theorem eM{k:Nat}{neg:Bool}{x y:Operand}(b:Bool)(hx:isNil k (es.ds.ev x)=some b)(hy:isNil k (es.ds.ev y)=some true)(h:q.val (es.putE dst (.v (.bool (xor neg b))))):Na (sU dst (Bi (.nilq k neg x y))) call es:=by
 show SW _ _ _ _
 rw [sw_u,Ft]
 refine ⟨.v (.bool (xor neg b)),.keep,?_,h⟩
 cases b <;> simp only [Ba,hx,hy]
end
end Go.DD

/- The evaluator, read with symbols: parts of slices in regions that draw their order; new rows of bytes; copies. -/
namespace Go.DD
open Go
def gB(n:Int):Option DV->Option Int
 | none=>some n
 | some d=>Ku d
theorem C16(es:ES)(n:Int)(o:Option Operand):Ig es.ds n o=gB n (o.map es.ds.ev):=by cases o <;> rfl
def sliE(e:Nat)(x:DV)(lo hi:Option DV):Option DV:=match x with
 | .sl cs n=>match gB 0 lo,gB n hi with
  | some l,some h=>if 0<=l/\l<=h/\h<=n then some (.sl ((cs.drop (l.toNat*e)).take ((h.toNat-l.toNat)*e)) (h.toNat-l.toNat)) else none
  | _,_=>none
 | .ms id off n e'=>match gB 0 lo,gB n hi with
  | some l,some h=>if e'=e/\0<=l/\l<=h/\h<=n then some (if l<h\/l=0 then .ms id (off+l.toNat*e) (h.toNat-l.toNat) e else .sl [] 0) else none
  | _,_=>none
 | .v (.slice none 0 0)=>match gB 0 lo,gB 0 hi with
  | some l,some h=>if l=0/\h=0 then some (.v (.slice none 0 0)) else none
  | _,_=>none
 | _=>none
theorem C17(e:Nat)(x:Operand)(lo hi:Option Operand)(nid:Nat)(es:ES):Fu (Bi (.sli e x lo hi)) nid es=sliE e (es.ds.ev x) (lo.map es.ds.ev) (hi.map es.ds.ev):=by
 refine eQ (X:=λes=>sliE e (es.ds.ev x) (lo.map es.ds.ev) (hi.map es.ds.ev)) (λes nid=>?_) nid
 rw [Ft]
 simp only [Ba,sliE,C16]
 cases es.ds.ev x with
 | sl cs n=>
  simp only
  cases gB 0 (lo.map es.ds.ev) with
  | none=>rfl
  | some l=>
   cases gB n (hi.map es.ds.ev) with
   | none=>rfl
   | some h=>simp only;split <;> rfl
 | ms id off n e'=>
  simp only
  cases gB 0 (lo.map es.ds.ev) with
  | none=>rfl
  | some l=>
   cases gB n (hi.map es.ds.ev) with
   | none=>rfl
   | some h=>simp only;split <;> rfl
 | v a=>
  cases a with
  | slice a n c=>
   cases a with
   | none=>
    cases n with
    | zero=>
     cases c with
     | zero=>
      simp only
      cases gB 0 (lo.map es.ds.ev) with
      | none=>rfl
      | some l=>
       cases gB 0 (hi.map es.ds.ev) with
       | none=>rfl
       | some h=>simp only;split <;> rfl
     | succ c=>rfl
    | succ n=>rfl
   | some a=>rfl
  | _=>rfl
 | _=>rfl
section
variable {call:Bg} {es:ES} {dst:Option Pa} {q:Hold (ES->Prop)} {Q:ES->Prop}
end
theorem Cp9{k:IntKind}{n:Nat}(h:n<9223372036854775808):Xr .u64 (.v (.int k (n:Int)))=some (.v (.int .u64 (n:Int))):=by
 show some (DV.v (.int .u64 (IntKind.u64.wrap (n:Int))))=_
 rw [IntWalk.u64_in _ (by omega)]
end Go.DD

/- The evaluator, read with symbols: bytes as strings in regions that draw their order; when strings of bytes are equal. -/
namespace Go.DD
open Go
end Go.DD

/- The evaluator, read with symbols: lists of records, as content or as own rows. -/
namespace Go.DD
open Go
section
variable {α:Type} {f:α->List DV} {e:Nat}
theorem Ba7(hf:∀ x,(f x).length=e):∀ (l:List α) (i:Nat),(l.flatMap f).drop (i*e)=(l.drop i).flatMap f
 | [],i=>by simp
 | a::l,0=>by simp
 | a::l,i+1=>by
  rw [Nm,List.drop_succ_cons,<- Ba7 hf l i,List.drop_append,hf,Dq,Mt,Jl,Wq (by rw [hf];omega),By]
theorem Ba8(hf:∀ x,(f x).length=e):∀ (l:List α) (i:Nat),(l.flatMap f).take (i*e)=(l.take i).flatMap f
 | [],i=>by simp
 | a::l,0=>by simp
 | a::l,i+1=>by
  rw [Nm,List.take_succ_cons,Nm,<- Ba8 hf l i,List.take_append,hf,Dq,Mt,Jl,Bq (by rw [hf];omega)]
end
def Bz(e:Nat):DV->Nat->DV
 | .sl cs _,i=>.ia (cs.drop (i*e))
 | .ms id off _ _,i=>.pt id (off+i*e)
 | _,_=>.any
def Fx:DV->Nat->DV
 | .ia cs,k=>.ia (cs.drop k)
 | .pt id off,k=>.pt id (off+k)
 | _,_=>.any
section
variable {α:Type} {T e:Nat} {f:α->List DV} {hp An:Tr DObj} {d:DV} {l:List α}
end
section
variable {α:Type} {T e:Nat} {f:α->List DV} {call:Bg} {es:ES} {dst:Option Pa} {q:Hold (ES->Prop)}
end
end Go.DD

/- The evaluator, read with symbols: small rules. -/
namespace Go.DD
open Go
abbrev iv(n:Int):DV:=.v (.int .i64 n)
abbrev bv(b:Bool):DV:=.v (.bool b)
abbrev sv(s:ByteArray):DV:=.v (.string s)
theorem vy(hp:Tr DObj)(s:ByteArray):Cg hp (sv s)=sv s:=Sa hp _
section
variable {call:Bg} {es:ES} {dst:Option Pa} {q:Hold (ES->Prop)} {Q:ES->Prop}
theorem Fh{tg:Tg}{ds:List DV}{hp:Tr DObj}{nx:Nat}{q:Hold (DV->Tr DObj->Nat->Prop)}(h:KW call tg ds hp nx q.val):KWs call tg ds hp nx:=h
theorem Xv{T:TypeId}{x:EO}{cs:List DV}(hv:My es x=.agg cs)(h:∀ An,An.get es.nx=some (.row T cs)->(∀ j,j≠es.nx->An.get j=es.hp.get j)->q.val ((ES.mk es.sl An (es.nx+1)).putE dst (.pt es.nx 0))):Na (sU dst (Nx T x)) call es:=by
 refine sw_bx.2 ⟨.pt es.nx 0,.lay (.row T cs),?_,h (es.up (.lay (.row T cs))).hp (by rw [Zu,get_set,Af rfl]) λj hj=>by rw [Zu,get_set,Ae hj]⟩
 unfold S1
 rw [hv]
 rfl
end
def Rng(n n':Nat)(d:DV):Prop:=∀ id∈d.refs,n<=id/\id<n'
theorem Rng.nil(n n':Nat):Rng n n' Cb:=λ_ h=>by cases h
theorem Rng.ms{n n' id off m e:Nat}(h1:n<=id)(h2:id<n'):Rng n n' (.ms id off m e):=λj hj=>by
 have:j=id:=by simpa [DV.refs] using hj
 subst this;exact ⟨h1,h2⟩
theorem Ch3(k:IntKind)(a b:Int):Dm .eql (.v (.int k a)) (.v (.int k b))=some (.v (.bool (decide (a=b)))):=by rw [NT];rfl
theorem Ch4(k:IntKind)(a b:Int):Dm .neq (.v (.int k a)) (.v (.int k b))=some (.v (.bool (decide (a≠b)))):=by
 rw [NS]
 by_cases h:a=b
 .subst h;simp
 .have:(a != b)=true:=by simp [h]
  rw [this,Ak h]
theorem ud{k:IntKind}{a b:Nat}(h:b≠0):Dm .rem (.v (.int k (a:Int))) (.v (.int k (b:Int)))=some (.v (.int k ((a % b:Nat):Int))):=by
 have e:(a:Int).tmod (b:Int)=((a % b:Nat):Int):=rfl
 have hb:¬ (b:Int)=0:=by omega
 have e2:Qp .rem k (a:Int) (b:Int)=some (.int k ((a % b:Nat):Int)):=by
  unfold Qp
  simp only
  rw [Ae hb,e]
 simp only [Dm,Nv,Qm]
 simp [e2]
end Go.DD

/- What values read as, by a type's layout, in any heap. -/
namespace Go.DD
open Go
structure Rep (α:Type) where
 e:Nat
 T:Nat
 dep:Nat
 rd:Tr DObj->(Nat->Prop)->List DV->α->Prop
 cells:α->List DV
 e0:0<e
 d6:dep<=6
 len:∀ {hp p ds x},rd hp p ds x->ds.length=e
 keep:∀ {hp An p ds x},rd hp p ds x->(∀ j,p j->An.get j=hp.get j)->rd An p ds x
 mono:∀ {hp p q ds x},rd hp p ds x->(∀ j,p j->q j)->rd hp q ds x
 refs:∀ {hp p ds x},rd hp p ds x->∀ id∈DV.refsL ds,p id/\(hp.get id).isSome=true
 pure:∀ hp p x,rd hp p (cells x) x
 ok:∀ {hp p ds x},rd hp p ds x->∀ c∈ds,c.okC=true/\c.cells=[c]
 same:∀ {hp p ds x},rd hp p ds x->∀ c∈ds,∀ n,dep<=n->Nk n c c=true
 samec:∀ x,∀ c∈cells x,∀ n,dep<=n->Nk n c c=true
section
variable {α:Type} {R:Rep α} {hp An:Tr DObj} {p q:Nat->Prop} {d:DV} {l m:List α}
def Rows(R:Rep α)(hp:Tr DObj)(p:Nat->Prop):List DV->List α->Prop
 | ds,[]=>ds=[]
 | ds,x::l=>∃ a b,ds=a++b/\R.rd hp p a x/\Rows R hp p b l
theorem Rows.len:∀ {l:List α} {ds:List DV},Rows R hp p ds l->ds.length=l.length*R.e
 | [],ds,h=>by cases h;simp
 | x::l,ds,⟨a,b,e,h1,h2⟩=>by rw [e,Ao,R.len h1,Rows.len h2,Ec,Dq,Mt,Wo]
theorem Rows.keep:∀ {l:List α} {ds:List DV},Rows R hp p ds l->(∀ j,p j->An.get j=hp.get j)->Rows R An p ds l
 | [],_,h,_=>h
 | _::_,_,⟨a,b,e,h1,h2⟩,hk=>⟨a,b,e,R.keep h1 hk,h2.keep hk⟩
theorem Rows.mono:∀ {l:List α} {ds:List DV},Rows R hp p ds l->(∀ j,p j->q j)->Rows R hp q ds l
 | [],_,h,_=>h
 | _::_,_,⟨a,b,e,h1,h2⟩,hk=>⟨a,b,e,R.mono h1 hk,h2.mono hk⟩
theorem Ba9:∀ (a b:List DV),DV.refsL (a++b)=DV.refsL a++DV.refsL b
 | [],b=>rfl
 | c::a,b=>by simp only [Iz,DV.refsL,Ba9 a b,Bv]
theorem Rows.pure(hp:Tr DObj)(p:Nat->Prop):∀ l:List α,Rows R hp p (l.flatMap R.cells) l
 | []=>rfl
 | x::l=>⟨R.cells x,l.flatMap R.cells,rfl,R.pure hp p x,Rows.pure hp p l⟩
theorem Rows.app:∀ {l m:List α} {a b:List DV},Rows R hp p a l->Rows R hp p b m->Rows R hp p (a++b) (l++m)
 | [],_,_,_,h,h2=>by cases h;exact h2
 | _::_,_,_,b,⟨a1,b1,e,h1,h3⟩,h2=>⟨a1,b1++b,by rw [e,Bv],h1,h3.app h2⟩
theorem Rows.one{ds:List DV}{x:α}(h:R.rd hp p ds x):Rows R hp p ds [x]:=⟨ds,[],by simp,h,rfl⟩
theorem Rows.drop:∀ {l:List α} {ds:List DV} (i:Nat),Rows R hp p ds l->Rows R hp p (ds.drop (i*R.e)) (l.drop i)
 | [],ds,i,h=>by cases h;simp [Rows]
 | _::_,_,0,h=>by simpa using h
 | _::l,_,i+1,⟨a,b,e,h1,h2⟩=>by
  subst e
  rw [List.drop_succ_cons,List.drop_append,R.len h1,Wq (by rw [R.len h1,Dq];omega),Dq,Mt,Jl,By]
  exact h2.drop i
theorem Rows.take:∀ {l:List α} {ds:List DV} (i:Nat),Rows R hp p ds l->Rows R hp p (ds.take (i*R.e)) (l.take i)
 | [],ds,i,h=>by cases h;simp [Rows]
 | _::_,_,0,h=>by simp [Rows]
 | _::l,_,i+1,⟨a,b,e,h1,h2⟩=>by
  subst e
  rw [List.take_succ_cons,List.take_append,R.len h1,Bq (by rw [R.len h1,Dq];omega),Dq,Mt,Jl]
  exact ⟨a,_,rfl,h1,h2.take i⟩
theorem Rows.at{ds:List DV}(h:Rows R hp p ds l){i:Nat}(hi:i<l.length):∃ rest,ds.drop (i*R.e)=((ds.drop (i*R.e)).take R.e)++rest/\R.rd hp p ((ds.drop (i*R.e)).take R.e) l[i]:=by
 have h1:=h.drop i
 rw [Bb hi] at h1
 obtain ⟨a,b,e,h2,h3⟩:=h1
 have e2:(ds.drop (i*R.e)).take R.e=a:=by rw [e,List.take_left' (R.len h2)]
 exact ⟨b,by rw [e2,e],by rw [e2];exact h2⟩
theorem Rows.same:∀ {l:List α} {ds:List DV},Rows R hp p ds l->∀ c∈ds,∀ n,R.dep<=n->Nk n c c=true
 | [],_,h,c,hc=>by cases h;cases hc
 | _::_,_,⟨a,b,e,h1,h2⟩,c,hc=>by
  subst e
  rcases Ax.1 hc with hc | hc
  .exact R.same h1 c hc
  .exact h2.same c hc
inductive RL (R:Rep α) (hp:Tr DObj) (p:Nat->Prop):DV->List α->Prop where
 | nil:RL R hp p Cb []
 | sl (l:List α):RL R hp p (.sl (l.flatMap R.cells) l.length) l
 | ms (id off:Nat) (fl:List DV) (l:List α) (h:hp.get id=some (.row R.T fl)) (hid:p id) (hl:off+l.length*R.e<=fl.length) (hr:Rows R hp p ((fl.drop off).take (l.length*R.e)) l) (hs:∀ c∈fl,Nk 6 c c=true):RL R hp p (.ms id off l.length R.e) l
inductive OL (R:Rep α) (hp:Tr DObj) (p:Nat->Prop):DV->List α->Prop where
 | nil:OL R hp p Cb []
 | ms (id:Nat) (fl:List DV) (l:List α) (h:hp.get id=some (.row R.T fl)) (hr:Rows R hp p fl l):OL R hp p (.ms id 0 l.length R.e) l
theorem RL.keep(h:RL R hp p d l)(hk:∀ j,p j->An.get j=hp.get j):RL R An p d l:=by
 cases h with
 | nil=>exact .nil
 | sl=>exact .sl _
 | ms id off fl l h hid hl hr hs=>exact .ms id off fl l ((hk id hid).trans h) hid hl (hr.keep hk) hs
theorem RL.mono(h:RL R hp p d l)(hk:∀ j,p j->q j):RL R hp q d l:=by
 cases h with
 | nil=>exact .nil
 | sl=>exact .sl _
 | ms id off fl l h hid hl hr hs=>exact .ms id off fl l h (hk id hid) hl (hr.mono hk) hs
theorem RL.refs(h:RL R hp p d l):∀ id∈d.refs,p id/\(hp.get id).isSome=true:=by
 cases h with
 | nil=>intro id h;cases h
 | sl=>intro id h;cases h
 | ms id off fl l h hid hl hr hs=>
  intro j hj
  have:j=id:=by simpa [DV.refs] using hj
  rw [this,h];exact ⟨hid,rfl⟩
theorem RL.live(h:RL R hp p d l):Cg hp d=d:=Wm λid hid=>(h.refs id hid).2
theorem RL.ok(h:RL R hp p d l):d.okC=true/\d.cells=[d]:=by cases h <;> exact ⟨rfl,rfl⟩
theorem RL.len(h:RL R hp p d l):Oc hp d=some (.v (.int .i64 (l.length:Int))):=by
 cases h with
 | nil=>rfl
 | sl=>rfl
 | ms id off fl l h hid hl hr hs=>
  show (if lR hp id=true then _ else none)=_
  rw [Af (by unfold lR;rw [h];rfl)]
theorem RL.ia(h:RL R hp p d l){i:Nat}(hi:i<l.length):Qu hp R.e d (.v (.int .i64 (i:Int)))=some (Bz R.e d i):=by
 cases h with
 | nil=>simp at hi
 | sl=>
  show (if 0<=(i:Int)/\(i:Int)<(l.length:Int) then some (DV.ia ((l.flatMap R.cells).drop ((i:Int).toNat*R.e))) else none)=_
  rw [Af ⟨by omega,by omega⟩];rfl
 | ms id off fl l h hid hl hr hs=>
  show (if lR hp id=true/\0<=(i:Int)/\(i:Int)<(l.length:Int) then some (DV.pt id (off+(i:Int).toNat*R.e)) else none)=_
  rw [Af ⟨by unfold lR;rw [h];rfl,by omega,by omega⟩];rfl
theorem RL.fa(h:RL R hp p d l){i k:Nat}(hi:i<l.length):Mx hp k (Bz R.e d i)=some (Fx (Bz R.e d i) k):=by
 cases h with
 | nil=>simp at hi
 | sl=>exact R4 hp k _
 | ms id off fl l h hid hl hr hs=>exact Py h
theorem RL.at(h:RL R hp p d l){i:Nat}(hi:i<l.length):∃ ds,R.rd hp p ds l[i]/\Fy hp (some R.e) (Bz R.e d i)=some (.agg ds)/\(∀ x,ds[0]?=some x->Fy hp none (Bz R.e d i)=some x)/\∀ k x,ds[k]?=some x->Fy hp none (Fx (Bz R.e d i) k)=some x:=by
 have key:∀ (cs:List DV) (a:DV),(∀ k,Fy hp k a=Io k cs)->(∀ k j,Fy hp k (Fx a j)=Io k (cs.drop j))->(∃ rest,cs=cs.take R.e++rest)->R.rd hp p (cs.take R.e) l[i]->∃ ds,R.rd hp p ds l[i]/\Fy hp (some R.e) a=some (.agg ds)/\(∀ x,ds[0]?=some x->Fy hp none a=some x)/\∀ k x,ds[k]?=some x->Fy hp none (Fx a k)=some x:=by
  intro cs a h1 h2 ⟨rest,h3⟩ h4
  have hl:=R.len h4
  refine ⟨cs.take R.e,h4,?_,λx hx=>?_,λk x hx=>?_⟩
  .rw [h1]
   show (if R.e<=cs.length then some (DV.agg (cs.take R.e)) else none)=_
   rw [Af (by rw [Bt] at hl;omega)]
  .rw [h1]
   have:=ze (cs:=cs) (i:=0) (d:=x) (by rw [h3,Ci (by rw [hl];exact R.e0)];exact hx)
   rwa [Gb] at this
  .rw [h2]
   have hk:k<(cs.take R.e).length:=(Aq.1 hx).1
   exact ze (by rw [h3,Ci hk];exact hx)
 cases h with
 | nil=>simp at hi
 | sl=>
  obtain ⟨rest,h1,h2⟩:=(Rows.pure (R:=R) hp p l).at hi
  exact key _ (.ia ((l.flatMap R.cells).drop (i*R.e))) (λ_=>rfl) (λ_ _=>rfl) ⟨rest,h1⟩ h2
 | ms id off fl l h hid hl hr hs=>
  obtain ⟨rest,h1,h2⟩:=hr.at hi
  have hle:i*R.e+R.e<=l.length*R.e:=by
   have:=Cz R.e hi
   rw [Nat.succ_mul] at this;exact this
  have e1:(((fl.drop off).take (l.length*R.e)).drop (i*R.e)).take R.e=(fl.drop (off+i*R.e)).take R.e:=by
   rw [List.drop_take,No,List.take_take]
   congr 1;omega
  rw [e1] at h1 h2
  refine key (fl.drop (off+i*R.e)) (.pt id (off+i*R.e)) (λk=>Qz h) (λk j=>?_) ⟨_,(Fe R.e _).symm⟩ h2
  show Fy hp k (.pt id (off+i*R.e+j))=_
  rw [Qz h,<- No]
theorem RL.srcD{es:ES}(h:RL R es.hp p d l):∃ ds,Go.DD.srcD es.ds R.T R.e d=some (ds,l.length)/\Rows R es.hp p ds l:=by
 cases h with
 | nil=>exact ⟨[],rfl,rfl⟩
 | sl=>exact ⟨_,rfl,Rows.pure _ _ l⟩
 | ms id off fl l h hid hl hr hs=>
  refine ⟨_,?_,hr⟩
  show (match es.hp.get id with
  | some (.row T' cs)=>if T'=R.T/\R.e=R.e/\off+l.length*R.e<=cs.length then some ((cs.drop off).take (l.length*R.e),l.length) else none
  | _=>none)=_
  rw [h]
  simp only []
  rw [Af ⟨trivial,trivial,hl⟩]
theorem UE{es:ES}{id:Nat}{ds:List DV}{x:α}(h:es.hp.get id=some (.row R.T ds))(hr:R.rd es.hp p ds x):Go.DD.srcD es.ds R.T R.e (.ms id 0 1 R.e)=some (ds,[x].length):=by
 have hl:=R.len hr
 show (match es.hp.get id with
  | some (.row T' cs)=>if T'=R.T/\R.e=R.e/\0+1*R.e<=cs.length then some ((cs.drop 0).take (1*R.e),1) else none
  | _=>none)=_
 rw [h]
 simp only []
 rw [Af ⟨trivial,trivial,by omega⟩,Gb,Mt,Bq (by omega)];rfl
theorem T6{es:ES}{id:Nat}{ds:List DV}{x:α}(h:es.hp.get id=some (.row R.T ds))(hr:R.rd es.hp p ds x):∃ eH,Go.DD.srcD es.ds R.T R.e (.ms id 0 1 R.e)=some (eH,[x].length)/\Rows R es.hp p eH [x]:=⟨ds,UE h hr,Rows.one hr⟩
theorem uV(e:Nat)(d:DV)(i:Nat):∀ id∈(Bz e d i).refs,id∈d.refs:=by
 cases d with
 | ms id off n e=>intro j hj;exact hj
 | _=>intro j hj;cases hj
theorem Bl1(d:DV)(k:Nat):∀ id∈(Fx d k).refs,id∈d.refs:=by
 cases d with
 | pt id off=>intro j hj;exact hj
 | _=>intro j hj;cases hj
theorem RL.ro{n0 m:Nat}{an:List Nat}(h:RL R hp p d l)(ho:∀ j,p j->j<n0):Hh d (λid=>Cp n0 m an hp id):=λid hid=>(rX hp id).2 ⟨(h.refs id hid).2,.inl (ho id (h.refs id hid).1)⟩
theorem RL.roa{n0 m i:Nat}{an:List Nat}(h:RL R hp p d l)(ho:∀ j,p j->j<n0):Hh (Bz R.e d i) (λid=>Cp n0 m an hp id):=λid hid=>h.ro ho id (uV R.e d i id hid)
theorem RL.rof{n0 m i k:Nat}{an:List Nat}(h:RL R hp p d l)(ho:∀ j,p j->j<n0):Hh (Fx (Bz R.e d i) k) (λid=>Cp n0 m an hp id):=λid hid=>h.ro ho id (uV R.e d i id (Bl1 _ k id hid))
theorem RL.same(h:RL R hp p d l){n:Nat}(hn:R.dep+1<=n):Nk n d d=true:=by
 obtain ⟨n,rfl⟩:∃ k,n=k+1:=⟨n-1,by omega⟩
 cases h with
 | nil=>simp [Nk,Qh,Cb]
 | sl=>
  show (l.length==l.length&&Je (Nk n) (l.flatMap R.cells) (l.flatMap R.cells))=true
  rw [yk λc hc=>by obtain ⟨x,_,hx⟩:=Pc.1 hc;exact R.samec x c hx n (by omega)]
  simp
 | ms id off fl l h hid hl hr hs=>simp [Nk]
theorem OL.rl(h:OL R hp p d l):RL R hp (λj=>p j\/j∈d.refs) d l:=by
 cases h with
 | nil=>exact .nil
 | ms id fl l h hr=>
  have:=hr.len
  exact .ms id 0 fl l h (.inr (by simp [DV.refs])) (by omega) (by rw [Gb,Bq (by omega)];exact hr.mono λ_ h=>.inl h) λc hc=>hr.same c hc 6 R.d6
theorem OL.keep(h:OL R hp p d l)(hk:∀ j,p j\/j∈d.refs->An.get j=hp.get j):OL R An p d l:=by
 cases h with
 | nil=>exact .nil
 | ms id fl l h hr=>exact .ms id fl l ((hk id (.inr (by simp [DV.refs]))).trans h) (hr.keep λj hj=>hk j (.inl hj))
theorem OL.mono(h:OL R hp p d l)(hk:∀ j,p j->q j):OL R hp q d l:=by
 cases h with
 | nil=>exact .nil
 | ms id fl l h hr=>exact .ms id fl l h (hr.mono hk)
theorem OL.dstD{es:ES}(h:OL R es.hp p d l):∃ o fl,Go.DD.dstD es.ds R.T R.e d=some (o,fl,l.length)/\Rows R es.hp p fl l/\(∀ id,o=some id->id∈d.refs)/\Cg es.hp d=d/\(fl=[]\/∃ id,d=.ms id 0 l.length R.e/\es.hp.get id=some (.row R.T fl)):=by
 cases h with
 | nil=>exact ⟨none,[],rfl,rfl,(λ_ h=>by cases h),dW rfl,.inl rfl⟩
 | ms id fl l h hr=>
  refine ⟨some id,fl,?_,hr,λ_ h=>by cases h;simp [DV.refs],Yb h,.inr ⟨id,rfl,h⟩⟩
  show (match es.hp.get id with
  | some (.row T' cs)=>if T'=R.T/\R.e=R.e/\cs.length=l.length*R.e then some (some id,cs,l.length) else none
  | _=>none)=_
  rw [h]
  simp only []
  rw [Af ⟨trivial,trivial,hr.len⟩]
end
section
variable {α:Type} {R:Rep α} {call:Bg} {es:ES} {dst:Option Pa} {q:Hold (ES->Prop)} {p p2:Nat->Prop}
theorem Bl2{b t:Nat}{u:Operand}{T e:Nat}{d d2:DV}{ds:List DV}{l m:List α}(e1:Ad es (.t (Cq t))=d)(hd:OL R es.hp p d l)(e2:es.ds.ev u=d2)(hs:Go.DD.srcD es.ds R.T R.e d2=some (ds,m.length))(V7:Rows R es.hp p2 ds m)(hT:T=R.T)(he:e=R.e)(hl:l.length+m.length<=2147483648)(hb:b<=65536)
  (h:∀ An,(∀ j,j≠es.nx->j∉d.refs->An.get j=es.hp.get j)->(∀ p',(∀ j,p j\/p2 j->p' j/\j≠es.nx/\j∉d.refs)->OL R An p' (.ms es.nx 0 (l++m).length R.e) (l++m))->(∀ Q:DV->Prop,(∀ id fl,d=.ms id 0 l.length R.e->es.hp.get id=some (.row R.T fl)->∀ c∈fl,Q c)->(∀ c∈ds,Q c)->∃ fl,An.get es.nx=some (.row R.T fl)/\∀ c∈fl,Q c)->q.val ((ES.mk es.sl An (es.nx+1)).putE dst (.ms es.nx 0 (l++m).length R.e))) :
  Na (sU dst (Bi (.app T e b (.tmp t) u))) call es:=by
 subst hT he
 obtain ⟨o,fl,ho,Hs,hor,Xx,qY⟩:=hd.dstD
 show SW _ _ _ _
 rw [sw_u,Ft]
 refine ⟨.ms es.nx 0 (l.length+m.length) R.e,.mv o (.row R.T (fl++ds)),?_,?_⟩
 .have f1:es.ds.ev (.tmp t)=d:=by rw [kT,e1,Xx]
  simp only [Ba,f1,e2,ho,hs]
  rw [Af ⟨V7.len,R.e0,hl,hb⟩]
 .have hg:(es.up (.mv o (.row R.T (fl++ds)))).hp.get es.nx=some (.row R.T (fl++ds)):=by
   cases o with
   | none=>rw [Cf4,get_set,Af rfl]
   | some i=>rw [Cf5,get_set,Af rfl]
  have hk:∀ j,j≠es.nx->j∉d.refs->(es.up (.mv o (.row R.T (fl++ds)))).hp.get j=es.hp.get j:=by
   intro j hj hjd
   cases o with
   | none=>rw [Cf4,get_set,Ae hj]
   | some i=>rw [Cf5,get_set,Ae hj,get_set,Ae (λe=>hjd (by rw [e];exact hor i rfl))]
  have hh:=h _ hk (λp' An=>.ms es.nx _ _ hg ((((Hs.mono (q:=λj=>p j\/p2 j) λ_=>.inl).app (V7.mono λ_=>.inr)).keep λj hj=>hk j (An j hj).2.1 (An j hj).2.2).mono λj hj=>(An j hj).1)) λQ h1 h2=>⟨_,hg,λc hc=>(Ax.1 hc).elim (λhc=>by
   rcases qY with rfl | ⟨id,e,hi⟩
   .cases hc
   .exact h1 id fl e hi c hc) (h2 c)⟩
  rw [Ao] at hh
  exact hh
theorem eL{b t:Nat}{u:Operand}{T e:Nat}{d d2:DV}{l m:List α}(e1:Ad es (.t (Cq t))=d)(hd:OL R es.hp p d l)(e2:es.ds.ev u=d2)(hm:∃ ds,Go.DD.srcD es.ds R.T R.e d2=some (ds,m.length)/\Rows R es.hp p2 ds m)(hT:T=R.T)(he:e=R.e)(hl:l.length+m.length<=2147483648)(hb:b<=65536)
  (h:∀ An,(∀ j,j≠es.nx->j∉d.refs->An.get j=es.hp.get j)->(∀ p',(∀ j,p j\/p2 j->p' j/\j≠es.nx/\j∉d.refs)->OL R An p' (.ms es.nx 0 (l++m).length R.e) (l++m))->q.val ((ES.mk es.sl An (es.nx+1)).putE dst (.ms es.nx 0 (l++m).length R.e))) :
  Na (sU dst (Bi (.app T e b (.tmp t) u))) call es:=by
 obtain ⟨ds,hs,V7⟩:=hm
 exact Bl2 e1 hd e2 hs V7 hT he hl hb λAn h1 h2 _=>h An h1 h2
end
theorem AU{α:Type}{R:Rep α}{hp:Tr DObj}{p:Nat->Prop}{d:DV}{l:List α}{n m i:Nat}{an refs lo:List Nat}{c:Bool}{ws:List Look}{ps:List Past}(h:RL R hp p d l)(Nr:∀ j,p j->j<n)
  (Gy:∀ q∈ps,(∀ j,p j->q.a.get j=hp.get j)/\∀ j,p j->q.b.get j=hp.get j) (hr:∀ j∈refs,j∈d.refs) (h2:Pl n m ws ps=true):Pl n m (Gg i an true c refs n lo ws) ps=true:=
 rT (λj hj=>by
  have Tx:=hr j hj
  refine ⟨Nr j (h.refs j Tx).1,λq hq=>.inr (.inr ?_)⟩
  obtain ⟨h3,h4⟩:=Gy q hq
  cases h with
  | nil=>cases Tx
  | sl=>cases Tx
  | ms id off fl l h hid hl hr hs=>
   have:j=id:=by simpa [DV.refs] using Tx
   subst this
   have e3:=(h3 j hid).trans h
   have e4:=(h4 j hid).trans h
   cases c with
   | true=>rw [Af rfl];exact PR e3 (e4.trans e3.symm) hs
   | false=>rw [Ae (by simp)];simp [rL,e3,e4]) h2
end Go.DD

/- What values read as: slices that are laid, parts of slices, kinds of layouts. -/
namespace Go.DD
open Go
section
variable {α:Type} {R:Rep α} {call:Bg} {es:ES} {dst:Option Pa} {q:Hold (ES->Prop)} {p:Nat->Prop} {n0 m i:Nat} {lo an:List Nat} {ws:List Look} {pp:List Past} {r:Hold (DSt->Prop)} {ps:List Pa}
theorem eK{T n e:Nat}{z:List Value}{xs:List (Nat×Nat×Operand)}{fl:List DV}(hz:z.length=e)(hf:Ho ((List.replicate n (z.map .v)).flatten) (xs.map λp=>(p.1,p.2.1,es.ds.ev p.2.2))=some fl)
  (h:∀ An,An.get es.nx=some (.row T fl)->(∀ j,j≠es.nx->An.get j=es.hp.get j)->q.val ((ES.mk es.sl An (es.nx+1)).putE dst (.ms es.nx 0 n e))) :
  Na (sU dst (Bi (.bsl T n e z xs))) call es:=by
 show SW _ _ _ _
 rw [sw_u,Ft]
 refine ⟨.ms es.nx 0 n e,.lay (.row T fl),?_,?_⟩
 .simp only [Ba,hf,hz]
  rw [Af trivial]
 .exact h (es.up (.lay (.row T fl))).hp (by rw [Zu,get_set,Af rfl]) λj hj=>by rw [Zu,get_set,Ae hj]
theorem PF{wide c:Bool}{T n e:Nat}{z:List Value}{xs:List (Nat×Nat×Operand)}{fl:List DV}(hz:z.length=e)(hf:Ho ((List.replicate n (z.map .v)).flatten) (xs.map λp=>(p.1,p.2.1,es.ds.ev p.2.2))=some fl)
  (h:∀ An,An.get (n0+i)=some (.row T fl)->(∀ j,j≠n0+i->An.get j=es.hp.get j)->r.val ⟨(ES.mk es.sl An es.nx).putE dst (.ms (n0+i) 0 n e),i::lo,Gg i an wide c (refsL es ps) n0 lo ws,pp⟩) :
  S6 (Qa i an wide c dst (Bi (.bsl T n e z xs)) ps) call n0 m es lo ws pp:=by
 show TW _ _ _ _ _ _
 rw [Cg8]
 refine ⟨.ms (n0+i) 0 n e,.row T fl,?_,?_⟩
 .rw [Ft]
  simp only [Ba,hf,hz]
  rw [Af trivial]
 .exact h _ (by rw [F5];simp) λj hj=>by rw [F5];simp [hj]
def lD(e a z:Nat):DV->DV
 | .sl cs _=>.sl ((cs.drop (a*e)).take ((z-a)*e)) (z-a)
 | .ms id off _ _=>if a<z\/a=0 then .ms id (off+a*e) (z-a) e else .sl [] 0
 | d=>d
theorem B82(e a z:Nat)(d:DV):∀ id∈(lD e a z d).refs,id∈d.refs:=by
 cases d with
 | ms id off n e'=>
  intro j hj
  have Tx:j∈(if a<z\/a=0 then DV.ms id (off+a*e) (z-a) e else .sl [] 0).refs:=hj
  by_cases h:a<z\/a=0
  .rw [Af h] at Tx;exact Tx
  .rw [Ae h] at Tx;cases Tx
 | sl=>intro j hj;cases hj
 | _=>exact λj hj=>hj
theorem Rep.clen(R:Rep α)(x:α):(R.cells x).length=R.e:=R.len (R.pure .e (λ_=>True) x)
theorem RL.part{hp:Tr DObj}{d:DV}{l:List α}(h:RL R hp p d l){a z:Nat}(haz:a<=z)(hz:z<=l.length):RL R hp p (lD R.e a z d) ((l.drop a).take (z-a)):=by
 have hlen:((l.drop a).take (z-a)).length=z-a:=by rw [Bt,Ck];omega
 cases h with
 | nil=>
  have:a=0/\z=0:=by simp at hz;omega
  obtain ⟨rfl,rfl⟩:=this
  exact .nil
 | sl=>
  have e1:((l.flatMap R.cells).drop (a*R.e)).take ((z-a)*R.e)=((l.drop a).take (z-a)).flatMap R.cells:=by
   rw [Ba7 R.clen,Ba8 R.clen]
  have:=RL.sl (R:=R) (hp:=hp) (p:=p) ((l.drop a).take (z-a))
  rw [hlen,<- e1] at this
  exact this
 | ms id off fl l h hid hl hr hs=>
  show RL R hp p (if a<z\/a=0 then .ms id (off+a*R.e) (z-a) R.e else .sl [] 0) _
  by_cases Et:a<z\/a=0
  .rw [Af Et]
   have h2:=(hr.drop a).take (z-a)
   have hm:a*R.e+(z-a)*R.e=z*R.e:=by rw [<- Dq];congr 1;omega
   have oJ:z*R.e<=l.length*R.e:=Cz _ hz
   have e1:(((fl.drop off).take (l.length*R.e)).drop (a*R.e)).take ((z-a)*R.e)=(fl.drop (off+a*R.e)).take ((z-a)*R.e):=by
    rw [List.drop_take,No,List.take_take]
    congr 1;omega
   rw [e1] at h2
   have:=RL.ms (R:=R) (hp:=hp) (p:=p) id (off+a*R.e) fl _ h hid (by rw [hlen];omega) (by rw [hlen];exact h2) hs
   rwa [hlen] at this
  .rw [Ae Et]
   have:z-a=0:=by omega
   rw [this,List.take_zero]
   exact .sl []
theorem E3{t a z e:Nat}{lo hi:Option Operand}{d:DV}{l:List α}(e1:Ad es (.t (Cq t))=d)(hd:RL R es.hp p d l)(he:e=R.e)(Gi:Ig es.ds 0 lo=some (a:Int))(Si:∀ n:Int,n=l.length->Ig es.ds n hi=some (z:Int))(haz:a<=z)(hz:z<=l.length)
  (h:q.val (es.putE dst (lD R.e a z d))):Na (sU dst (Bi (.sli e (.tmp t) lo hi))) call es:=by
 subst he
 show SW _ _ _ _
 rw [sw_u,Ft]
 have f1:es.ds.ev (.tmp t)=d:=by rw [kT,e1,hd.live]
 cases hd with
 | nil=>
  have ha:a=0/\z=0:=by simp at hz;omega
  obtain ⟨rfl,rfl⟩:=ha
  have hh:=Si 0 rfl
  refine ⟨Cb,.keep,?_,h⟩
  simp only [Ba,f1,Cb,Gi,hh]
  rfl
 | sl=>
  have hh:=Si l.length rfl
  refine ⟨_,.keep,?_,h⟩
  simp only [Ba,f1,Gi,hh]
  rw [Af ⟨by omega,by omega,by omega⟩]
  simp only [Ee];rfl
 | ms id off fl l hg hid hl hr hs=>
  have hh:=Si l.length rfl
  refine ⟨_,.keep,?_,h⟩
  simp only [Ba,f1,Gi,hh]
  rw [Af ⟨trivial,by omega,by omega,by omega⟩]
  simp only [Ee]
  have e2:((a:Int)<(z:Int)\/(a:Int)=0)↔(a<z\/a=0):=by omega
  unfold lD
  simp only [e2]
end
def Yw{α:Type}(e T:Nat)(f:α->List DV)(e0:0<e)(hl:∀ x,(f x).length=e)(hf:∀ x,∀ c∈f x,c.refs=[]/\(c.okC=true/\c.cells=[c])/\∀ n,1<=n->Nk n c c=true):Rep α where
 e:=e
 T:=T
 dep:=1
 rd _ _ ds x:=ds=f x
 cells:=f
 e0:=e0
 d6:=by decide
 len:=λh=>by rw [h,hl]
 keep:=λh _=>h
 mono:=λh _=>h
 refs:=λ{_ _ ds x} h id hi=>by
  obtain ⟨c,hc,hi⟩:=DV.mem_refsL hi
  rw [h] at hc
  rw [(hf x c hc).1] at hi;cases hi
 pure:=λ_ _ _=>rfl
 ok:=λ{_ _ ds x} h c hc=>(hf x c (h ▸ hc)).2.1
 same:=λ{_ _ ds x} h c hc=>(hf x c (h ▸ hc)).2.2
 samec:=λx c hc=>(hf x c hc).2.2
def Nf{α:Type}(R:Rep α)(T:Nat)(hd:R.dep+1<=6:=by decide):Rep (List α) where
 e:=1
 T:=T
 dep:=R.dep+1
 rd hp p ds l:=∃ d,ds=[d]/\RL R hp p d l
 cells l:=[.sl (l.flatMap R.cells) l.length]
 e0:=Nat.one_pos
 d6:=hd
 len:=λ⟨_,h,_⟩=>by rw [h];rfl
 keep:=λ⟨d,h,h2⟩ hk=>⟨d,h,h2.keep hk⟩
 mono:=λ⟨d,h,h2⟩ hk=>⟨d,h,h2.mono hk⟩
 refs:=λ⟨d,h,h2⟩ id hi=>by
  subst h
  exact h2.refs id (by simpa [DV.refsL] using hi)
 pure:=λ_ _ l=>⟨_,rfl,.sl l⟩
 ok:=λ⟨d,h,h2⟩ c hc=>by
  subst h
  obtain rfl:=Aj.1 hc
  exact h2.ok
 same:=λ⟨d,h,h2⟩ c hc n hn=>by
  subst h
  obtain rfl:=Aj.1 hc
  exact h2.same hn
 samec:=λl c hc n hn=>by
  obtain rfl:=Aj.1 hc
  exact (RL.sl (R:=R) (hp:=.e) (p:=λ_=>True) l).same hn
def Wz{α β γ:Type}(A:Rep α)(B:Rep β)(T:Nat)(f:γ->α)(g:γ->β):Rep γ where
 e:=A.e+B.e
 T:=T
 dep:=max A.dep B.dep
 rd hp p ds x:=∃ a b,ds=a++b/\A.rd hp p a (f x)/\B.rd hp p b (g x)
 cells x:=A.cells (f x)++B.cells (g x)
 e0:=by have:=A.e0;omega
 d6:=by have:=A.d6;have:=B.d6;omega
 len:=λ⟨a,b,h,h1,h2⟩=>by rw [h,Ao,A.len h1,B.len h2]
 keep:=λ⟨a,b,h,h1,h2⟩ hk=>⟨a,b,h,A.keep h1 hk,B.keep h2 hk⟩
 mono:=λ⟨a,b,h,h1,h2⟩ hk=>⟨a,b,h,A.mono h1 hk,B.mono h2 hk⟩
 refs:=λ⟨a,b,h,h1,h2⟩ id hi=>by
  subst h
  rw [Ba9] at hi
  rcases Ax.1 hi with hi | hi
  .exact A.refs h1 id hi
  .exact B.refs h2 id hi
 pure:=λhp p x=>⟨_,_,rfl,A.pure hp p _,B.pure hp p _⟩
 ok:=λ⟨a,b,h,h1,h2⟩ c hc=>by
  subst h
  rcases Ax.1 hc with hc | hc
  .exact A.ok h1 c hc
  .exact B.ok h2 c hc
 same:=λ⟨a,b,h,h1,h2⟩ c hc n hn=>by
  subst h
  rcases Ax.1 hc with hc | hc
  .exact A.same h1 c hc n (by omega)
  .exact B.same h2 c hc n (by omega)
 samec:=λx c hc n hn=>by
  rcases Ax.1 hc with hc | hc
  .exact A.samec _ c hc n (by omega)
  .exact B.samec _ c hc n (by omega)
end Go.DD
