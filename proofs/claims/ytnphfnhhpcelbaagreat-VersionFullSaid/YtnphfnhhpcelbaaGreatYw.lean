/- A part. -/
import Derived.Test.YtnphfnhhpcelbaaGreatYf
import Derived.Test.YtnphfnhhpcelbaaGreatProg
import Derived.KernelRfl
import Derived.Test.YtnphfnhhpcelbaaGreatYv
noncomputable section
namespace Go.DD
open Go
abbrev Kl:Type:=Nat->List DV->Tr DObj->Nat->(DV->Tr DObj->Nat->Prop)->Prop
def B2(P:Program)(wc:Kl):Prop:=∀ f ds hp nx K,wc f ds hp nx K->(∀ id,nx<=id->hp.get id=none)->Uj P f=true/\∀ (sv:Nat->DV) (K':DS->DV->Prop),(∀ d Ao Bk,K d Ao Bk->(∀ id,Bk<=id->Ao.get id=none)->K' ⟨sv,Ao.get,Bk⟩ d)->callC P f ds ⟨sv,hp.get,nx⟩ K'
section
variable (wc:Kl) (isW:Nat->Bool) (call:Bg)
def Sr:List DR->ES->(ES->Prop)->Prop
 | [],es,Q=>Q es
 | r::rest,es,Q=>match r.op,r.g with
  | .nxm k x,none=>∃ l,Wp es.ds k x=some l/\∀ p∈l,Sr rest ((ES.mk es.sl (Mc es.hp es.nx p.2) es.nx).putE (Fc r.dst) p.1) Q
  | .call f args,none=>if isW f=true then wc f (Yw es (args.map EO.of)) es.hp es.nx λd hp nx=>Sr rest ((ES.mk es.sl hp nx).putE (Fc r.dst) d) Q else SW (Xp r) call es λAn=>Sr rest An Q
  | .call f args,some (t,b)=>if isW f=true then GW (Ae es (.t (Cm t))) b (wc f (Yw es (args.map EO.of)) es.hp es.nx λd hp nx=>Sr rest ((ES.mk es.sl hp nx).putE (Fc r.dst) d) Q) (Sr rest (es.putE (Fc r.dst) (.v undef)) Q) else SW (Xp r) call es λAn=>Sr rest An Q
  | .app T e b d x,none=>if isW 999999=true then (SW (Xp r) call es λAn=>Sr rest An Q)\/∃ l,Uf es.nx es.ds (.app T e b d x)=some l/\∀ p∈l,Sr rest ((ES.mk es.sl (Mc es.hp es.nx p.2) (es.nx+1)).putE (Fc r.dst) p.1) Q else SW (Xp r) call es λAn=>Sr rest An Q
  | _,_=>SW (Xp r) call es λAn=>Sr rest An Q
def DC.hasW(isW:Nat->Bool)(rg:Bool):DC->Bool
 | .seq a b=>a.hasW isW rg||b.hasW isW rg
 | .cond _ a b=>a.hasW isW rg||b.hasW isW rg
 | .blk _ c=>c.hasW isW rg
 | .loop c=>c.hasW isW rg
 | .rng _ _ _ _=>rg
 | .reg false ops _=>ops.any λr=>match r.op with
  | .nxm _ _=>true
  | .call f _=>isW f
  | .app _ _ _ _ _=>isW 999999
  | _=>false
 | _=>false
def xE(F:ES->(Exit->ES->Prop)->Prop)(es:ES)(Q:Exit->ES->Prop):Prop:=∃ (I:Nat->ES->Prop) (n:Nat),I n es/\∀ n es,I n es->F es (Og (λAn=>∃ m,m<n/\I m An) Q)
def Ip(rg:Bool)(n nt:Nat):DC->ES->(Exit->ES->Prop)->Prop
 | .seq a b,es,Q=>if (DC.seq a b).hasW isW rg=true then Ip rg n nt a es (Og (λAn=>Ip rg n nt b An Q) Q) else EW (Dt n nt false (.seq a b)) call es Q
 | .cond x a b,es,Q=>if (DC.cond x a b).hasW isW rg=true then ∃ t,Ae es (.of x)=.v (.bool t)/\(t=true->Ip rg n nt a es Q)/\(t=false->Ip rg n nt b es Q) else EW (Dt n nt false (.cond x a b)) call es Q
 | .blk id c,es,Q=>if (DC.blk id c).hasW isW rg=true then Ip rg n nt c es (Pk id Q) else EW (Dt n nt false (.blk id c)) call es Q
 | .loop c,es,Q=>if (DC.loop c).hasW isW rg=true then xE (Ip rg n nt c) es Q else EW (Dt n nt false (.loop c)) call es Q
 | .reg false ops i,es,Q=>if (DC.reg false ops i).hasW isW rg=true then Sr wc isW call ops es (Q .normal) else EW (Dt n nt false (.reg false ops i)) call es Q
 | .rng g ps a b,es,Q=>if rg=true then ∃ f cs,(Oc es (.of g)).asFn=some (f,cs)/\wc f (.yl es.nx::cs) (es.hp.set es.nx (some (.loop ⟨nt,.t es.sl,ps,a,b,.ready,none⟩))) (es.nx+1) λ_ hp nx=>∃ lp,hp.get es.nx=some (.loop lp)/\lp.st≠.busy/\match lp.pend with
   | none=>Q .normal ⟨es.sl,hp.set es.nx none,nx⟩
   | some .ret=>Q .ret ⟨es.sl,hp.set es.nx none,nx⟩
   | some (.exit i)=>Q (.exit i) ⟨es.sl,hp.set es.nx none,nx⟩
   | _=>False
  else EW (Dt n nt false (.rng g ps a b)) call es Q
 | d,es,Q=>EW (Dt n nt false d) call es Q
theorem B18{nid:Nat}{s:DS}{op:DOp}{l:List (DV×Upd)}(h:Uf nid s op=some l):Ay nid s op=none:=by
 unfold Uf at h
 split at h
 rotate_left
 .cases h
 rename_i T es b x y
 split at h
 rotate_left
 .cases h
 rename_i id off n es' news m hx rF
 split at h
 rotate_left
 .cases h
 rename_i T' cs Ig
 split at h
 rotate_left
 .cases h
 rename_i hh
 have:dstD s T es (s.ev x)=none:=by
  rw [hx]
  unfold dstD
  split
  .rename_i e;cases e
  .rename_i e;cases e;exact absurd rfl hh.2.2.1
  .rfl
 simp only [Ay,this]
variable {wc} {isW} {call} {P:Program} (hc:Vs P call) (hw:B2 P wc)
include hc hw
theorem Q5:∀ (ops:List DR) (es:ES) (Q:ES->Prop),Sr wc isW call ops es Q->es.ds.Fr->Zn P ops es.ds λs=>∃ es',s=es'.ds/\es'.ds.Fr/\Q es'
 | [],es,Q,h,Ct=>⟨es,rfl,Ct,h⟩
 | r::rest,es,Q,h,Ct=>by
  have cW:(SW (Xp r) call es λAn=>Sr wc isW call rest An Q)->Zn P (r::rest) es.ds λs=>∃ es',s=es'.ds/\es'.ds.Fr/\Q es':=λ⟨An,h1,h2⟩=>by
   obtain ⟨g1,k1⟩:=ud hc h1 Ct
   exact k1 (Q5 rest An Q h2 (Gw.fr Ct g1))
  unfold Sr at h
  split at h
  .rename_i k x ho hg
   obtain ⟨lo,Gg,h⟩:=h
   simp only [Zn,hg,DS.wanted]
   unfold Nb
   rw [ho]
   simp only [Gg]
   intro p hp
   have Pc:((ES.mk es.sl (Mc es.hp es.nx p.2) es.nx).putE (Fc r.dst) p.1).ds=(es.ds.upd es.ds.nx p.2).put r.dst p.1:=by
    have e:(ES.mk es.sl (Mc es.hp es.nx p.2) es.nx).ds=es.ds.upd es.ds.nx p.2:=by
     simp only [ES.ds,W9];rfl
    rw [dA,e]
   have:=Q5 rest _ Q (h p hp) (by rw [Pc];exact Gw.fr Ct ((ue (NO Gg p hp).1 (NO Gg p hp).2 _).trans (Gw.put _ _ _)))
   rw [Pc] at this
   exact this
  .rename_i f args ho hg
   split at h
   .obtain ⟨Sh,hk⟩:=hw _ _ _ _ _ h Ct
    simp only [Zn,hg,DS.wanted]
    unfold Nb
    rw [ho]
    rw [Z6] at hk
    refine ⟨Sh,(hk es.ds.sv _ λd Ao Bk hK Vm=>?_).k⟩
    have e:((ES.mk es.sl Ao Bk).putE (Fc r.dst) d).ds=(⟨es.ds.sv,Ao.get,Bk⟩:DS).put r.dst d:=by rw [dA];rfl
    have:=Q5 rest _ Q hK (by rw [e];exact Gw.fr (s:=⟨es.ds.sv,Ao.get,Bk⟩) Vm (Gw.put _ _ _))
    rw [e] at this
    exact this
   .exact cW h
  .rename_i f args t b ho hg
   split at h
   rotate_left
   .exact cW h
   have yI:es.ds.wanted (some (t,b))=some false->Sr wc isW call rest (es.putE (Fc r.dst) (.v undef)) Q->Zn P (r::rest) es.ds λs=>∃ es',s=es'.ds/\es'.ds.Fr/\Q es':=λHE hB=>by
    simp only [Zn,hg,HE]
    have e:(es.putE (Fc r.dst) (.v undef)).ds=es.ds.put r.dst (.v undef):=dA ..
    have:=Q5 rest _ Q hB (by rw [e];exact Gw.fr Ct (Gw.put _ _ _))
    rw [e] at this
    exact this
   have J4:es.ds.sv t=Ae es (.t (Cm t)):=(SA es t).symm
   rcases h with ⟨c,h1,hA,hB⟩ | ⟨vs,h1,hB⟩
   .by_cases Sh:c=b
    .have HE:es.ds.wanted (some (t,b))=some true:=by
      unfold DS.wanted
      simp only [J4,h1,Sh,Ji]
     obtain ⟨Gs,hk⟩:=hw _ _ _ _ _ (hA Sh) Ct
     simp only [Zn,hg,HE]
     unfold Nb
     rw [ho]
     rw [Z6] at hk
     refine ⟨Gs,(hk es.ds.sv _ λd Ao Bk hK Vm=>?_).k⟩
     have e:((ES.mk es.sl Ao Bk).putE (Fc r.dst) d).ds=(⟨es.ds.sv,Ao.get,Bk⟩:DS).put r.dst d:=by rw [dA];rfl
     have:=Q5 rest _ Q hK (by rw [e];exact Gw.fr (s:=⟨es.ds.sv,Ao.get,Bk⟩) Vm (Gw.put _ _ _))
     rw [e] at this
     exact this
    .refine yI ?_ (hB Sh)
     unfold DS.wanted
     simp only [J4,h1]
     simp [Sh]
   .refine yI ?_ hB
    unfold DS.wanted
    simp only [J4,h1]
  .rename_i T e b d x ho hg
   split at h
   rotate_left
   .exact cW h
   rcases h with h | ⟨l,hl,h⟩
   .exact cW h
   simp only [Zn,hg,DS.wanted]
   unfold Nb
   rw [ho]
   have eF:Uf es.ds.nx es.ds (.app T e b d x)=some l:=hl
   simp only [exec,B18 eF,eF]
   intro p hp
   obtain ⟨i,o,hu,hi⟩:=(Bt0 hl).2 p hp
   have Pc:((ES.mk es.sl (Mc es.hp es.nx p.2) (es.nx+1)).putE (Fc r.dst) p.1).ds=({ es.ds.upd es.ds.nx p.2 with nx:=es.ds.nx+1 } : DS).put r.dst p.1:=by
    have e:(ES.mk es.sl (Mc es.hp es.nx p.2) (es.nx+1)).ds = { es.ds.upd es.ds.nx p.2 with nx:=es.ds.nx+1 }:=by
     simp only [ES.ds,W9];rfl
    rw [dA,e]
   have Ft:Gw es.ds { es.ds.upd es.ds.nx p.2 with nx:=es.ds.nx+1 }:=by
    have:=Cd0 Ct (u:=p.2) (by rw [hu];exact hi)
    rw [hu] at this ⊢
    exact this
   have:=Q5 rest _ Q (h p hp) (by rw [Pc];exact Gw.fr Ct (Ft.trans (Gw.put _ _ _)))
   rw [Pc] at this
   exact this
  .exact cW h
theorem B99(hm:P.follows .mixedOrders=true){rg:Bool}{n nt:Nat} : ∀ (c:DC) (es:ES) (Q:Exit->ES->Prop),Ip wc isW call rg n nt c es Q->es.ds.Fr->∀ C:Ctx,C.P=P->C.nt=nt->C.rd=none->DW C c (λe s=>∃ es',s=es'.ds/\es'.ds.Fr/\Q e es') es.ds:=by
 intro c
 have cW:∀ (d:DC) (es:ES) (Q:Exit->ES->Prop),EW (Dt n nt false d) call es Q->es.ds.Fr->∀ C:Ctx,C.P=P->C.nt=nt->C.rd=none->DW C d (λe s=>∃ es',s=es'.ds/\es'.ds.Fr/\Q e es') es.ds:=by
  rintro d es Q ⟨e,es',h1,h2⟩ Ct C hP Hk Hw
  obtain ⟨g,k⟩:=NN hc hm d es e es' h1 Ct
  exact k C _ hP Hk (λ_=>Hw) ⟨es',rfl,Gw.fr Ct g,h2⟩
 induction c with
 | seq a b kD kC=>
  intro es Q h Ct C hP Hk Hw
  unfold Ip at h
  split at h
  .refine DW.seq ((kD es _ h Ct C hP Hk Hw).mono ?_)
   rintro e s ⟨An,rfl,zG,h1⟩
   cases e with
   | normal=>exact kC An Q h1 zG C hP Hk Hw
   | _=>exact ⟨An,rfl,zG,h1⟩
  .exact cW _ es Q h Ct C hP Hk Hw
 | cond x a b kD kC=>
  intro es Q h Ct C hP Hk Hw
  unfold Ip at h
  split at h
  .obtain ⟨t,ht,h1,h2⟩:=h
   rw [Ui] at ht
   exact DW.cond (mr ht) (λe=>kD es Q (h1 e) Ct C hP Hk Hw) λe=>kC es Q (h2 e) Ct C hP Hk Hw
  .exact cW _ es Q h Ct C hP Hk Hw
 | blk id c ih=>
  intro es Q h Ct C hP Hk Hw
  unfold Ip at h
  split at h
  .refine DW.blk ((ih es _ h Ct C hP Hk Hw).mono ?_)
   rintro e s ⟨An,rfl,zG,h1⟩
   cases e with
   | exit i=>
    simp only [Pk] at h1
    simp only [iC]
    split
    .rename_i hi;rw [Af hi] at h1;exact ⟨An,rfl,zG,h1⟩
    .rename_i hi;rw [Ad hi] at h1;exact ⟨An,rfl,zG,h1⟩
   | _=>exact ⟨An,rfl,zG,h1⟩
  .exact cW _ es Q h Ct C hP Hk Hw
 | loop c ih=>
  intro es Q h Ct C hP Hk Hw
  unfold Ip at h
  split at h
  .obtain ⟨I,m,h0,h⟩:=h
   refine DW.loop (I:=λk s=>∃ An,s=An.ds/\An.ds.Fr/\I k An) m ⟨es,rfl,Ct,h0⟩ ?_
   rintro k s ⟨An,rfl,zG,h1⟩
   refine (ih An _ (h k An h1) zG C hP Hk Hw).mono ?_
   rintro e s ⟨Cb,rfl,rJ,h2⟩
   cases e with
   | normal=>
    obtain ⟨m',cH,h3⟩:=h2
    exact ⟨m',cH,Cb,rfl,rJ,h3⟩
   | _=>exact ⟨Cb,rfl,rJ,h2⟩
  .exact cW _ es Q h Ct C hP Hk Hw
 | reg draw ops info=>
  intro es Q h Ct C hP Hk Hw
  cases draw with
  | false=>
   unfold Ip at h
   split at h
   .exact DW.reg (by rw [hP];exact Q5 hc hw ops es _ h Ct)
   .exact cW _ es Q h Ct C hP Hk Hw
  | true=>exact cW _ es Q h Ct C hP Hk Hw
 | skip=>exact λes Q h Ct C hP Hk Hw=>cW _ es Q h Ct C hP Hk Hw
 | ret=>exact λes Q h Ct C hP Hk Hw=>cW _ es Q h Ct C hP Hk Hw
 | exit id=>exact λes Q h Ct C hP Hk Hw=>cW _ es Q h Ct C hP Hk Hw
 | rng g ps a b _ _=>
  intro es Q h Ct C hP Hk Hw
  unfold Ip at h
  split at h
  .obtain ⟨f,cs,jC,h⟩:=h
   rw [mQ] at jC
   obtain ⟨Sh,hI⟩:=hw _ _ _ _ _ h (λid hid=>by
    rw [Tr.set_ho]
    simp only [setH]
    rw [Ad (by omega)]
    exact Ct id (by show es.nx<=id;omega))
   rw [Tr.set_ho] at hI
   subst hP Hk
   refine DW.rng (sl:=.t es.sl) rfl Hw jC Sh (callC.i (ds:=.yl es.nx::cs) ⟨.yl es.nx,Dv,by simp [DV.refs]⟩ (hI es.ds.sv _ λd Ao Bk hK Vm=>?_))
   have Pe:(ES.mk es.sl (Ao.set es.nx none) Bk).ds=⟨es.ds.sv,setH Ao.get es.nx none,Bk⟩:=by rw [Si,Tr.set_ho];rfl
   have JV:(ES.mk es.sl (Ao.set es.nx none) Bk).ds.Fr:=by
    rw [Pe]
    intro id hid
    simp only [setH]
    split
    .rfl
    .exact Vm id hid
   obtain ⟨lp,h1,h2,h3⟩:=hK
   refine ⟨lp,h1,h2,?_⟩
   cases hp:lp.pend with
   | none=>rw [hp] at h3;exact ⟨_,Pe.symm,JV,h3⟩
   | some e=>
    rw [hp] at h3
    cases e with
    | ret=>exact ⟨_,Pe.symm,JV,h3⟩
    | exit i=>exact ⟨_,Pe.symm,JV,h3⟩
    | _=>exact h3.elim
  .exact cW _ es Q h Ct C hP Hk Hw
 | dfq t g cap=>exact λes Q h Ct C hP Hk Hw=>cW _ es Q h Ct C hP Hk Hw
 | bad=>exact λes Q h Ct C hP Hk Hw=>cW _ es Q h Ct C hP Hk Hw
end
section
variable (P:Program) (n:Nat) (wc:Kl) (isW:Nat->Bool) (rg:Bool) (call:Bg)
def Qx:Kl:=λf ds hp nx K=>∃ fn df,P.funcs[f]?=some fn/\Uj P f=true/\Yo P fn=some df/\ds.length<=df.nt/\Ip wc isW call rg n df.nt df.code ⟨Vp ds,hp,nx⟩ λe es=>(e=.normal\/e=.ret)/\∃ d,Nl df.res es=some (d,es.hp,es.nx)/\K d es.hp es.nx
variable {P} {n} {wc} {isW} {rg} {call} (hc:Vs P call) (hw:B2 P wc) (hm:P.follows .mixedOrders=true)
include hc hw hm
theorem X2:B2 P (Qx P n wc isW rg call):=by
 rintro f ds hp nx K ⟨fn,df,hf,Sh,jF,hlen,h⟩ Ct
 refine ⟨Sh,λsv K' hK=>.inl ⟨fn,df,hf,jF,hlen,λS G w0 X M Y R=>?_⟩⟩
 have If:(ES.mk (Vp ds) hp nx).ds=⟨Yn ds,hp.get,nx⟩:=by
  rw [Si]
  congr 1
  funext t
  exact wu ds t
 have:=B99 hc hw hm df.code _ _ h (by rw [If];exact Ct) ⟨P,S,G,w0,df.nt,X,M,none,Y,R⟩ rfl rfl rfl
 rw [If] at this
 refine this.mono ?_
 rintro e s ⟨es,rfl,iw,Yv,d,Pe,hk⟩
 obtain ⟨dZ,_,_⟩:=Bv0 Pe
 exact ⟨Yv,d,dZ,hK _ _ _ hk iw⟩
theorem Known.ofW{f:Nat}{args:List DV}{r:DV}(hr:∀ x∈args,x.refs=[])(h:Qx P n wc isW rg call f args .e 0 λd hp _=>rz hp.get 6 d=some r):Known P f args r:=by
 obtain ⟨Sh,hI⟩:=X2 hc hw hm _ _ _ _ _ h (λid _=>by cases id <;> rfl)
 refine ⟨Sh,hr,DCall.of_callC (sv:=λ_=>.any) ?_⟩
 have:=hI (λ_=>.any) (λs d=>∃ r',rz s.ho 6 d=some r'/\r'=r) λd Ao Bk hk _=>⟨r,hk,rfl⟩
 have e:(Tr.e:Tr DObj).get=λ_=>none:=by funext id;cases id <;> rfl
 rw [e] at this
 exact this
end
end Go.DD

/- Code with more than one outcome, as it is printed. Conditions: those that each theorem states. -/
namespace Go.DD
open Go
abbrev WE:Type:=Kl->Bg->ES->(Exit->ES->Prop)->Prop
abbrev RE:Type:=Kl->Bg->ES->(ES->Prop)->Prop
def wD(c:CE):WE:=λ_ call es Q=>EW c call es Q
def wS(a b:WE):WE:=λwc call es Q=>a wc call es (Og (λAn=>b wc call An Q) Q)
def wC(x:EO)(a b:WE):WE:=λwc call es Q=>∃ t,Ae es x=.v (.bool t)/\(t=true->a wc call es Q)/\(t=false->b wc call es Q)
def wB(id:Nat)(c:WE):WE:=λwc call es Q=>c wc call es (Pk id Q)
def wL(c:WE):WE:=λwc call es Q=>xE (c wc call) es Q
def wN(r:RE):WE:=λwc call es Q=>r wc call es (Q .normal)
def rE:RE:=λ_ _ es Q=>Q es
def rS(s:Oo)(k:RE):RE:=λwc call es Q=>SW s call es λAn=>k wc call An Q
def rN(k:Bool)(x:Operand)(dst:Option Pa)(n:RE):RE:=λwc call es Q=>∃ l,Wp es.ds k x=some l/\∀ p∈l,n wc call ((ES.mk es.sl (Mc es.hp es.nx p.2) es.nx).putE dst p.1) Q
def rA(T e b:Nat)(d x:Operand)(dst:Option Pa)(n:RE):RE:=λwc call es Q=>(SW (sU dst (Bd (.app T e b d x))) call es λAn=>n wc call An Q)\/∃ l,Uf es.nx es.ds (.app T e b d x)=some l/\∀ p∈l,n wc call ((ES.mk es.sl (Mc es.hp es.nx p.2) (es.nx+1)).putE dst p.1) Q
def YB(p:Pa)(b:Bool)(f:Nat)(args:List EO)(dst:Option Pa)(n:RE):RE:=λwc call es Q=>GW (Ae es (.t p)) b (wc f (Yw es args) es.hp es.nx λd hp nx=>n wc call ((ES.mk es.sl hp nx).putE dst d) Q) (n wc call (es.putE dst (.v undef)) Q)
def rW(f:Nat)(args:List EO)(dst:Option Pa)(n:RE):RE:=λwc call es Q=>wc f (Yw es args) es.hp es.nx λd hp nx=>n wc call ((ES.mk es.sl hp nx).putE dst d) Q
def wG(nt:Nat)(g:EO)(ps:List Nat)(a b:DC):WE:=λwc _ es Q=>∃ f cs,(Oc es g).asFn=some (f,cs)/\wc f (.yl es.nx::cs) (es.hp.set es.nx (some (.loop ⟨nt,.t es.sl,ps,a,b,.ready,none⟩))) (es.nx+1) λ_ hp nx=>∃ lp,hp.get es.nx=some (.loop lp)/\lp.st≠.busy/\match lp.pend with
   | none=>Q .normal ⟨es.sl,hp.set es.nx none,nx⟩
   | some .ret=>Q .ret ⟨es.sl,hp.set es.nx none,nx⟩
   | some (.exit i)=>Q (.exit i) ⟨es.sl,hp.set es.nx none,nx⟩
   | _=>False
section
variable {wc:Kl} {call:Bg} {es:ES} {Q:Exit->ES->Prop} {R:ES->Prop}
theorem Qn{c:CE} : wD c wc call es Q↔EW c call es Q:=Da
theorem Qf{a b:WE} : wS a b wc call es Q↔a wc call es (Og (λAn=>b wc call An Q) Q):=Da
theorem mT{id:Nat}{c:WE} : wB id c wc call es Q↔c wc call es (Pk id Q):=Da
theorem qW{r:RE} : wN r wc call es Q↔r wc call es (Q .normal):=Da
theorem Nx{s:Oo}{k:RE} : rS s k wc call es R↔SW s call es λAn=>k wc call An R:=Da
theorem Tl:rE wc call es R↔R es:=Da
theorem UQ{p:Pa}{b:Bool}{f:Nat}{args:List EO}{dst:Option Pa}{n:RE}(h:Ae es (.t p)=.v (.bool b)):YB p b f args dst n wc call es R↔rW f args dst n wc call es R:=by
 unfold YB
 rw [h,pS]
 exact ⟨λh=>h.1 rfl,λh=>⟨λ_=>h,λe=>absurd rfl e⟩⟩
theorem UR{x:EO}{a b:WE}(h:Ae es x=.v (.bool true)):wC x a b wc call es Q↔a wc call es Q:=by
 unfold wC
 rw [h]
 exact ⟨λ⟨t,h1,h2,_⟩=>h2 (by cases h1;rfl),λh=>⟨true,rfl,λ_=>h,λe=>nomatch e⟩⟩
theorem US{x:EO}{a b:WE}(h:Ae es x=.v (.bool false)):wC x a b wc call es Q↔b wc call es Q:=by
 unfold wC
 rw [h]
 exact ⟨λ⟨t,h1,_,h3⟩=>h3 (by cases h1;rfl),λh=>⟨false,rfl,λe=>(nomatch e),λ_=>h⟩⟩
theorem AN{c:WE}(I:Nat->ES->Prop)(n:Nat)(h0:I n es)(step:∀ n es,I n es->c wc call es (Og (λAn=>∃ m,m<n/\I m An) Q)):wL c wc call es Q:=⟨I,n,h0,step⟩
end
end Go.DD

/- Steps through a map: whatever entry comes. Conditions: those that each theorem states. -/
namespace Go.DD
open Go
theorem Cs1{since:Nat}{seen:List Nat}{es:List ME}(hb:∀ e∈es,e.b<since):Re since seen es=(if (es.filter λe=>!seen.contains e.b).isEmpty then [none] else [])++(es.filter λe=>!seen.contains e.b).map some:=by
 have h1:∀ l:List ME,(∀ e∈l,e.b<since)->l.filter (λe=>decide (e.b<since))=l/\l.filter (λe=>decide (e.b≥since))=[]:=λl hl=>by
  refine ⟨List.filter_eq_self.2 λe he=>Ar (hl e he),List.filter_eq_nil_iff.2 λe he=>?_⟩
  have:=hl e he
  simp;omega
 obtain ⟨e1,e2⟩:=h1 (es.filter λe=>!seen.contains e.b) λe he=>hb e (Ey.1 he).1
 unfold Re
 simp only [e1,e2,Dh]
section
variable {wc:Kl} {call:Bg} {es:ES} {R:ES->Prop} {x:Operand} {dst:Option Pa} {n:RE} {im id ck:Nat} {es':List ME} {seen:List Nat}
theorem D8(ex:es.ds.ev x=.pt id 0)(hi:es.hp.get id=some (.miter (.mp im) ck seen ck))(hm:es.hp.get im=some (.mapo ck es'))(hb:∀ e∈es',e.b<ck)
  (h0:(∀ e∈es',e.b∈seen)->n wc call (es.putE dst (.tup [.v (.bool false)])) R)
  (h1:∀ e∈es',e.b∉seen->∀ Ao,Ao.get id=some (.miter (.mp im) ck (seen ++ [e.b]) ck)->(∀ j,j≠id->Ao.get j=es.hp.get j)->n wc call ((ES.mk es.sl Ao es.nx).putE dst (.tup [.v (.bool true),Qt e.k,e.v])) R):rN false x dst n wc call es R:=by
 have J9:¬ (!seen.isEmpty && !es'.isEmpty&&es'.all (λe=>decide (e.b≥ck)))=true:=λh=>by
  rw [Bo,Bo] at h
  obtain ⟨⟨_,h2⟩,h3⟩:=h
  cases es' with
  | nil=>simp at h2
  | cons e l=>
   have a:=hb e (by simp)
   have b:=(Bi.1 h3) e (by simp)
   simp at b
   omega
 refine ⟨(Re ck seen es').map λc=>kA id (kB (.mp im) ck seen ck c),?_,λp hp=>?_⟩
 .unfold Wp
  rw [Ad (by simp),ex]
  show (match es.hp.get id with
   | some (.miter (.v (.map none)) _ _ _)=>some [(DV.tup [.v (.bool false)],Upd.keep)]
   | some (.miter (.mp im) since seen last)=>match es.hp.get im with
    | some (.mapo ck es)=>if (!seen.isEmpty && !es.isEmpty&&es.all (λe=>decide (e.b≥last)))=true then none else
      some ((Re since seen es).map λc=>kA id (kB (.mp im) since seen ck c))
    | _=>none
   | _=>none)=_
  rw [hi]
  simp only [hm]
  rw [Ad J9]
 .obtain ⟨c,hc,rfl⟩:=Bm.1 hp
  rw [Cs1 hb] at hc
  rcases Aw.1 hc with hc | hc
  .split at hc
   .rename_i he
    rw [Am] at hc
    subst hc
    refine h0 λe Yv=>Classical.byContradiction λhn=>?_
    have:e∈es'.filter λe=>!seen.contains e.b:=Ey.2 ⟨Yv,by simpa using hn⟩
    rw [List.isEmpty_iff.1 he] at this
    cases this
   .cases hc
  .obtain ⟨e,he,rfl⟩:=Bm.1 hc
   obtain ⟨h2,h3⟩:=Ey.1 he
   exact h1 e h2 (by simpa using h3) (es.up (.wr id (.miter (.mp im) ck (seen ++ [e.b]) ck))).hp (by rw [Kh,get_set,Af rfl]) λj hj=>by rw [Kh,get_set,Ad hj]
theorem D9{e:ME}{s0:List Nat}(ex:es.ds.ev x=.pt id 0)(hi:es.hp.get id=some (.miter (.mp im) ck (s0 ++ [e.b]) ck))(hm:es.hp.get im=some (.mapo ck es'))(he:e∈es')(hn:(es'.map ME.b).Nodup)(h:n wc call (es.putE dst (.tup [Qt e.k,e.v])) R):rN true x dst n wc call es R:=by
 have hf:es'.find? (λe'=>e'.b==e.b)=some e:=by
  clear hm h
  induction es' with
  | nil=>cases he
  | cons a l ih=>
   rw [Ag,Jy] at hn
   rcases Aq.1 he with rfl | he
   .simp
   .have:a.b≠e.b:=λh=>hn.1 (h ▸ Bm.2 ⟨e,he,rfl⟩)
    rw [List.find?_cons_of_neg (by simpa using this)]
    exact ih he hn.2
 refine ⟨[(.tup [Qt e.k,e.v],.keep)],?_,λp hp=>?_⟩
 .unfold Wp
  rw [Af rfl]
  unfold qC
  rw [ex]
  show (match es.hp.get id with
   | some (.miter (.mp im) _ seen last)=>match es.hp.get im with
    | some (.mapo ck es)=>if ck=last then match seen.getLast? with
      | some st=>match es.find? (λe:ME=>e.b==st) with
       | some e=>some [(DV.tup [Qt e.k,e.v],Upd.keep)]
       | none=>none
      | none=>none
     else none
    | _=>none
   | _=>none)=_
  rw [hi]
  simp only [hm,Ex,List.getLast?_append,List.getLast?_singleton,Option.some_or,hf]
 .rw [Am] at hp
  subst hp
  exact h
end
end Go.DD

/- Calls of code with more than one outcome, by what is printed. Conditions: those that each theorem states. -/
namespace Go.DD
open Go
theorem Zz{a b n:Nat}(h:b=n)(h2:Nat.ble a n=true):a<=b:=h ▸ Ab h2
section
variable {P:Program} {n:Nat} {wc:Kl} {isW:Nat->Bool} {rg:Bool} {call:Bg} {f:Nat} {ds:List DV} {hp:Tr DObj} {nx:Nat} {K:DV->Tr DObj->Nat->Prop} {fn:Func} {df:DF} {w:WE}
theorem tj(ha:P.funcs[f]?=some fn)(hb:Uj P f=true)(jF:Yo P fn=some df)(hw:(λwc call=>Ip wc isW call rg n df.nt df.code)=w)(hlen:ds.length<=df.nt)(h:∀ es,es.hp=hp->es.nx=nx->qL es ds->w wc call es λe es=>(e=.normal\/e=.ret)/\∃ d,Nl df.res es=some (d,es.hp,es.nx)/\K d es.hp es.nx):Qx P n wc isW rg call f ds hp nx K:=by
 have h':=h ⟨Vp ds,hp,nx⟩ rfl rfl (Bv2 ds hp nx)
 rw [<- hw] at h'
 exact ⟨fn,df,ha,hb,jF,hlen,h'⟩
theorem Cs2(ha:P.funcs[f]?=some fn)(hb:Uj P f=true)(jF:Yo P fn=some df)(hr:df.res=[])(hw:(λwc call=>Ip wc isW call rg n df.nt df.code)=w)(hlen:ds.length<=df.nt)(h:∀ es,es.hp=hp->es.nx=nx->qL es ds->w wc call es λe es=>(e=.normal\/e=.ret)/\K (.tup []) es.hp es.nx):Qx P n wc isW rg call f ds hp nx K:=by
 refine tj ha hb jF hw hlen λes h1 h2 h3=>?_
 have e:(λe es=>(e=Exit.normal\/e=.ret)/\∃ d,Nl df.res es=some (d,es.hp,es.nx)/\K d es.hp es.nx)=λe es=>(e=Exit.normal\/e=.ret)/\K (.tup []) es.hp es.nx:=by
  funext e es
  rw [hr,fe0]
  refine propext (and_congr_right λ_=>⟨λ⟨d,h4,h5⟩=>?_,λh=>⟨_,rfl,h⟩⟩)
  cases h4;exact h5
 rw [e];exact h es h1 h2 h3
theorem TQ{t:Nat}(ha:P.funcs[f]?=some fn)(hb:Uj P f=true)(jF:Yo P fn=some df)(hr:df.res=[(t,none)])(hw:(λwc call=>Ip wc isW call rg n df.nt df.code)=w)(hlen:ds.length<=df.nt)(h:∀ es,es.hp=hp->es.nx=nx->qL es ds->w wc call es λe es=>(e=.normal\/e=.ret)/\K (Cd es.hp (Ae es (.t (Cm t)))) es.hp es.nx):Qx P n wc isW rg call f ds hp nx K:=by
 refine tj ha hb jF hw hlen λes h1 h2 h3=>?_
 have e:(λe es=>(e=Exit.normal\/e=.ret)/\∃ d,Nl df.res es=some (d,es.hp,es.nx)/\K d es.hp es.nx)=λe es=>(e=Exit.normal\/e=.ret)/\K (Cd es.hp (Ae es (.t (Cm t)))) es.hp es.nx:=by
  funext e es
  rw [hr,fe1]
  refine propext (and_congr_right λ_=>⟨λ⟨d,h4,h5⟩=>?_,λh=>⟨_,rfl,h⟩⟩)
  cases h4;exact h5
 rw [e];exact h es h1 h2 h3
theorem Cs3{t u:Nat}(ha:P.funcs[f]?=some fn)(hb:Uj P f=true)(jF:Yo P fn=some df)(hr:df.res=[(t,none),(u,none)])(hw:(λwc call=>Ip wc isW call rg n df.nt df.code)=w)(hlen:ds.length<=df.nt)(h:∀ es,es.hp=hp->es.nx=nx->qL es ds->w wc call es λe es=>(e=.normal\/e=.ret)/\K (.tup [Cd es.hp (Ae es (.t (Cm t))),Cd es.hp (Ae es (.t (Cm u)))]) es.hp es.nx):Qx P n wc isW rg call f ds hp nx K:=by
 refine tj ha hb jF hw hlen λes h1 h2 h3=>?_
 have e:(λe es=>(e=Exit.normal\/e=.ret)/\∃ d,Nl df.res es=some (d,es.hp,es.nx)/\K d es.hp es.nx)=λe es=>(e=Exit.normal\/e=.ret)/\K (.tup [Cd es.hp (Ae es (.t (Cm t))),Cd es.hp (Ae es (.t (Cm u)))]) es.hp es.nx:=by
  funext e es
  rw [hr,fe2]
  refine propext (and_congr_right λ_=>⟨λ⟨d,h4,h5⟩=>?_,λh=>⟨_,rfl,h⟩⟩)
  cases h4;exact h5
 rw [e];exact h es h1 h2 h3
end
end Go.DD

/- The code of functions with more than one outcome: printed by a program out of the translation. -/
namespace Go.DD
noncomputable section
open Pa
instance LY:Coe Pa EO:=⟨EO.t⟩
open Go
set_option maxRecDepth 100000
def B19:WE:=(wS (wN (rN false (.tmp 6) "(" (rS (sX "%" (Ga "(" 0)) rE))) (wS (wD (cC "%" (cE .normal) (cE (.exit 0)))) (wB 1 (wS (wN (rN true (.tmp 6) "&" (rS (sX "*" (Ga "&" 1)) (rS (sM "!" "*") rE)))) (wD (cT [(sM "," o),(sM "." "!"),(aZ none "," ["."] "+"),(sX "1" (Qs .not "+"))] (cC "1" (cE .ret) (cE .normal))))))))
def AO:WE:=(wS (wD (cN (sL [(sX ")" (Cj none o.l)),(sU "$" (Bd (.rgm (.tmp 5))))]))) (wB 0 (wL B19)))
end
end Go.DD

/- The printed code is the program's. -/
namespace Go.DD
open Go Go.Proofs
set_option maxRecDepth 100000
theorem BC:Tryz.prog.funcs[146]?=some Tryz.f146:=by kernel_rfl
theorem BA:Uj Tryz.prog 146=true:=by kernel_rfl
def d146:DF:=(Yo Tryz.prog Tryz.f146).getD default
theorem AY:Yo Tryz.prog Tryz.f146=some d146:=by kernel_rfl
theorem AT:d146.res=[]:=by kernel_rfl
theorem AW:d146.nt=15:=by kernel_rfl
theorem Cs4:(λwc call=>Ip wc (λ_=>false) call false 1000000 d146.nt d146.code)=AO:=by kernel_rfl
end Go.DD

/- The code of functions with more than one outcome: printed by a program out of the translation. -/
namespace Go.DD
noncomputable section
open Pa
instance LX:Coe Pa EO:=⟨EO.t⟩
open Go
set_option maxRecDepth 100000
def OM:DC:=.reg false [⟨some 5,none,.mv (.tmp 7),[]⟩] ⟨[],true⟩
def OJ:DC:=.blk 1 (.reg false [⟨some 8,none,.ld none (.tmp 2),[]⟩,⟨some 9,none,.mv (.tmp 5),[]⟩,⟨some 10,none,.bsl 3 1 1 [.int .i64 0] [(0,1,.tmp 9)],[]⟩,⟨some 11,none,.app 3 1 8 (.tmp 8) (.tmp 10),[]⟩,⟨none,none,.st 1 (.tmp 2) (.tmp 11),[]⟩] ⟨[],true⟩)
def AP:WE:=(wS (wD (cN (sL [(sU o.r (Pn 36 o)),(sM "!" (.c (.v (.slice none 0 0))))]))) (wS (wS (wD (cN (sL [(sM "$" o.l)]))) (wB 0 (wG 13 "$" [7] OM OJ))) (wD (cT [(sX "." (Cj none o.r)),(sM "!" ".")] (cE .ret)))))
def ti:CE:=(cN (sL [(sM ")" "(")]))
def tf:CE:=(cB 1 (cN (sL [(sX "%" (Cj none o.r)),(sM "&" ")"),(sU "*" (Bd (.bsl 3 1 1 [.int .i64 0] [(0,1,.tmp 9)]))),(sU "," (Bd (.app 3 1 8 (.tmp 8) (.tmp 10)))),(sU none (Jr 1 o.r ","))])))
end
end Go.DD

/- The printed code is the program's. -/
namespace Go.DD
open Go Go.Proofs
set_option maxRecDepth 100000
theorem BD:Tryz.prog.funcs[145]?=some Tryz.f145:=by kernel_rfl
theorem BB:Uj Tryz.prog 145=true:=by kernel_rfl
def d145:DF:=(Yo Tryz.prog Tryz.f145).getD default
theorem AZ:Yo Tryz.prog Tryz.f145=some d145:=by kernel_rfl
theorem AU:d145.res=[(4,none)]:=by kernel_rfl
theorem AX:d145.nt=13:=by kernel_rfl
theorem Cs5:(λwc call=>Ip wc (λ_=>false) call true 1000000 d145.nt d145.code)=AP:=by kernel_rfl
theorem Ca0:Dt 1000000 13 true OM=ti:=by kernel_rfl
theorem Ca1:Dt 1000000 13 true OJ=tf:=by kernel_rfl
end Go.DD

/- The code of functions with more than one outcome: printed by a program out of the translation. -/
namespace Go.DD
noncomputable section
open Pa
instance LV:Coe Pa EO:=⟨EO.t⟩
open Go
set_option maxRecDepth 100000
def xp:WE:=(wS (wD (cN (sL [(sM o.r (.c (.v (.slice none 0 0))))]))) (wS (wN (rS (sM ">" o) (rW 145 [(.c (.v (.slice none 0 0))),">"] "!" (rS (sM o.r "!") rE)))) (wD (cE .ret))))
end
end Go.DD

/- The printed code is the program's. -/
namespace Go.DD
open Go Go.Proofs
set_option maxRecDepth 100000
theorem VM:Tryz.prog.funcs[95]?=some Tryz.f95:=by kernel_rfl
theorem VI:Uj Tryz.prog 95=true:=by kernel_rfl
def d95:DF:=(Yo Tryz.prog Tryz.f95).getD default
theorem VE:Yo Tryz.prog Tryz.f95=some d95:=by kernel_rfl
theorem UU:d95.res=[(2,none)]:=by kernel_rfl
theorem VA:d95.nt=5:=by kernel_rfl
theorem C24:(λwc call=>Ip wc (λf=>Nat.beq f 145) call false 1000000 d95.nt d95.code)=xp:=by kernel_rfl
end Go.DD

/- Contracts: the values of a map, in whatever order. Conditions: those that each theorem states. -/
namespace Go.DD
open Go Go.Proofs Go.Sort
def QY(k:Nat):Kl:=Qx Tryz.prog 1000000 (λ_ _ _ _ _=>False) (λ_=>false) false (kN k)
theorem C25{k:Nat} : B2 Tryz.prog (QY k):=X2 (R4 (n:=1000000) mixed Vu W5 k) (λ_ _ _ _ _ h=>h.elim) mixed
theorem xi{α:Type} : ∀ {l m:List α},l.Nodup->m.Nodup->(∀ x,x∈l↔x∈m)->l.Perm m
 | [],m,_,_,h=>by
  cases m with
  | nil=>exact .nil
  | cons a m=>exact absurd ((h a).2 (by simp)) (by simp)
 | a::l,m,hl,hm,h=>by
  obtain ⟨m1,m2,rfl⟩:=List.append_of_mem ((h a).1 (by simp))
  obtain ⟨ha,eF⟩:=Jy.1 hl
  have hp:(m1++a::m2).Perm (a::(m1++m2)):=List.perm_middle
  have cH:=hp.nodup_iff.1 hm
  obtain ⟨bT,oU⟩:=Jy.1 cH
  refine (List.Perm.cons a (xi eF oU λx=>?_)).trans hp.symm
  have hx:=(h x).trans hp.mem_iff
  constructor
  .intro PL
   have:=hx.1 (Be _ PL)
   rcases Aq.1 this with rfl | h3
   .exact absurd PL ha
   .exact h3
  .intro hxm
   have:=hx.2 (Be _ hxm)
   rcases Aq.1 this with rfl | h3
   .exact absurd hxm bT
   .exact h3
theorem vo:∀ {l:List ME},(l.map ME.b).Nodup->l.Nodup
 | [],_=>.nil
 | a::l,h=>by
  rw [Ag,Jy] at h
  exact Jy.2 ⟨λha=>h.1 (Bm.2 ⟨a,ha,rfl⟩),vo h.2⟩
theorem tc{call:Bg}{es:ES}{dst:Option Pa}{R:ES->Prop}{t im ck:Nat}{es':List ME}(e1:es.ds.ev (.tmp t)=.mp im)(hm:es.hp.get im=some (.mapo ck es'))(h:∀ Ao,Ao.get es.nx=some (.miter (.mp im) ck [] ck)->(∀ j,j≠es.nx->Ao.get j=es.hp.get j)->R ((ES.mk es.sl Ao (es.nx+1)).putE dst (.pt es.nx 0))):SW (sU dst (Bd (.rgm (.tmp t)))) call es R:=by
 rw [sw_u,Fi]
 refine ⟨.pt es.nx 0,.lay (.miter (.mp im) ck [] ck),?_,h (es.up (.lay (.miter (.mp im) ck [] ck))).hp (by rw [aO,get_set,Af rfl]) λj hj=>by rw [aO,get_set,Ad hj]⟩
 simp only [Ay,e1]
 show (match es.hp.get im with
  | some (.mapo ck _)=>some (DV.pt es.nx 0,Upd.lay (.miter (.mp im) ck [] ck))
  | _=>none)=_
 rw [hm]
section
variable (k:Nat)
theorem B20{hp:Tr DObj}{nx L B H U ck:Nat}{es':List ME}{K:DV->Tr DObj->Nat->Prop}(J:List ME->Tr DObj->Nat->Prop)
  (hd:L<nx/\B<nx/\H<nx) (hL:∃ o,hp.get L=some o) (hB:hp.get B=some (.row U [.mp H])) (hH:hp.get H=some (.mapo ck es')) (If:StO ck es') (hv:∀ e∈es',∀ Ao:Tr DObj,Fv Ao (.tup [Qt e.k,e.v]) 1=some e.v)
  (h0:∀ Ei,Ei.get nx=some (.miter (.mp H) ck [] ck)->(∀ j,j≠nx->Ei.get j=hp.get j)->J [] Ei (nx+1))
  (hJ:∀ W Ei qY,J W Ei qY->nx+1<=qY/\(∃ o,Ei.get L=some o)/\Ei.get H=some (.mapo ck es')/\Ei.get nx=some (.miter (.mp H) ck (W.map ME.b) ck))
  (hw:∀ W Ei qY e Db,J W Ei qY->e∈es'->e∉W->W.length<es'.length->Db.get nx=some (.miter (.mp H) ck ((W ++ [e]).map ME.b) ck)->(∀ j,j≠nx->Db.get j=Ei.get j)->KW (kN k) (.yl L) [e.v] Db qY λd Gr Dx=>d=bv true/\J (W ++ [e]) Gr Dx)
  (hK:∀ W Ei qY,J W Ei qY->W.Perm es'->K (.tup []) Ei qY):QY k 146 [.yl L,.pt B 0] hp nx K:=by
 refine Cs2 BC BA AY AT Cs4 (Zz AW rfl) λes e1 e2 he=>?_
 have a0:Ae es (.t .o)=.yl L:=he 0 _ rfl
 have a1:Ae es (.t (.l .o))=.pt B 0:=he 1 _ rfl
 subst e1 e2
 unfold AO
 rw [Qf,Qn]
 simp only [Ax,↓Ba,a1,qM hB]
 refine tc (im:=H) (ck:=ck) (es':=es') (by simp only [Cg,bR,bP,Yq hH]) hH λEi Dm Cv=>?_
 simp only [bR] at Dm Cv
 have JB:∀ W:List ME,W.Nodup->(∀ e∈W,e∈es')->W.length<=es'.length:=λW h1 h2=>Jk h1 h2
 have Vg:es'.Nodup:=vo If.2
 rw [mT]
 refine AN (λm An=>∃ W,m=es'.length-W.length/\W.Nodup/\(∀ e∈W,e∈es')/\J W An.hp An.nx/\Ae An (.t .o)=.yl L/\Ae An (.t (.r (.r .o)))=.pt es.nx 0) es'.length ⟨[],rfl,.nil,λe h=>(by cases h),h0 _ Dm Cv,by simp only [bR,a0],by simp only [bR]⟩ ?_
 rintro m An ⟨W,rfl,pP,lD,hj,b0,b6⟩
 obtain ⟨j1,⟨o,j2⟩,j3,j4⟩:=hJ W _ _ hj
 unfold B19
 rw [Qf,qW]
 refine D8 (id:=es.nx) (im:=H) (ck:=ck) (es':=es') (seen:=W.map ME.b) (by simp only [Cg,bP,b6,Rk j4]) j4 j3 If.1 (λKa=>?_) λe Yv Ha Db Ft Et=>?_
 .have x0:∀ {Ao:Tr DObj},Fv Ao (.tup [.v (.bool false)]) 0=some (bv false):=rfl
  simp only [Ax,↓Ba,↓Nx,↓Tl,↓Qf,↓Qn,x0]
  refine hK W _ _ hj (xi pP Vg λx=>⟨lD x,λhx=>?_⟩)
  obtain ⟨y,hy,hb⟩:=Bm.1 (Ka x hx)
  have:y=x:=by
   obtain ⟨i1,h1,e1⟩:=El (lD y hy)
   obtain ⟨i2,h2,e2⟩:=El hx
   have Ha:∀ i j,(hi:i<es'.length)->(hj:j<es'.length)->i<j->es'[i].b≠es'[j].b:=λi j hi hj Oy=>by
    have:=Cy.1 If.2 i j (by rw [Br];exact hi) (by rw [Br];exact hj) Oy
    simpa using this
   rcases Nat.lt_trichotomy i1 i2 with Ez | Ez | Ez
   .exact absurd (by rw [e1,e2,hb]) (Ha i1 i2 h1 h2 Ez)
   .subst Ez;rw [<- e1,<- e2]
   .exact absurd (by rw [e1,e2,hb]) (Ha i2 i1 h2 h1 Ez)
  rw [<- this];exact hy
 .have x0:∀ {Ao:Tr DObj},Fv Ao (.tup [.v (.bool true),Qt e.k,e.v]) 0=some (bv true):=rfl
  have Nv:Db.get es.nx=some (.miter (.mp H) ck (W.map ME.b ++ [e.b]) ck):=Ft
  have hH2:=(Et H (by omega)).trans j3
  have O3:=(Et L (by omega)).trans j2
  have M5:e∉W:=λh=>Ha (Bm.2 ⟨e,h,rfl⟩)
  simp only [Ax,↓Ba,↓Nx,↓Tl,↓Qf,↓Qn,↓mT,↓qW,x0]
  refine D9 (e:=e) (s0:=W.map ME.b) (id:=es.nx) (im:=H) (ck:=ck) (es':=es') (by simp only [Cg,bR,bP,b6,Rk Nv]) (by simp only [];exact Nv) (by simp only [];exact hH2) Yv If.2 ?_
  simp only [Ax,↓Ba,↓Nx,↓Tl,hv e Yv,b0]
  have Ya:(W ++ [e]).Nodup:=Iq.2 ⟨pP,by simp,λa ha b hb=>by rw [Am.1 hb];exact λh=>M5 (h ▸ ha)⟩
  have Vd:∀ x∈W ++ [e],x∈es':=λx hx=>(Aw.1 hx).elim (lD x) λh=>by rw [Am.1 h];exact Yv
  have hlen:=JB (W ++ [e]) Ya Vd
  rw [Ap,Bf] at hlen
  obtain ⟨d,Gr,Dx,hc,rfl,QB⟩:=hw W _ _ e Db hj Yv M5 (by omega) (by rw [Cw];exact Nv) Et
  refine mV (L:=L) (o:=o) (by simp only [bR]) O3 ⟨_,Gr,Dx,(by simpa only [bR,Ag,Ak] using hc),?_⟩
  simp only [Ax,↓Ba,b0,b6]
  exact ⟨es'.length-(W ++ [e]).length,by rw [Ap,Bf];omega,W ++ [e],rfl,Ya,Vd,QB⟩
end
end Go.DD

/- Contracts: the values of a map are collected, in whatever order. Conditions: those that each theorem states. -/
namespace Go.DD
open Go Go.Proofs Go.Sort
def IJ(n0:Nat)(sl:Tr DV)(L bo I:Nat)(W:List Int)(hp:Tr DObj)(nx:Nat):Prop:=
 ∃ z T,hp.get L=some (.loop ⟨13,.t sl,[7],OM,OJ,.ready,none⟩)/\hp.get bo=some (.row T [z])/\OL rInt hp (λ_=>False) z W/\(∀ j∈z.refs,n0<=j/\j<nx/\j≠L/\j≠bo/\j≠I)/\n0<=L/\L<nx/\n0<=bo/\bo<nx/\L≠bo/\(I<nx/\I≠L/\I≠bo)/\Ae ⟨sl,.e,0⟩ (.t (.r .o))=.pt bo 0
section
variable (k n0:Nat) (hp:Tr DObj) (nx:Nat) (K:DV->Tr DObj->Nat->Prop)
theorem B21(sl:Tr DV)(L bo I:Nat)(W:List Int)(x:Int)(hn:n0<=nx)(hJ:IJ n0 sl L bo I W hp nx)(hW:W.length<900000)
  (hK:∀ Ao Bk,nx<=Bk->(∀ j,j<n0\/j=I->Ao.get j=hp.get j)->IJ n0 sl L bo I (W ++ [x]) Ao Bk->K (bv true) Ao Bk) :
  KW (kN (k+1)) (.yl L) [iv x] hp nx K:=by
 obtain ⟨z,T,j1,j2,j3,j4,j5,j6,j7,j8,j9,I3,s2⟩:=hJ
 refine nW j1 rfl rfl rfl rfl rfl ?_
 rw [show Dt 1000000 13 true OM=ti from Ca0]
 unfold ti
 have GY:∀ hp nx,Ae ⟨Ov [7] [iv x] sl,hp,nx⟩ (.t (.l (.l (.l .o))))=iv x:=λhp nx=>by
  show Ae ((ES.mk sl hp nx).putE (some (.l (.l (.l .o)))) (iv x)) (.t (.l (.l (.l .o))))=iv x
  simp only [bR]
 have tF:∀ hp nx,Ae ⟨Ov [7] [iv x] sl,hp,nx⟩ (.t (.r .o))=.pt bo 0:=λhp nx=>by
  show Ae ((ES.mk sl hp nx).putE (some (.l (.l (.l .o)))) (iv x)) (.t (.r .o))=.pt bo 0
  simp only [bR]
  exact s2
 generalize Ov [7] [iv x] sl=zz at GY tF
 simp only [Ax,↓Ba,GY]
 refine ⟨_,j1,rfl,?_⟩
 rw [show Dt 1000000 13 true OJ=tf from Ca1]
 unfold tf
 obtain ⟨lp,bL⟩:∃ lp:DLoop,lp=⟨13,.t sl,[7],OM,OJ,.busy,none⟩:=⟨_,rfl⟩
 have Yh:∀ j,j≠L->(hp.set L (some (.loop lp))).get j=hp.get j:=λj hj=>by rw [Tr.get_set,Ad (Ek hj)]
 have pJ:(hp.set L (some (.loop lp))).get L=some (.loop lp):=by rw [Tr.get_set,Af rfl]
 rw [<- bL]
 generalize hp.set L (some (.loop lp))=hq at Yh pJ ⊢
 have LA:hq.get bo=some (.row T [z]):=(Yh bo (Ek j9)).trans j2
 have bd:=j3.keep (Ao:=hq) λj hj=>hj.elim False.elim λh=>Yh j (j4 j h).2.2.1
 simp only [Ax,↓Ba,tF,qM LA]
 refine Vt (fl:=[iv x]) rfl (by simp only [Ag,Ak,Cg,bR,bP,Ns];rfl) λGr Ni Iz=>?_
 simp only [bR] at Ni Iz
 have I4:=bd.keep (Ao:=Gr) λj hj=>Iz j (hj.elim False.elim λh=>by have:=(j4 j h).2.1;omega)
 simp only [Ax,↓Ba]
 refine jT (R:=rInt) (p:=λ_=>False) (p2:=λ_=>False) (d:=z) (d2:=.ms nx 0 1 1) (l:=W) (m:=[x]) (by simp only [bR,bP]) I4 (by simp only [Cg,bR,bP];exact Rl Ni) (NB (R:=rInt) (x:=x) Ni rfl) rfl rfl (by rw [Bf];omega) (by decide) λGz Fp h4=>?_
 simp only [bR] at Fp h4
 have o4:=h4 (λ_=>False) λj hj=>(hj.elim False.elim False.elim:False).elim
 have N4:Gz.get bo=some (.row T [z]):=by rw [Fp bo (by omega) λh=>(j4 bo h).2.2.2.1 rfl,Iz bo (by omega),LA]
 obtain ⟨_,_,mi,gR,_⟩:=o4.get
 simp only [Ax,↓Ba]
 refine mN (id:=bo) (off:=0) (by simp only [bR,tF]) N4 (by simp only [Hl,bR];exact Rl gR) (dK _ _ _ _) (by simp) λHp Qb Io=>?_
 simp only [bR] at Qb Io
 simp only [Ax,↓Ba]
 have kj:Hp.get L=some (.loop lp):=by rw [Io L j9,Fp L (by omega) λh=>(j4 L h).2.2.1 rfl,Iz L (by omega),pJ]
 have k6:∀ j,j≠L->(Hp.set L (some (.loop { lp with st:=.ready,pend:=none }))).get j=Hp.get j:=λj hj=>by rw [Tr.get_set,Ad (Ek hj)]
 refine ⟨lp,kj,hK _ _ (by omega) (λj hj=>?_) ⟨_,T,by rw [Tr.get_set,Af rfl,bL],(k6 bo (Ek j9)).trans Qb,o4.keep λj hj=>?_,λj hj=>?_,j5,by omega,j7,by omega,j9,⟨by omega,I3.2⟩,s2⟩⟩
 .have QA:j≠L/\j≠bo/\j<nx/\j∉z.refs:=⟨by omega,by omega,by omega,λh=>by have:=j4 j h;omega⟩
  rw [k6 j QA.1,Io j QA.2.1,Fp j (by omega) QA.2.2.2,Iz j (by omega),Yh j QA.1]
 .have Tx:j≠bo/\j≠L:=hj.elim False.elim λh=>by
   have:j=nx+1:=by simpa [DV.refs] using h
   exact ⟨by omega,by omega⟩
  rw [k6 j Tx.2,Io j Tx.1]
 .have:j=nx+1:=by simpa [DV.refs] using hj
  exact ⟨by omega,by omega,by omega,by omega,by omega⟩
end
theorem IJ.keepI{n0:Nat}{sl:Tr DV}{L bo I:Nat}{W:List Int}{hp Ao:Tr DObj}{nx:Nat}(h:IJ n0 sl L bo I W hp nx)(hk:∀ j,j≠I->Ao.get j=hp.get j):IJ n0 sl L bo I W Ao nx:=by
 obtain ⟨z,T,j1,j2,j3,j4,j5,j6,j7,j8,j9,I3,s2⟩:=h
 exact ⟨z,T,(hk L (Ek I3.2.1)).trans j1,(hk bo (Ek I3.2.2)).trans j2,j3.keep λj hj=>hj.elim False.elim λh=>hk j (j4 j h).2.2.2.2,j4,j5,j6,j7,j8,j9,I3,s2⟩
def aX(e:ME):Int:=match e.v with
 | .v (.int _ n)=>n
 | _=>0
theorem Ck5:∀ {es:List ME} {hs:List (ByteArray×Int)},Mv es hs->(∀ e∈es,e.v=iv (aX e))/\es.map aX=hs.map λx=>x.2
 | [],[],_=>⟨λe he=>(by cases he),rfl⟩
 | [],_::_,h=>by cases h
 | _::_,[],h=>by cases h
 | e::es,x::hs,h=>by
  have h':(e.k,e.v)=(Value.string x.1,iv x.2)/\Mv es hs:=List.cons.inj h
  obtain ⟨h1,h2⟩:=h'
  have hv:=(Prod.mk.inj h1).2
  obtain ⟨a,b⟩:=Ck5 h2
  have e1:aX e=x.2:=by unfold aX;rw [hv]
  refine ⟨λy hy=>?_,by rw [Ag,Ag,e1,b]⟩
  rcases Aq.1 hy with rfl | hy
  .rw [hv,e1]
  .exact a y hy
def qd(k:Nat):Kl:=Qx Tryz.prog 1000000 (QY k) (λ_=>false) true (kN k)
theorem C26{k:Nat} : B2 Tryz.prog (qd k):=X2 (R4 (n:=1000000) mixed Vu W5 k) C25 mixed
def gH(B:Nat):DV:=.fn (.func 146) [.tup [],.pt B 0]
section
variable (k:Nat)
theorem B22{hp:Tr DObj}{nx B H U ck:Nat}{es':List ME}{hs:List (ByteArray×Int)}{K:DV->Tr DObj->Nat->Prop}(hd:B<nx/\H<nx)(hB:hp.get B=some (.row U [.mp H]))(hH:hp.get H=some (.mapo ck es'))(hm:Mv es' hs)(If:StO ck es')(hl:es'.length<900000)
  (hK:∀ Ao Bk z l,Al hp nx Ao Bk->RL rInt Ao (Bw nx Bk) z l->l.Perm (hs.map λx=>x.2)->K z Ao Bk):qd (k+1) 145 [Cl,gH B] hp nx K:=by
 refine TQ BD BB AZ AU Cs5 (Zz AX rfl) λes e1 e2 he=>?_
 have a0:Ae es (.t .o)=Cl:=he 0 _ rfl
 have a1:Ae es (.t (.l .o))=gH B:=he 1 _ rfl
 subst e1 e2
 unfold AP
 rw [Qf,Qn]
 simp only [↓Ba]
 refine Z5 (v:=Cl) (by simp only [Hl,a0];rfl) ⟨rfl,rfl⟩ λEi Dm Cv=>?_
 simp only [bR] at Dm Cv
 simp only [Ax,↓Ba,bP,a1,↓Qf,↓Qn,↓mT]
 have hB1:=(Cv B (by omega)).trans hB
 have hH1:=(Cv H (by omega)).trans hH
 obtain ⟨mv,mm⟩:=Ck5 hm
 have s2:∀ hp nx,Ae ⟨(((es.putE (some (.r .o)) (.pt es.nx 0)).putE (some (.r (.l .o))) (.v (.slice none 0 0))).putE (some (.r (.r .o))) (gH B)).sl,hp,nx⟩ (.t (.r .o))=.pt es.nx 0:=λhp nx=>by simp only [bR]
 have s6:∀ hp nx,Ae ⟨(((es.putE (some (.r .o)) (.pt es.nx 0)).putE (some (.r (.l .o))) (.v (.slice none 0 0))).putE (some (.r (.r .o))) (gH B)).sl,hp,nx⟩ (.t (.r (.r .o)))=gH B:=λhp nx=>by simp only [bR]
 generalize (((es.putE (some (.r .o)) (.pt es.nx 0)).putE (some (.r (.l .o))) (.v (.slice none 0 0))).putE (some (.r (.r .o))) (gH B)).sl=sl at s2 s6 ⊢
 have Ik:∀ (x:Option DObj) j,j≠es.nx+1->(Ei.set (es.nx+1) x).get j=Ei.get j:=λx j hj=>by rw [Tr.get_set,Ad (Ek hj)]
 refine ⟨146,[.pt B 0],?_,?_⟩
 .have:Oc ⟨sl,Ei,es.nx+1⟩ (.t (.r (.r .o)))=gH B:=by
   rw [Hl,s6]
   exact Wc λid hid=>by
    have:id=B:=by simpa [gH,DV.refs,DV.refsL] using hid
    rw [this,hB1];rfl
  rw [this];rfl
 .show QY (k+1) _ [.yl (es.nx+1),.pt B 0] (Ei.set (es.nx+1) _) (es.nx+1+1) _
  refine B20 (k+1) (L:=es.nx+1) (B:=B) (H:=H) (U:=U) (ck:=ck) (es':=es') (λW Db Hz=>IJ es.nx sl (es.nx+1) es.nx (es.nx+1+1) (W.map aX) Db Hz/\(∀ j,j<es.nx->Db.get j=Ei.get j)/\Db.get (es.nx+1+1)=some (.miter (.mp H) ck (W.map ME.b) ck)) ⟨by show es.nx+1<es.nx+1+1;omega,by show B<es.nx+1+1;omega,by show H<es.nx+1+1;omega⟩ ⟨_,by rw [Tr.get_set,Af rfl]⟩ ((Ik _ _ (by omega)).trans hB1) ((Ik _ _ (by omega)).trans hH1) If (λe he Ao=>by rw [mv e he];rfl) (λDb Ft Et=>?_) (λW Db Hz ⟨⟨z,T,j1,j2,j3,j4,j5,j6,j7,j8,j9,I3,j11⟩,h2,h3⟩=>?_) (λW Db Hz e Gr ⟨hJ,h2,h3⟩ he Ha oA Ni Iz=>?_) (λW Db Hz ⟨⟨z,T,j1,j2,j3,j4,j5,j6,j7,j8,j9,I3,j11⟩,h2,h3⟩ aF=>?_)
  .have JF:∀ j,j≠es.nx+1+1->j≠es.nx+1->Db.get j=Ei.get j:=λj h1 h2=>(Et j h1).trans (Ik _ j h2)
   refine ⟨⟨Cl,_,(Et (es.nx+1) (by omega)).trans (by rw [Tr.get_set,Af rfl]),(JF es.nx (by omega) (by omega)).trans Dm,.nil,λj hj=>(by cases hj),by omega,by omega,Ai _,by omega,by omega,⟨by omega,by omega,by omega⟩,s2 _ _⟩,λj hj=>JF j (by omega) (by omega),Ft⟩
  .exact ⟨by omega,⟨_,j1⟩,(h2 H (by omega)).trans hH1,h3⟩
  .rw [mv e he]
   have U8:=hJ.keepI (Ao:=Gr) Iz
   have Um:es.nx<=Hz:=by
    obtain ⟨_,_,_,_,_,_,j5,j6,_⟩:=hJ
    omega
   have hlen:(W.map aX).length<900000:=by rw [Br];omega
   refine B21 k es.nx _ _ _ sl (es.nx+1) es.nx (es.nx+1+1) (W.map aX) (aX e) Um U8 hlen λGz Mj bM Vl hJ4=>⟨rfl,by rw [Cw];exact hJ4,λj hj=>?_,(Vl _ (.inr rfl)).trans Ni⟩
   rw [Vl j (.inl hj),Iz j (by omega),h2 j hj]
  .refine ⟨_,j1,by simp,?_⟩
   have bI:∀ j,j≠es.nx+1->(Db.set (es.nx+1) none).get j=Db.get j:=λj hj=>by rw [Tr.get_set,Ad (Ek hj)]
   show XW (Gl (Db.set (es.nx+1) none) none (Ae ⟨sl,Db.set (es.nx+1) none,Hz⟩ (.t (.r .o)))) λd=>K (Cd (Db.set (es.nx+1) none) d) (Db.set (es.nx+1) none) Hz
   rw [s2,qM ((bI es.nx (by omega)).trans j2)]
   have o:=j3.keep (Ao:=Db.set (es.nx+1) none) λj hj=>hj.elim False.elim λh=>bI j (j4 j h).2.2.1
   refine xw_some.2 ?_
   rw [o.rl.live]
   exact hK _ _ z _ ⟨by omega,λj hj=>by rw [bI j (by omega),h2 j hj,Cv j (by omega)]⟩ (o.rl.mono λj hj=>hj.elim False.elim λh=>⟨(j4 j h).1,(j4 j h).2.1⟩) (by rw [<- mm];exact aF.map aX)
end
def qc(k:Nat):Kl:=Qx Tryz.prog 1000000 (qd k) (λf=>Nat.beq f 145) false (kN k)
theorem C27{k:Nat} : B2 Tryz.prog (qc k):=X2 (R4 (n:=1000000) mixed Vu W5 k) C26 mixed
theorem sI{wc:Kl}{call:Bg}{es:ES}{R:ES->Prop}{f:Nat}{args:List EO}{dst:Option Pa}{n:RE}(h:wc f (args.map (Ae es)) es.hp es.nx λd hp nx=>n wc call ((ES.mk es.sl hp nx).putE dst d) R):rW f args dst n wc call es R:=by
 unfold rW Yw
 rw [rX]
 exact h
section
variable (k:Nat)
theorem Bq6{hp:Tr DObj}{nx B H U ck:Nat}{es':List ME}{hs:List (ByteArray×Int)}{K:DV->Tr DObj->Nat->Prop}(hd:B<nx/\H<nx)(hB:hp.get B=some (.row U [.mp H]))(hH:hp.get H=some (.mapo ck es'))(hm:Mv es' hs)(If:StO ck es')(hl:es'.length<900000)
  (hK:∀ Ao Bk z l,Al hp nx Ao Bk->RL rInt Ao (Bw nx Bk) z l->l.Perm (hs.map λx=>x.2)->K z Ao Bk):qc (k+1) 95 [gH B] hp nx K:=by
 refine TQ VM VI VE UU C24 (Zz VA rfl) λes e1 e2 he=>?_
 have a0:Ae es (.t .o)=gH B:=he 0 _ rfl
 subst e1 e2
 unfold xp
 rw [Qf,Qn]
 simp only [Ax,↓Ba,bP,a0,↓Qf,↓Qn,↓qW,↓Nx]
 refine sI ?_
 simp only [Ag,Ak,bR]
 refine B22 k hd hB hH hm If hl λAo Bk z l al rl Db=>?_
 simp only [Ax,↓Ba,↓Nx,↓Tl,rl.live]
 exact hK _ _ z l al rl Db
end
end Go.DD

/- Contracts: slices.Grow of nil, slices.Concat of lists of numbers, maps.Values, the size of a tree. Conditions: those that each theorem states. -/
namespace Go.DD
open Go Go.Proofs Go.Sort
section
variable {call:Bg} {es:ES} {dst:Option Pa} {Q:ES->Prop}
theorem Ck6{t:Nat}(e1:Ae es (.t (Cm t))=Cl)(h:Q (es.putE dst (iv 0))):SW (sU dst (Bd (.cpn (.tmp t)))) call es Q:=by
 rw [sw_u,Fi]
 refine ⟨iv 0,.keep,?_,h⟩
 have f1:es.ds.ev (.tmp t)=Cl:=by rw [lQ,e1];rfl
 simp only [Ay,f1]
 rfl
theorem C28{t u T e b n:Nat}(e1:Ae es (.t (Cm t))=Cl)(e2:Ae es (.t (Cm u))=iv (n:Nat))(h0:0<n)(hn:n<900000)(he:0<e)(hb:b<=65536)(h:∀ Ao,Ao.get es.nx=some (.row T [])->(∀ j,j≠es.nx->Ao.get j=es.hp.get j)->Q ((ES.mk es.sl Ao (es.nx+1)).putE dst (.ms es.nx 0 n e))):SW (sU dst (Bd (.apz T e b (.tmp t) (.tmp u)))) call es Q:=by
 rw [sw_u,Fi]
 refine ⟨.ms es.nx 0 n e,.lay (.row T []),?_,h (es.up (.lay (.row T []))).hp (by rw [aO,get_set,Af rfl]) λj hj=>by rw [aO,get_set,Ad hj]⟩
 have f1:es.ds.ev (.tmp t)=Cl:=by rw [lQ,e1];rfl
 have f2:es.ds.ev (.tmp u)=iv (n:Nat):=by rw [lQ,e2];rfl
 simp only [Ay,f1,f2]
 show (if 0<((n:Nat):Int)/\((n:Nat):Int)<=2147483648/\b<=65536/\0<e then some (DV.ms es.nx 0 ((n:Nat):Int).toNat e,Upd.lay (DObj.row T [])) else none)=_
 rw [Af ⟨by omega,by omega,hb,he⟩]
 rfl
theorem C29{t u id n:Nat}{o:DObj}(e1:Ae es (.t (Cm t))=.ms id 0 n 1)(hi:es.hp.get id=some o)(e2:Ae es (.t (Cm u))=iv 0)(h:Q (es.putE dst (.ms id 0 0 1))):SW (sU dst (Bd (.sli 1 (.tmp t) none (some (.tmp u))))) call es Q:=by
 rw [sw_u,Fi]
 refine ⟨.ms id 0 0 1,.keep,?_,h⟩
 have f1:es.ds.ev (.tmp t)=.ms id 0 n 1:=by rw [lQ,e1];exact Rl hi
 have f2:es.ds.ev (.tmp u)=iv 0:=by rw [lQ,e2];rfl
 have f3:Im es.ds 0 none=some 0:=rfl
 have f4:Im es.ds n (some (.tmp u))=some 0:=by show Lh (es.ds.ev (.tmp u))=some 0;rw [f2];rfl
 simp only [Ay,f1,f3,f4]
 rw [Af ⟨trivial,by omega,by omega,by omega⟩]
 rfl
end
section
variable (k:Nat) (hp:Tr DObj) (nx:Nat) (K:DV->Tr DObj->Nat->Prop)
theorem Ca2{H:Nat}{o:DObj}(hH:hp.get H=some o)(hd:H<nx)(hK:∀ Ao,Ao.get nx=some (.row 138 [.mp H])->(∀ j,j≠nx->Ao.get j=hp.get j)->K (gH nx) Ao (nx+1)):KW (kN (k+1)) (.fn 96) [.mp H] hp nx K:=by
 refine En (Hm (by decide)) t96 (Ab rfl) λes e1 e2 he=>?_
 have a0:Ae es (.t .o)=.mp H:=he 0 _ rfl
 unfold yv
 subst e1 e2
 simp only [↓Ba]
 refine Z5 (v:=.mp H) (by simp only [Hl,a0];exact Yq hH) ⟨rfl,rfl⟩ λEi Dm Cv=>?_
 simp only [bR] at Dm Cv
 simp only [Ax,↓Ba,bP,Rk Dm]
 have hl:Cd Ei (gH es.nx)=gH es.nx:=Wc λid hid=>by
  have:id=es.nx:=by simpa [gH,DV.refs,DV.refsL] using hid
  rw [this,Dm];rfl
 show K (Cd Ei (gH es.nx)) Ei (es.nx+1)
 rw [hl]
 exact hK _ Dm Cv
theorem Cs6(n:Nat)(hn:n<900000)(hK:∀ Ao Bk z,Al hp nx Ao Bk->OL rInt Ao (λ_=>False) z []->(∀ j∈z.refs,nx<=j/\j<Bk)->K z Ao Bk):KW (kN (k+1)) (.fn 144) [Cl,iv (n:Nat)] hp nx K:=by
 refine En (Hm (by decide)) WR (Ab rfl) λes e1 e2 he=>?_
 have a0:Ae es (.t .o)=Cl:=he 0 _ rfl
 have a1:Ae es (.t (.l .o))=iv (n:Nat):=he 1 _ rfl
 unfold DM
 subst e1 e2
 simp only [Ax,↓Ba,bP,a0,a1,show decide ((n:Int)<0)=false from Aj (by omega)]
 refine Ck6 (by simp only [bR,bP]) ?_
 have bs:∀ m:Nat,m<900000->Ds .sub (iv (m:Nat)) (iv 0)=some (iv (m:Nat)):=λm hm=>by
  show some (DV.v (.int .i64 (IntKind.i64.wrap ((m:Int)-0))))=_
  rw [Int.sub_zero,Eo (by omega)]
 have b0:Ds .sub (iv 0) (iv 0)=some (iv 0):=bs 0 (by omega)
 have ln:Qo es.hp Cl=some (iv 0):=rfl
 by_cases h0:n=0
 .subst h0
  simp only [Ax,a0,ln,b0,show decide ((0:Int)<0)=false from rfl]
  exact hK _ _ Cl ⟨Ai _,λ_ _=>rfl⟩ .nil λj hj=>by cases hj
 .simp only [Ax,a0,ln,b0,bs n hn,Ar (show (0:Int)<(n:Int) by omega)]
  refine Ck6 (by simp only [bR,bP]) ?_
  refine C0 (R:=rInt) (p:=λ_=>False) (a:=0) (z:=0) (d:=Cl) (l:=[]) (by simp only [bR,bP]) .nil rfl rfl (λn hn=>by simp only [Y2,Cg,bR,bP];rfl) (by omega) (by simp) ?_
  simp only [Ax,↓Ba]
  refine C28 (n:=n) (by simp only [bR,bP];rfl) (by simp only [bR,bP]) (by omega) hn (by decide) (by decide) λEi Dm Cv=>?_
  simp only [bR] at Dm Cv
  simp only [Ax,a0,show Qo Ei Cl=some (iv 0) from rfl]
  show SW _ _ _ _
  refine C29 (id:=es.nx) (n:=n) (by simp only [bR,bP]) Dm (by simp only [bR,bP]) ?_
  simp only [Ax,↓Ba,bP,Rl Dm]
  exact hK _ _ (.ms es.nx 0 0 1) ⟨by omega,λj hj=>Cv j (by omega)⟩ (.ms es.nx [] [] Dm rfl) λj hj=>by
   have:j=es.nx:=by simpa [DV.refs] using hj
   omega
theorem rows_iv{hp:Tr DObj}{p:Nat->Prop} : ∀ {l:List Int} {ds:List DV},Rows rInt hp p ds l↔ds=l.map iv
 | [],ds=>Da
 | x::l,ds=>by
  constructor
  .rintro ⟨a,b,rfl,h1,h2⟩
   have:a=[iv x]:=h1
   rw [this,rows_iv.1 h2];rfl
  .intro h
   exact ⟨[iv x],l.map iv,h,rfl,rows_iv.2 rfl⟩
theorem Bc5{hp:Tr DObj}{p:Nat->Prop}{d:DV}{l:List (List Int)}(h:RL Qh hp p d l){i:Nat}(hi:i<l.length):∃ a,RL rInt hp p a l[i]/\Gl hp none (Ca 1 d i)=some a/\Rr hp 1 d (.v (.int .i64 (i:Int)))=some (Ca 1 d i):=by
 obtain ⟨a,h1,h2⟩:=B68 h hi
 exact ⟨a,h1,h2,h.ia hi⟩
theorem TO{l:List (List Int)}{i:Nat}(hi:i<l.length):(l.take (i+1)).flatten=(l.take i).flatten++l[i]:=by
 rw [Fy hi,List.flatten_append];simp
theorem B23{l:List (List Int)}{i:Nat} : (l.take i).flatten.length<=l.flatten.length:=by
 have:l.flatten=(l.take i).flatten++(l.drop i).flatten:=by rw [<- List.flatten_append,List.take_append_drop]
 rw [this,Ap];omega
theorem B24(n0:Nat)(d:DV)(ll:List (List Int))(hn:n0<=nx)(hd:RL Qh hp (Bl n0) d ll)(hl:ll.flatten.length<900000)(PZ:ll.length<900000)(hK:∀ Ao Bk z,Al hp nx Ao Bk->OL rInt Ao (λ_=>False) z ll.flatten->(∀ j∈z.refs,nx<=j/\j<Bk)->K z Ao Bk):KW (kN (k+2)) (.fn 94) [d] hp nx K:=by
 refine En (Hm (by decide)) t94 (Ab rfl) λes e1 e2 he=>?_
 have a0:Ae es (.t .o)=d:=he 0 _ rfl
 unfold yw
 subst e1 e2
 simp only [Ax,↓Ba,a0,hd.len]
 refine EW.up ll.length (λi An=>An.hp=es.hp/\An.nx=es.nx/\Ae An (.t .o)=d/\Ae An (.t (.l (.l .o)))=iv ((ll.take i).flatten.length:Nat)/\Ae An (.t (.l (.r (.l .o))))=d/\Ae An (.t (.r (.r (.l .o))))=iv ll.length/\Ae An (.t (.l (.l (.r .o))))=iv (i:Nat)) ?_ ⟨rfl,rfl,by simp only [bR,a0],by simp only [bR];rfl,by simp only [bR],by simp only [bR],by simp only [bR];rfl⟩ (by omega)
 rintro i An hi ⟨g1,g2,b0,b3,b9,b10,b11⟩
 unfold xI
 by_cases h:i<ll.length
 .have kV:RL Qh An.hp (Bl n0) d ll:=by rw [g1];exact hd
  obtain ⟨a,ra,la,ia⟩:=Bc5 kV h
  have hle:=B23 (l:=ll) (i:=i+1)
  rw [TO h,Ap] at hle
  simp only [Ax,↓Ba,b0,b3,b9,b10,b11,h,ia,la,ra.len,lN (show (ll.take i).flatten.length+ll[i].length<_ by omega),show decide ((((ll.take i).flatten.length+ll[i].length:Nat):Int)<0)=false from Aj (by omega),Jx (show i<_ by omega)]
  exact ⟨g1,g2,by rw [TO h,Ap]⟩
 .have Nv:i=ll.length:=by omega
  rw [Nv,List.take_length] at b3
  rw [<- g1,<- g2] at hK
  simp only [Ax,↓Ba,b3,b10,b11,h]
  refine Fl (Cs6 (k:=k) _ _ _ _ hl λDb Hz z Xf oz hz=>?_)
  have Hj:=Xf.le
  have rK:RL Qh Db (Bl n0) d ll:=by
   have kV:RL Qh An.hp (Bl n0) d ll:=by rw [g1];exact hd
   exact kV.ka (by omega) Xf
  simp only [Ax,↓Ba,b0,rK.len]
  refine EW.up ll.length (λi Cb=>∃ z,Al An.hp An.nx Cb.hp Cb.nx/\OL rInt Cb.hp (λ_=>False) z (ll.take i).flatten/\(∀ j∈z.refs,An.nx<=j/\j<Cb.nx)/\Ae Cb (.t (.r (.r .o)))=z/\Ae Cb (.t (.l (.r (.l (.r .o)))))=d/\Ae Cb (.t (.r (.r (.l (.r .o)))))=iv ll.length/\Ae Cb (.t (.l (.l (.r (.r .o)))))=iv (i:Nat)) ?_ ⟨z,Xf,oz,hz,by simp only [bR],by simp only [bR],by simp only [bR],by simp only [bR];rfl⟩ (by omega)
  rintro i Cb hi ⟨z,g,ho,hz,c6,c25,qm,ql⟩
  unfold xH
  have hle:=g.le
  by_cases h:i<ll.length
  .have hd3:RL Qh Cb.hp (Bl n0) d ll:=by
    have kV:RL Qh An.hp (Bl n0) d ll:=by rw [g1];exact hd
    exact kV.ka (by omega) g
   obtain ⟨a,ra,la,ia⟩:=Bc5 hd3 h
   have rI:=B23 (l:=ll) (i:=i+1)
   rw [TO h,Ap] at rI
   simp only [Ax,↓Ba,c6,c25,qm,ql,h,ia,la]
   refine jT (R:=rInt) (p:=λ_=>False) (p2:=λ_=>False) (d:=z) (d2:=a) (l:=(ll.take i).flatten) (m:=ll[i]) (by simp only [bR,bP]) ho (by simp only [Cg,bR,bP];exact ra.live) (by obtain ⟨ds,q1,q2⟩:=ra.srcD (es:=⟨_,Cb.hp,_⟩);exact ⟨ds,q1,rows_iv.2 (rows_iv.1 q2)⟩) rfl rfl (by omega) (by decide) λGz Fp h4=>?_
   simp only [bR] at Fp h4
   have o4:=h4 (λ_=>False) λj hj=>(hj.elim False.elim False.elim:False).elim
   simp only [Ax,↓Ba,c25,qm,ql,h,Jx (show i<_ by omega)]
   refine ⟨_,⟨by omega,λj hj=>?_⟩,by rw [TO h];exact o4,λj hj=>?_,rfl⟩
   .rw [Fp j (by omega) λhh=>by have:=hz j hh;omega,g.same j hj]
   .obtain rfl:j=Cb.nx:=by simpa [DV.refs] using hj
    omega
  .have Nv:i=ll.length:=by omega
   rw [Nv,List.take_length] at ho
   simp only [Ax,↓Ba,bP,c6,qm,ql,h,ho.rl.live]
   exact hK _ _ z g ho hz
end
end Go.DD

/- Maps from versions to their cells: what is found, what is put. A queue of numbers. Conditions: those that each theorem states. -/
namespace Go.DD
open Go Go.Proofs Go.Sort
def Fj(e:ME):Nat:=match e.k with
 | .int _ n=>n.toNat
 | _=>0
def MapC(hp:Tr DObj)(p:Nat->Prop)(F:Nat->List PCell)(es:List ME):Prop:=∀ e∈es,e.k=.int .i64 (Fj e:Nat)/\RL rCell hp p e.v (F (Fj e))
section
variable {hp Ao:Tr DObj} {p p':Nat->Prop} {F:Nat->List PCell} {es:List ME}
theorem MapC.keep(h:MapC hp p F es)(hk:∀ j,p j->Ao.get j=hp.get j):MapC Ao p F es:=λe he=>⟨(h e he).1,(h e he).2.keep hk⟩
theorem MapC.mono(h:MapC hp p F es)(hk:∀ j,p j->p' j):MapC hp p' F es:=λe he=>⟨(h e he).1,(h e he).2.mono hk⟩
theorem MapC.snoc(h:MapC hp p F es){v ck:Nat}{d:DV}(hd:RL rCell hp p d (F v)):MapC hp p F (es ++ [⟨.int .i64 (v:Nat),d,ck⟩]):=λe he=>(Aw.1 he).elim (h e) λhe=>by
 rw [Am.1 he]
 exact ⟨rfl,hd⟩
theorem C30(a b:Nat):Nc (.p (.int .i64)) (.int .i64 (a:Int)) (.int .i64 (b:Int))=some (decide (a=b)):=by
 show (if IntKind.i64=IntKind.i64 then some ((a:Int)==(b:Int)) else none)=_
 rw [Af rfl]
 congr 1
 by_cases h:a=b
 .subst h;simp
 .have:¬ (a:Int)=(b:Int):=by omega
  simp [h,this]
theorem RT(v:Nat):∀ {es:List ME} (i:Nat),(∀ e∈es,e.k=.int .i64 (Fj e:Nat))->(v∉es.map Fj/\findD (.p (.int .i64)) (.int .i64 (v:Nat)) es i=some none)\/∃ j e,e∈es/\Fj e=v/\findD (.p (.int .i64)) (.int .i64 (v:Nat)) es i=some (some (i+j,e))
 | [],i,_=>.inl ⟨by simp,rfl⟩
 | e::es,i,h=>by
  have hf:findD (.p (.int .i64)) (.int .i64 (v:Nat)) (e::es) i=if v=Fj e then some (some (i,e)) else findD (.p (.int .i64)) (.int .i64 (v:Nat)) es (i+1):=by
   show (match Nc (.p (.int .i64)) (.int .i64 (v:Nat)) e.k with
    | some true=>some (some (i,e))
    | some false=>findD (.p (.int .i64)) (.int .i64 (v:Nat)) es (i+1)
    | none=>none)=_
   rw [h e (by simp),C30]
   by_cases hs:v=Fj e
   .rw [Ar hs,Af hs]
   .rw [Aj hs,Ad hs]
  by_cases hx:v=Fj e
  .exact .inr ⟨0,e,by simp,hx.symm,by rw [hf,Af hx];rfl⟩
  .rcases RT v (i+1) (λe he=>h e (Be _ he)) with ⟨g1,g2⟩ | ⟨j,e',g1,g2,g3⟩
   .exact .inl ⟨by rw [Ag,Aq];exact λh=>h.elim hx g1,by rw [hf,Ad hx,g2]⟩
   .exact .inr ⟨j+1,e',by simp [g1],g2,by rw [hf,Ad hx,g3,Mr,Rm 1 j]⟩
theorem GC{im ck v:Nat}{es':List ME}(h:hp.get im=some (.mapo ck es'))(hm:MapC hp p F es'):∃ d,Rb hp (.p (.int .i64)) (.slice none 0 0) (.mp im) (iv (v:Nat))=some d/\RL rCell hp p d (if v∈es'.map Fj then F v else []):=by
 have e:Rb hp (.p (.int .i64)) (.slice none 0 0) (.mp im) (iv (v:Nat))=(match findD (.p (.int .i64)) (.int .i64 (v:Nat)) es' 0 with
   | some (some p)=>some (Gj false p.2.v true)
   | some none=>some (Gj false Cl false)
   | none=>none):=by
  show (match hp.get im with
   | some (.mapo _ es)=>match findD (.p (.int .i64)) (.int .i64 (v:Nat)) es 0 with
    | some (some p)=>some (Gj false p.2.v true)
    | some none=>some (Gj false Cl false)
    | none=>none
   | _=>none)=_
  rw [h]
 rcases RT v 0 λe he=>(hm e he).1 with ⟨g1,g2⟩ | ⟨j,x,g1,g2,g3⟩
 .rw [e,g2]
  exact ⟨Cl,rfl,by rw [Ad g1];exact .nil⟩
 .rw [e,g3]
  refine ⟨x.v,rfl,?_⟩
  have:=(hm x g1).2
  rw [g2] at this
  rw [Af (Bm.2 ⟨x,g1,g2⟩)]
  exact this
section
variable {call:Bg} {es:ES} {dst:Option Pa} {q:Hold (ES->Prop)}
theorem B25{t u im ck v:Nat}{es':List ME}(e1:es.ds.ev (.tmp t)=.mp im)(hm:es.hp.get im=some (.mapo ck es'))(hk:MapC es.hp p F es')(e2:es.ds.ev (.tmp u)=iv (v:Nat))
  (h:∀ d,RL rCell es.hp p d (if v∈es'.map Fj then F v else [])->q.val (es.putE dst (.tup [d,bv (decide (v∈es'.map Fj))]))):Nr (sU dst (Bd (.lkp (.p (.int .i64)) (.slice none 0 0) (.tmp t) (.tmp u) true))) call es:=by
 show SW _ _ _ _
 rw [sw_u,Fi]
 have e:Ay es.nx es.ds (.lkp (.p (.int .i64)) (.slice none 0 0) (.tmp t) (.tmp u) true)=(match findD (.p (.int .i64)) (.int .i64 (v:Nat)) es' 0 with
   | some (some p)=>some (Gj true p.2.v true,Upd.keep)
   | some none=>some (Gj true Cl false,Upd.keep)
   | none=>none):=by
  simp only [Ay,e1,e2]
  show (match es.hp.get im with
   | some (.mapo _ es)=>match findD (.p (.int .i64)) (.int .i64 (v:Nat)) es 0 with
    | some (some p)=>some (Gj true p.2.v true,Upd.keep)
    | some none=>some (Gj true Cl false,Upd.keep)
    | none=>none
   | _=>none)=_
  rw [hm]
 rcases RT v 0 λe he=>(hk e he).1 with ⟨g1,g2⟩ | ⟨j,x,g1,g2,g3⟩
 .have:=h Cl (by rw [Ad g1];exact .nil)
  rw [Aj g1] at this
  rw [e,g2]
  exact ⟨_,_,rfl,this⟩
 .have:=h x.v (by
   have:=(hk x g1).2
   rw [g2] at this
   rw [Af (Bm.2 ⟨x,g1,g2⟩)]
   exact this)
  rw [Ar (Bm.2 ⟨x,g1,g2⟩)] at this
  rw [e,g3]
  exact ⟨_,_,rfl,this⟩
theorem Cs7{t:Nat}{u w:Operand}{im ck v:Nat}{es':List ME}{d:DV}(e1:es.ds.ev (.tmp t)=.mp im)(hm:es.hp.get im=some (.mapo ck es'))(hk:MapC es.hp p F es')(e2:es.ds.ev u=iv (v:Nat))(e3:es.ds.ev w=d)(hv:v∉es'.map Fj)
  (h:∀ Ao,Ao.get im=some (.mapo (ck+1) (es' ++ [⟨.int .i64 (v:Nat),d,ck⟩]))->(∀ j,j≠im->Ao.get j=es.hp.get j)->q.val ((ES.mk es.sl Ao es.nx).putE dst .any)) :
  Nr (sU dst (Bd (.mup (.p (.int .i64)) (.tmp t) u w))) call es:=by
 show SW _ _ _ _
 rw [sw_u,Fi]
 have h1:Nd (.p (.int .i64)) (.int .i64 (v:Nat)) d ck es'=some (ck+1,es' ++ [⟨.int .i64 (v:Nat),d,ck⟩]):=by
  rcases RT v 0 λe he=>(hk e he).1 with ⟨g1,g2⟩ | ⟨j,x,g1,g2,g3⟩
  .unfold Nd;rw [g2]
  .exact absurd (Bm.2 ⟨x,g1,g2⟩) hv
 obtain ⟨Cb,mE⟩:∃ Cb:List ME,Cb=es' ++ [⟨.int .i64 (v:Nat),d,ck⟩]:=⟨_,rfl⟩
 rw [<- mE] at h1
 refine ⟨.any,.wr im (.mapo (ck+1) Cb),?_,h (es.up (.wr im (.mapo (ck+1) Cb))).hp (by rw [Kh,get_set,Af rfl,mE]) λj hj=>by rw [Kh,get_set,Ad hj]⟩
 simp only [Ay,e1,e2,e3]
 show (match es.hp.get im with
  | some (.mapo ck es)=>match Nd (.p (.int .i64)) (.int .i64 (v:Nat)) d ck es with
   | some p=>some (DV.any,Upd.wr im (.mapo p.1 p.2))
   | none=>none
  | _=>none)=_
 rw [hm]
 simp only [h1]
end
end
inductive QL (hp:Tr DObj):DV->List Int->Prop
 | nil:QL hp Cl []
 | sl:QL hp (.sl [] 0) []
 | ms (id:Nat) (pre l:List Int) (h:hp.get id=some (.row rInt.T ((pre++l).map iv))):QL hp (.ms id pre.length l.length 1) l
section
variable {hp Ao:Tr DObj} {z:DV} {l:List Int}
theorem QL.rl(h:QL hp z l):RL rInt hp (λj=>j∈z.refs) z l:=by
 cases h with
 | nil=>exact .nil
 | sl=>exact .sl []
 | ms id pre l h=>
  refine .ms id pre.length _ l h (by simp [DV.refs]) (by show pre.length+l.length*1<=_;rw [Br,Ap];omega) (rows_iv.2 ?_) λc hc=>?_
  .show (((pre++l).map iv).drop pre.length).take (l.length*1)=_
   rw [<- List.map_drop,List.drop_left,Cc (by rw [Br];omega)]
  .obtain ⟨x,_,rfl⟩:=Bm.1 hc
   exact Cz1 5 _ _
theorem QL.keep(h:QL hp z l)(hk:∀ j∈z.refs,Ao.get j=hp.get j):QL Ao z l:=by
 cases h with
 | nil=>exact .nil
 | sl=>exact .sl
 | ms id pre l h=>exact .ms id pre l ((hk id (by simp [DV.refs])).trans h)
theorem QL.of(h:OL rInt hp (λ_=>False) z l):QL hp z l:=by
 cases h with
 | nil=>exact .nil
 | ms id fl l h hr=>
  rw [rows_iv.1 hr] at h
  exact .ms id [] l h
theorem QL.tail{x:Int}(h:QL hp z (x::l)):QL hp (lY 1 1 (x::l).length z) l:=by
 generalize hm:x::l=m at h
 cases h with
 | nil=>cases hm
 | sl=>cases hm
 | ms id pre m h=>
  subst hm
  show QL hp (if 1<(x::l).length\/1=0 then .ms id (pre.length+1*1) ((x::l).length-1) 1 else .sl [] 0) l
  by_cases hl:1<(x::l).length
  .rw [Af (.inl hl)]
   have:=QL.ms (hp:=hp) id (pre ++ [x]) l (by rw [Bu];exact h)
   rw [Ap] at this
   exact this
  .rw [Ad (by omega)]
   have:l=[]:=by cases l with
    | nil=>rfl
    | cons=>simp at hl
   rw [this]
   exact .sl
theorem UP{wc:Kl}{call:Bg}{es:ES}{R:ES->Prop}{T e b t:Nat}{u:Operand}{dst:Option Pa}{n:RE}{d2:DV}{x:Int}(e1:Ae es (.t (Cm t))=z)(hz:QL es.hp z l)(hl:l≠[])(e2:es.ds.ev u=d2)(hs:srcD es.ds rInt.T 1 d2=some ([iv x],1))(hT:T=rInt.T)(he:e=1)(hb:b<=65536)(hn:l.length<900000)
  (h:∀ Ao z',QL Ao z' (l ++ [x])->z'.refs=[es.nx]->(∀ j,j≠es.nx->j∉z.refs->Ao.get j=es.hp.get j)->n wc call ((ES.mk es.sl Ao (es.nx+1)).putE dst z') R):rA T e b (.tmp t) u dst n wc call es R:=by
 subst hT he
 cases hz with
 | nil=>exact absurd rfl hl
 | sl=>exact absurd rfl hl
 | ms id pre l hg=>
  have f1:es.ds.ev (.tmp t)=.ms id pre.length l.length 1:=by rw [lQ,e1];exact Rl hg
  have hlen:((pre++l).map iv).length=pre.length+l.length:=by rw [Br,Ap]
  have key:∀ (z':DV) (cs:List DV),(∀ Ao:Tr DObj,Ao.get es.nx=some (.row rInt.T cs)->QL Ao z' (l ++ [x]))->z'.refs=[es.nx]->n wc call ((ES.mk es.sl (Ki (Ki es.hp id none) es.nx (some (.row rInt.T cs))) (es.nx+1)).putE dst z') R:=λz' cs h1 h2=>h _ z' (h1 _ (by rw [get_set,Af rfl])) h2 λj hj Qv=>by
   rw [get_set,Ad hj,get_set,Ad λe=>Qv (by rw [e];simp [DV.refs])]
  by_cases h0:pre=[]
  .subst h0
   refine .inl ?_
   rw [sw_u,Fi]
   refine ⟨.ms es.nx 0 (l.length+1) 1,.mv (some id) (.row rInt.T (l.map iv ++ [iv x])),?_,?_⟩
   .simp only [Ay,f1,e2,hs]
    have:dstD es.ds rInt.T 1 (.ms id 0 l.length 1)=some (some id,l.map iv,l.length):=by
     show (match es.hp.get id with
     | some (.row T' cs)=>if T'=rInt.T/\1=1/\cs.length=l.length*1 then some (some id,cs,l.length) else none
     | _=>none)=_
     rw [hg]
     simp only []
     rw [Af ⟨trivial,trivial,by rw [hlen];show 0+_=_;omega⟩];rfl
    rw [show ([]:List Int).length=0 from rfl,this]
    simp only []
    rw [Af ⟨rfl,by omega,by omega,hb⟩]
   .refine key (.ms es.nx 0 (l.length+1) 1) _ (λAo bQ=>?_) (by simp [DV.refs])
    have:=QL.ms (hp:=Ao) es.nx [] (l ++ [x]) (by rw [bQ,Bv,Cw];rfl)
    rw [Ap] at this
    exact this
  .have Ng:0<pre.length:=Rh.2 h0
   have hc:(((pre++l).map iv).drop pre.length ++ [iv x])=([]++(l ++ [x])).map iv:=by
    rw [<- List.map_drop,List.drop_left,Bv,Cw];rfl
   have Yg:((pre++l).map iv ++ [iv x])=(pre++(l ++ [x])).map iv:=by
    rw [<- Bu,Cw (l₁:=pre++l)];rfl
   refine .inr ⟨[(.ms es.nx 0 (l.length+1) 1,.mv (some id) (.row rInt.T (((pre++l).map iv).drop pre.length ++ [iv x]))),(.ms es.nx pre.length (l.length+1) 1,.mv (some id) (.row rInt.T ((pre++l).map iv ++ [iv x])))],?_,?_⟩
   .unfold Uf
    simp only [f1,e2,hs]
    have Ft:es.ds.ho id=some (.row rInt.T ((pre++l).map iv)):=hg
    rw [Ft]
    simp only []
    rw [Af ⟨trivial,trivial,by omega,by rw [hlen];omega,rfl,by omega,by omega,by omega,hb⟩]
   .intro p hp
    rcases Aq.1 hp with rfl | hp
    .refine key _ _ (λAo bQ=>?_) (by simp [DV.refs])
     have:=QL.ms (hp:=Ao) es.nx [] (l ++ [x]) (by rw [bQ,hc])
     rw [Ap] at this
     exact this
    .rw [Am.1 hp]
     refine key _ _ (λAo bQ=>?_) (by simp [DV.refs])
     have:=QL.ms (hp:=Ao) es.nx pre (l ++ [x]) (by rw [bQ,Yg])
     rw [Ap] at this
     exact this
end
end Go.DD

/- Contracts: the ancestors of a version. Conditions: those that each theorem states. -/
namespace Go.DD
open Go Go.Proofs Go.Sort
def Oi(o:List Bool):List Int->List Bool
 | []=>o
 | p::l=>Oi (o.set p.toNat true) l
theorem markL_len:∀ {l:List Int} {o:List Bool},(Oi o l).length=o.length
 | [],_=>rfl
 | _::l,_=>(markL_len (l:=l)).trans (Mx ..)
section
variable {call:Bg} {es:ES} {dst:Option Pa} {q:Hold (ES->Prop)}
theorem Ca3{x y:Operand}{n:Nat}(hx:es.ds.ev x=iv n)(hy:es.ds.ev y=iv n)(hn:n<=65536)
  (h:∀ Ao,Ao.get es.nx=some (.row 4 ((List.replicate n false).map bv))->(∀ j,j≠es.nx->Ao.get j=es.hp.get j)->q.val ((ES.mk es.sl Ao (es.nx+1)).putE dst (.ms es.nx 0 n 1))):Nr (sU dst (Bd (.mks 4 1 1 [.bool false] x y))) call es:=by
 show SW _ _ _ _
 rw [sw_u,Fi]
 have e:(List.replicate n ([Value.bool false].map DV.v)).flatten=(List.replicate n false).map bv:=by
  clear h hx hy hn
  induction n with
  | zero=>rfl
  | succ n ih=>rw [Jd,List.flatten_cons,ih];rfl
 refine ⟨.ms es.nx 0 n 1,.lay (.row 4 ((List.replicate n false).map bv)),?_,?_⟩
 .simp only [Ay,hx,hy,iv,Lh]
  rw [Af ⟨by omega,by omega,by omega,by omega,rfl,by omega⟩,Hc,e]
 .exact h (es.up (.lay (.row 4 ((List.replicate n false).map bv)))).hp (by rw [aO,get_set,Af rfl]) λj hj=>by rw [aO,get_set,Ad hj]
end
theorem dR{hp:Tr DObj}{id n i:Nat}{o:DObj}(h:hp.get id=some o)(hi:i<n):Rr hp 1 (.ms id 0 n 1) (.v (.int .i64 (i:Int)))=some (.pt id i):=by
 have:=GQ (off:=0) (e:=1) h hi
 rw [Nat.mul_one,Cp] at this
 exact this
theorem H9{hp:Tr DObj}{id i:Nat}{o:List Bool}(h:hp.get id=some (.row 4 (o.map bv)))(hi:i<o.length):Gl hp none (.pt id i)=some (bv o[i]):=Qi h (by rw [Ee,Aa hi];rfl)
section
variable {hp:Tr DObj} {nx T H:Nat} {nd:DV} {S:PTree} (k:Nat) (K:DV->Tr DObj->Nat->Prop)
end
def Qk(x y:List Bool):Nat->Nat
 | 0=>0
 | v+1=>if x[v+1]?=some true/\y[v+1]?=some true then v+1 else Qk x y v
section
variable {hp:Tr DObj} {nx T H:Nat} {nd:DV} {S:PTree} (k:Nat) (K:DV->Tr DObj->Nat->Prop)
end
end Go.DD

/- Plain: a version's ancestors; the greatest common one. Conditions: those that each theorem states. -/
namespace Go.DD
open Go Go.Proofs Go.Sort
namespace GTree
def ancF(S:GTree):Nat->List Bool->List Bool
 | 0,o=>o
 | i+1,o=>ancF S i (if o[i+1]?=some true then Oi o (S.parG (i+1)) else o)
def anc(S:GTree)(v:Nat):List Bool:=S.ancF v ((List.replicate (S.vers.length+1) false).set v true)
def baseG(S:GTree)(a b:Nat):Nat:=Qk (S.anc a) (S.anc b) (min a b)
inductive Anc (S:GTree):Nat->Nat->Prop
 | refl (v:Nat):Anc S v v
 | step {v u:Nat} {q:Int} : q∈S.parG v->Anc S q.toNat u->Anc S v u
variable {S:GTree}
theorem Anc.le(hS:S.OK){v u:Nat}(h:S.Anc v u):1<=v->v<=S.vers.length->1<=u/\u<=v:=by
 induction h with
 | refl=>exact λh1 _=>⟨h1,Ai _⟩
 | step hq _ ih=>
  intro h1 h2
  have:=hS.p _ h1 h2 _ hq
  have:=ih (by omega) (by omega)
  omega
theorem ancF_len:∀ {i:Nat} {o:List Bool},(S.ancF i o).length=o.length
 | 0,_=>rfl
 | i+1,o=>(ancF_len (i:=i)).trans (by split <;> simp [markL_len])
theorem anc_len{v:Nat} : (S.anc v).length=S.vers.length+1:=ancF_len.trans (by simp)
theorem Bn4:∀ {l:List Int} {o:List Bool} {u:Nat},(∀ q∈l,q.toNat<o.length)->((Oi o l)[u]?=some true↔o[u]?=some true\/∃ q∈l,q.toNat=u)
 | [],o,u,_=>⟨.inl,λh=>h.elim id λ⟨_,h,_⟩=>nomatch h⟩
 | p::l,o,u,h=>by
  show (Oi (o.set p.toNat true) l)[u]?=some true↔_
  rw [Bn4 (l:=l) λq hq=>by rw [Mx];exact h q (by simp [hq])]
  have hp:=h p (by simp)
  constructor
  .rintro (h1 | ⟨q,hq,rfl⟩)
   .by_cases e:p.toNat=u
    .exact .inr ⟨p,by simp,e⟩
    .rw [aT e] at h1;exact .inl h1
   .exact .inr ⟨q,by simp [hq],rfl⟩
  .rintro (h1 | ⟨q,hq,rfl⟩)
   .by_cases e:p.toNat=u
    .subst e;exact .inl (by rw [Xj hp])
    .exact .inl (by rw [aT e];exact h1)
   .rcases Aq.1 hq with rfl | hq
    .exact .inl (by rw [Xj hp])
    .exact .inr ⟨q,hq,rfl⟩
theorem we(hS:S.OK):∀ {i:Nat} {o:List Bool} {u:Nat},i<=S.vers.length->o.length=S.vers.length+1->((S.ancF i o)[u]?=some true↔o[u]?=some true\/∃ w,1<=w/\w<=i/\o[w]?=some true/\S.Anc w u)
 | 0,o,u,_,_=>⟨.inl,λh=>h.elim id λ⟨w,h1,h2,_⟩=>by omega⟩
 | i+1,o,u,hi,ho=>by
  show (S.ancF i (if o[i+1]?=some true then Oi o (S.parG (i+1)) else o))[u]?=some true↔_
  have bJ:∀ q∈S.parG (i+1),1<=q/\q<((i+1:Nat):Int):=hS.p (i+1) (by omega) hi
  by_cases h:o[i+1]?=some true
  .rw [Af h]
   have hm:∀ {u:Nat},(Oi o (S.parG (i+1)))[u]?=some true↔o[u]?=some true\/∃ q∈S.parG (i+1),q.toNat=u:=Bn4 λq hq=>by have:=bJ q hq;omega
   rw [we hS (by omega) (markL_len.trans ho),hm]
   constructor
   .rintro ((h1 | ⟨q,hq,rfl⟩) | ⟨w,h1,h2,h3,h4⟩)
    .exact .inl h1
    .exact .inr ⟨i+1,by omega,Ai _,h,.step hq (.refl _)⟩
    .rcases hm.1 h3 with h3 | ⟨q,hq,rfl⟩
     .exact .inr ⟨w,h1,by omega,h3,h4⟩
     .exact .inr ⟨i+1,by omega,Ai _,h,.step hq h4⟩
   .rintro (h1 | ⟨w,h1,h2,h3,h4⟩)
    .exact .inl (.inl h1)
    .by_cases hw:w<=i
     .exact .inr ⟨w,h1,hw,hm.2 (.inl h3),h4⟩
     .obtain rfl:w=i+1:=by omega
      cases h4 with
      | refl=>exact .inl (.inl h)
      | step hq h5=>
       rename_i q
       have:=bJ q hq
       exact .inr ⟨q.toNat,by omega,by omega,hm.2 (.inr ⟨q,hq,rfl⟩),h5⟩
  .rw [Ad h,we hS (by omega) ho]
   constructor
   .rintro (h1 | ⟨w,h1,h2,h3,h4⟩)
    .exact .inl h1
    .exact .inr ⟨w,h1,by omega,h3,h4⟩
   .rintro (h1 | ⟨w,h1,h2,h3,h4⟩)
    .exact .inl h1
    .by_cases hw:w<=i
     .exact .inr ⟨w,h1,hw,h3,h4⟩
     .obtain rfl:w=i+1:=by omega
      exact absurd h3 h
theorem W0(hS:S.OK){v u:Nat}(h1:1<=v)(h2:v<=S.vers.length):(S.anc v)[u]?=some true↔S.Anc v u:=by
 have Ik:∀ {w:Nat},((List.replicate (S.vers.length+1) false).set v true)[w]?=some true↔w=v:=λ{w}=>by
  by_cases e:v=w
  .subst e
   rw [Xj (by simp;omega)]
   simp
  .rw [aT e,Wg]
   constructor
   .intro h;split at h <;> cases h
   .intro h;exact absurd h.symm e
 unfold anc
 rw [we hS h2 (by simp),Ik]
 constructor
 .rintro (rfl | ⟨w,_,_,h5,h6⟩)
  .exact .refl _
  .rw [Ik.1 h5] at h6;exact h6
 .intro h
  exact .inr ⟨v,h1,Ai _,Ik.2 rfl,h⟩
theorem Bn5{x y:List Bool} : ∀ {n:Nat},Qk x y n<=n/\(Qk x y n≠0->x[Qk x y n]?=some true/\y[Qk x y n]?=some true)/\∀ k,1<=k->k<=n->x[k]?=some true->y[k]?=some true->k<=Qk x y n
 | 0=>⟨Ai _,λh=>absurd rfl h,λk h1 h2=>by omega⟩
 | n+1=>by
  obtain ⟨a,b,c⟩:=Bn5 (x:=x) (y:=y) (n:=n)
  have e:Qk x y (n+1)=if x[n+1]?=some true/\y[n+1]?=some true then n+1 else Qk x y n:=rfl
  by_cases h:x[n+1]?=some true/\y[n+1]?=some true
  .rw [Af h] at e
   rw [e]
   exact ⟨Ai _,λ_=>h,λk _ h2 _ _=>h2⟩
  .rw [Ad h] at e
   rw [e]
   refine ⟨by omega,b,λk h1 h2 h3 h4=>?_⟩
   by_cases hk:k<=n
   .exact c k h1 hk h3 h4
   .obtain rfl:k=n+1:=by omega
    exact absurd ⟨h3,h4⟩ h
structure OKB (S:GTree):Prop where
 r:∀ v,2<=v->v<=S.vers.length->S.parG v≠[]
 b:∀ v w,1<=v->v<=S.vers.length->1<=w->w<=S.vers.length->S.isG v=false->S.isG w=false->S.isG (S.baseG v w)=false
theorem B26(hS:S.OK)(hr:∀ v,2<=v->v<=S.vers.length->S.parG v≠[]){v:Nat} : 1<=v->v<=S.vers.length->S.Anc v 1:=by
 induction v using Nat.strongRecOn with
 | _ v ih=>
  intro h1 h2
  by_cases h:v=1
  .subst h;exact .refl _
  .cases hp:S.parG v with
   | nil=>exact absurd hp (hr v (by omega) h2)
   | cons q l=>
    have hq:q∈S.parG v:=by rw [hp];simp
    have:=hS.p v h1 h2 q hq
    exact .step hq (ih q.toNat (by omega) (by omega) (by omega))
theorem base_spec(hS:S.OK)(hr:∀ v,2<=v->v<=S.vers.length->S.parG v≠[]){v w:Nat}(hv:1<=v/\v<=S.vers.length)(hw:1<=w/\w<=S.vers.length):(1<=S.baseG v w/\S.baseG v w<=v/\S.baseG v w<=w)/\S.Anc v (S.baseG v w)/\S.Anc w (S.baseG v w)/\∀ k,S.Anc v k->S.Anc w k->k<=S.baseG v w:=by
 obtain ⟨h1,h2,h3⟩:=Bn5 (x:=S.anc v) (y:=S.anc w) (n:=min v w)
 have one:=h3 1 (Ai _) (by omega) ((W0 hS hv.1 hv.2).2 (B26 hS hr hv.1 hv.2)) ((W0 hS hw.1 hw.2).2 (B26 hS hr hw.1 hw.2))
 have zN:S.baseG v w<=min v w:=h1
 have ZT:1<=S.baseG v w:=one
 obtain ⟨a,b⟩:=h2 (by omega)
 refine ⟨⟨ZT,by omega,by omega⟩,(W0 hS hv.1 hv.2).1 a,(W0 hS hw.1 hw.2).1 b,λk ha hb=>?_⟩
 have ka:=ha.le hS hv.1 hv.2
 have kb:=hb.le hS hw.1 hw.2
 exact h3 k ka.1 (by omega) ((W0 hS hv.1 hv.2).2 ha) ((W0 hS hw.1 hw.2).2 hb)
theorem base_self(hS:S.OK)(hr:∀ v,2<=v->v<=S.vers.length->S.parG v≠[]){v:Nat}(hv:1<=v/\v<=S.vers.length):S.baseG v v=v:=by
 obtain ⟨⟨_,h1,_⟩,_,_,h2⟩:=base_spec hS hr hv hv
 have:=h2 v (.refl _) (.refl _)
 omega
theorem base_comm(hS:S.OK)(hr:∀ v,2<=v->v<=S.vers.length->S.parG v≠[]){v w:Nat}(hv:1<=v/\v<=S.vers.length)(hw:1<=w/\w<=S.vers.length):S.baseG v w=S.baseG w v:=by
 obtain ⟨_,a1,a2,a3⟩:=base_spec hS hr hv hw
 obtain ⟨_,b1,b2,b3⟩:=base_spec hS hr hw hv
 have:=a3 _ b2 b1
 have:=b3 _ a2 a1
 omega
end GTree
end Go.DD

/- Plain: bases stay where a version is added; contracts of ancestors and base. Conditions: those that each theorem states. -/
namespace Go.DD
open Go Go.Proofs Go.Sort
namespace GTree
variable {S:GTree}
theorem base_uniq(hS:S.OK)(hr:∀ v,2<=v->v<=S.vers.length->S.parG v≠[]){v w k:Nat}(hv:1<=v/\v<=S.vers.length)(hw:1<=w/\w<=S.vers.length)(h1:S.Anc v k)(h2:S.Anc w k)(h3:∀ j,S.Anc v j->S.Anc w j->j<=k):S.baseG v w=k:=by
 obtain ⟨_,a1,a2,a3⟩:=base_spec hS hr hv hw
 have:=a3 _ h1 h2
 have:=h3 _ a1 a2
 omega
end GTree
section
variable {hp:Tr DObj} {nx T H:Nat} {nd:DV} {S:GTree} (k:Nat) (K:DV->Tr DObj->Nat->Prop)
theorem Ck7(v:Nat)(h:TreeG hp nx T H nd S)(hv:1<=v/\v<=S.vers.length)(hK:∀ Ao,Al hp nx Ao (nx+1)->Ao.get nx=some (.row 4 ((S.anc v).map bv))->K (.ms nx 0 (S.vers.length+1) 1) Ao (nx+1)):KW (kN (k+2)) (.fn 143) [.pt T 0,iv (v:Nat)] hp nx K:=by
 refine En (Hm (by decide)) WS (Ab rfl) λes e1 e2 he=>?_
 have a0:Ae es (.t .o)=.pt T 0:=he 0 _ rfl
 have a1:Ae es (.t (.l .o))=iv (v:Nat):=he 1 _ rfl
 unfold DN
 subst e1 e2
 obtain ⟨d,a,z,hT,⟨_,f3,_,_⟩,⟨_,_,l3,_⟩,_⟩:=h.ld
 have r:=h.nl
 have hlen:Qo es.hp nd=some (.v (.int .i64 (S.vers.length:Int))):=by rw [r.len,S.nodes_len]
 have IQ:=h.ok.n
 simp only [Ax,↓Ba,bP,a0,↓Ut,Rk hT,Xg,f3,l3,hlen,Jx (show S.vers.length<_ by omega),↓Ch3]
 refine Ca3 (n:=S.vers.length+1) (by simp only [Cg,bR,bP,Ns]) (by simp only [Cg,bR,bP,Ns]) (by omega) λEi Dm Cv=>?_
 simp only [bR] at Dm Cv
 simp only [Ax,↓Ba,a1,dR Dm (show v<S.vers.length+1 by omega)]
 refine mN (id:=es.nx) (off:=v) (v:=bv true) (by simp only [bR]) Dm (by rfl) ⟨rfl,rfl⟩ (by rw [Br,List.length_replicate];omega) λDb Ft Et=>?_
 simp only [bR] at Ft Et
 rw [<- List.map_set] at Ft
 have Xf:Al es.hp es.nx Db (es.nx+1):=⟨by omega,λj hj=>by rw [Et j (by omega),Cv j (by omega)]⟩
 simp only [Ax,↓Ba,a1]
 refine EW.up v (λj An=>∃ o:List Bool,o.length=S.vers.length+1/\S.ancF (v-j) o=S.anc v/\Al es.hp es.nx An.hp An.nx/\An.nx=es.nx+1/\An.hp.get es.nx=some (.row 4 (o.map bv))/\Ae An (.t .o)=.pt T 0/\Ae An (.t (.l (.r .o)))=.ms es.nx 0 (S.vers.length+1) 1/\Ae An (.t (.r (.r .o)))=iv ((v-j:Nat):Int)) ?_ ⟨_,by simp,rfl,Xf,rfl,Ft,by simp only [bR,a0],by simp only [bR],by simp only [bR];rfl⟩ (by omega)
 rintro j An hj ⟨o,ho,hf,g,gn,gr,b0,b5,b6⟩
 unfold Cj7
 obtain ⟨i,hi⟩:∃ i,i=v-j:=⟨_,rfl⟩
 rw [<- hi] at hf b6
 have h1:=h.keep g
 have h2:=h.keep (Ao:=An.hp) (Bk:=es.nx) ⟨Ai _,g.same⟩
 cases i with
 | zero=>
  simp only [Ax,↓Ba,bP,b5,b6,show decide ((0:Int)<0)=false from rfl,Rl gr]
  have e:=hK An.hp (gn ▸ g) (by rw [gr,<- hf];rfl)
  rw [gn]
  exact e
 | succ i=>
  have Nv:i+1<S.vers.length+1:=by omega
  have gg:i+1<o.length:=by omega
  have ia:=dR (i:=i+1) gr Nv
  have ld:=H9 gr gg
  by_cases hb:o[i+1]=true
  .rw [hb] at ld
   simp only [Ax,↓Ba,b0,b5,b6,show decide ((0:Int)<((i+1:Nat):Int))=true from Ar (by omega),ia,ld]
   refine Fl (uv k _ (i+1) h1 ⟨by omega,by omega⟩ ?_)
   obtain ⟨a',b',_,rb,⟨lv,nc⟩,⟨_,f1,_⟩,_,l1,_⟩:=h2.ver (v:=i+1) ⟨by omega,by omega⟩
   have rG:∀ q∈S.parG (i+1),1<=q/\q<=(i:Nat):=λq hq=>by
    have:=h.ok.p (i+1) (by omega) (by omega) q hq
    omega
   have oK:(S.parG (i+1)).length<10:=by
    show (match S.vers[i]? with
     | some x=>x.par
     | none=>[]).length<10
    cases hx:S.vers[i]? with
    | none=>exact Nat.zero_lt_succ _
    | some x=>exact h.ok.l x (Au hx)
   obtain ⟨ps,bJ⟩:∃ ps,S.parG (i+1)=ps:=⟨_,rfl⟩
   rw [bJ] at rb rG oK
   simp only [Ax,↓Ba,bP,↓Ut,lv,nc,f1,l1,rb.len]
   refine EW.up ps.length (λt Cb=>∃ o2:List Bool,o2.length=S.vers.length+1/\Oi o2 (ps.drop t)=Oi o ps/\Al es.hp es.nx Cb.hp Cb.nx/\Cb.nx=es.nx+1/\Cb.hp.get es.nx=some (.row 4 (o2.map bv))/\RL rInt Cb.hp (λj=>j<es.nx) b' ps/\Ae Cb (.t .o)=.pt T 0/\Ae Cb (.t (.l (.r .o)))=.ms es.nx 0 (S.vers.length+1) 1/\Ae Cb (.t (.r (.r .o)))=iv ((i+1:Nat):Int)/\Ae Cb (.t (.l (.r (.l (.l (.l .o))))))=b'/\Ae Cb (.t (.r (.r (.l (.l (.l .o))))))=iv (ps.length:Nat)/\Ae Cb (.t (.l (.l (.r (.l (.l .o))))))=iv (t:Nat)) ?_ ⟨o,ho,rfl,g,gn,gr,rb.mono λj hj=>hj.1,by simp only [bR,b0],by simp only [bR,b5],by simp only [bR,b6],by simp only [bR],by simp only [bR],by simp only [bR];rfl⟩ (by omega)
   rintro t Cb ht ⟨o2,iW,rJ,g2,gn2,lf,F8,c0,c5,c6,c33,qj,qi⟩
   unfold Cj6
   by_cases Yt:t<ps.length
   .obtain ⟨n,hn⟩:=Wm (show 0<=ps[t] by have:=rG _ (Bh Yt);omega)
    have Ya:=rG _ (Bh Yt)
    have hd:ps.drop t=(n:Int)::ps.drop (t+1):=by rw [Bb Yt,hn]
    have ia2:Rr Cb.hp 1 b' (.v (.int .i64 (t:Int)))=some (Ca 1 b' t):=F8.ia Yt
    have li2:=ints_at F8 Yt
    rw [hn] at li2 Ya
    simp only [Ax,↓Ba,c5,c33,qj,qi,Yt,ia2,li2,dR lf (show n<S.vers.length+1 by omega)]
    refine mN (id:=es.nx) (off:=n) (v:=bv true) (by simp only [bR]) lf (by rfl) ⟨rfl,rfl⟩ (by rw [Br];omega) λGr Ni Iz=>?_
    simp only [bR] at Ni Iz
    rw [<- List.map_set] at Ni
    simp only [Ax,↓Ba,c0,c5,c6,c33,qj,qi,Jx (show t<_ by omega)]
    exact ⟨Yt,o2.set n true,by simp [iW],by rw [<- rJ,hd];rfl,⟨g2.le,λj hj=>by rw [Iz j (by omega),g2.same j hj]⟩,gn2,Ni,F8.keep λj hj=>Iz j (by omega)⟩
   .have JV:o2=Oi o ps:=by
     rw [<- rJ,Bc (by omega)];rfl
    simp only [Ax,↓Ba,c0,c5,c6,qj,qi,Yt,Y7 (i+1) (by omega) (by omega)]
    refine ⟨by omega,o2,iW,?_,g2,gn2,lf,by rw [show i+1-1=v-(j+1) by omega]⟩
    rw [show v-(j+1)=i by omega,<- hf,JV,<- bJ]
    show _=S.ancF i (if o[i+1]?=some true then Oi o (S.parG (i+1)) else o)
    rw [Aa gg,hb,Af rfl]
  .have hbf:o[i+1]=false:=by simpa using hb
   rw [hbf] at ld
   simp only [Ax,↓Ba,b0,b5,b6,show decide ((0:Int)<((i+1:Nat):Int))=true from Ar (by omega),ia,ld,Y7 (i+1) (by omega) (by omega)]
   refine ⟨by omega,o,ho,?_,g,gn,gr,by rw [show i+1-1=v-(j+1) by omega]⟩
   rw [show v-(j+1)=i by omega,<- hf]
   show _=S.ancF i (if o[i+1]?=some true then Oi o (S.parG (i+1)) else o)
   rw [Aa gg,hbf,Ad (by simp)]
end
section
variable {hp:Tr DObj} {nx T H:Nat} {nd:DV} {S:GTree} (k:Nat) (K:DV->Tr DObj->Nat->Prop)
theorem Cs8(a b:Nat)(h:TreeG hp nx T H nd S)(ha:1<=a/\a<=S.vers.length)(hb:1<=b/\b<=S.vers.length)(hz:S.baseG a b≠0)(hK:∀ Ao Bk,Al hp nx Ao Bk->K (iv (S.baseG a b:Nat)) Ao Bk):KW (kN (k+3)) (.fn 87) [.pt T 0,iv (a:Nat),iv (b:Nat)] hp nx K:=by
 refine En (Hm (by decide)) t87 (Ab rfl) λes e1 e2 he=>?_
 have a0:Ae es (.t .o)=.pt T 0:=he 0 _ rfl
 have a1:Ae es (.t (.l .o))=iv (a:Nat):=he 1 _ rfl
 have a2:Ae es (.t (.r .o))=iv (b:Nat):=he 2 _ rfl
 unfold yx
 subst e1 e2
 have IQ:=h.ok.n
 simp only [Ax,↓Ba,a0,a1]
 refine Fl (Ck7 k _ a h ha λEi cY g1=>?_)
 simp only [Ax,↓Ba,a0,a2]
 refine Fl (Ck7 k _ b (h.keep cY) hb λDb Xf g2=>?_)
 have g12:=(Xf.same es.nx (by omega)).trans g1
 simp only [Ax,↓Ba,bP,a1,a2,Cf0]
 refine EW.up (min a b) (λj An=>Al es.hp es.nx An.hp An.nx/\An.hp.get es.nx=some (.row 4 ((S.anc a).map bv))/\An.hp.get (es.nx+1)=some (.row 4 ((S.anc b).map bv))/\Qk (S.anc a) (S.anc b) (min a b-j)=S.baseG a b/\Ae An (.t (.l (.l (.l .o))))=.ms es.nx 0 (S.vers.length+1) 1/\Ae An (.t (.r (.l (.l .o))))=.ms (es.nx+1) 0 (S.vers.length+1) 1/\Ae An (.t (.l (.r (.l .o))))=iv ((min a b-j:Nat):Int)) ?_ ⟨cY.trans Xf,g12,g2,rfl,by simp only [bR],by simp only [bR],by simp only [bR];show DV.v _=DV.v _;congr 2;omega⟩ (by omega)
 rintro j An hj ⟨g,r1,r2,KI,b7,b8,b9⟩
 unfold xJ
 obtain ⟨i,hi⟩:∃ i,i=min a b-j:=⟨_,rfl⟩
 rw [<- hi] at KI b9
 cases i with
 | zero=>exact absurd KI.symm hz
 | succ i=>
  have l1:i+1<(S.anc a).length:=by rw [GTree.anc_len];omega
  have l2:i+1<(S.anc b).length:=by rw [GTree.anc_len];omega
  have i1:=dR (n:=S.vers.length+1) (i:=i+1) r1 (by omega)
  have i2:=dR (n:=S.vers.length+1) (i:=i+1) r2 (by omega)
  have d1:=H9 r1 l1
  have d2:=H9 r2 l2
  have hF:Qk (S.anc a) (S.anc b) (i+1)=if (S.anc a)[i+1]?=some true/\(S.anc b)[i+1]?=some true then i+1 else Qk (S.anc a) (S.anc b) i:=rfl
  rw [Aa l1,Aa l2] at hF
  cases c1:(S.anc a)[i+1] with
  | true=>
   rw [c1] at d1 hF
   cases c2:(S.anc b)[i+1] with
   | true=>
    rw [c2] at d2 hF
    rw [Af ⟨rfl,rfl⟩] at hF
    simp only [Ax,↓Ba,bP,b7,b8,b9,i1,i2,d1,d2]
    rw [KI.symm.trans hF] at hK
    exact hK _ _ g
   | false=>
    rw [c2] at d2 hF
    rw [Ad (by simp)] at hF
    simp only [Ax,↓Ba,b7,b8,b9,i1,i2,d1,d2,Y7 (i+1) (by omega) (by omega)]
    refine ⟨by omega,g,r1,r2,?_,by rw [show i+1-1=min a b-(j+1) by omega]⟩
    rw [show min a b-(j+1)=i by omega,<- hF,KI]
  | false=>
   rw [c1] at d1 hF
   rw [Ad (by simp)] at hF
   simp only [Ax,↓Ba,b7,b8,b9,i1,d1,Y7 (i+1) (by omega) (by omega)]
   refine ⟨by omega,g,r1,r2,?_,by rw [show i+1-1=min a b-(j+1) by omega]⟩
   rw [show min a b-(j+1)=i by omega,<- hF,KI]
end
end Go.DD

/- Plain: versions are marked as gone; the trees of one branch. Conditions: those that each theorem states. -/
namespace Go.DD
open Go Go.Proofs Go.Sort
namespace GTree
variable {S:GTree} {P Q:Nat->Bool}
def mark(S:GTree)(P:Nat->Bool):GTree:={ S with vers:=S.vers.mapIdx λi x=>⟨x.cells,x.par,x.gone||P (i+1)⟩ }
theorem mark_len:(S.mark P).vers.length=S.vers.length:=List.length_mapIdx
theorem uQ(v:Nat):(S.mark P).vers[v]?=(S.vers[v]?).map λx=>⟨x.cells,x.par,x.gone||P (v+1)⟩:=List.getElem?_mapIdx
theorem mark_at{v:Nat} : (S.mark P).at' v=S.at' v/\(S.mark P).parG v=S.parG v:=by
 cases v with
 | zero=>exact ⟨rfl,rfl⟩
 | succ v=>
  have e:=uQ (S:=S) (P:=P) v
  constructor
  .show (match (S.mark P).vers[v]? with
    | some x=>x.cells
    | none=>[])=match S.vers[v]? with
    | some x=>x.cells
    | none=>[]
   rw [e]
   cases S.vers[v]? <;> rfl
  .show (match (S.mark P).vers[v]? with
    | some x=>x.par
    | none=>[])=match S.vers[v]? with
    | some x=>x.par
    | none=>[]
   rw [e]
   cases S.vers[v]? <;> rfl
theorem mark_is{v:Nat}(h1:1<=v)(h2:v<=S.vers.length):(S.mark P).isG v=(S.isG v||P v):=by
 obtain ⟨v,rfl⟩:∃ w,v=w+1:=⟨v-1,by omega⟩
 have e:=uQ (S:=S) (P:=P) v
 show (match (S.mark P).vers[v]? with
  | some x=>x.gone
  | none=>false)=((match S.vers[v]? with
  | some x=>x.gone
  | none=>false)||P (v+1))
 rw [e,Aa (by omega:v<S.vers.length)];rfl
theorem vers_ext{A B:GTree}(h1:A.dims=B.dims)(h2:A.attrs=B.attrs)(h3:A.heads=B.heads)(h:A.vers=B.vers):A=B:=by
 cases A;cases B
 cases h1;cases h2;cases h3;cases h;rfl
theorem mark_congr(h:∀ v,1<=v->v<=S.vers.length->S.isG v=false->P v=Q v):S.mark P=S.mark Q:=by
 have:(S.mark P).vers=(S.mark Q).vers:=Ir λv=>by
  rw [uQ,uQ]
  cases hx:S.vers[v]? with
  | none=>rfl
  | some x=>
   have hl:=(As.1 hx).1
   have hg:S.isG (v+1)=x.gone:=by
    show (match S.vers[v]? with
     | some x=>x.gone
     | none=>false)=_
    rw [hx]
   have hh:=h (v+1) (by omega) (by omega)
   rw [hg] at hh
   show some (⟨x.cells,x.par,x.gone||P (v+1)⟩:GVer)=some ⟨x.cells,x.par,x.gone||Q (v+1)⟩
   cases hgo:x.gone with
   | true=>rfl
   | false=>rw [hh hgo]
 exact vers_ext rfl rfl rfl this
theorem mark_none(h:∀ v,1<=v->v<=S.vers.length->S.isG v=false->P v=false):S.mark P=S:=by
 rw [mark_congr (Q:=λ_=>false) h]
 have:(S.mark λ_=>false).vers=S.vers:=Ir λv=>by
  rw [uQ]
  cases S.vers[v]? with
  | none=>rfl
  | some x=>show some (⟨x.cells,x.par,x.gone||false⟩:GVer)=some x;rw [Bool.or_false]
 exact vers_ext rfl rfl rfl this
theorem mark_mark:(S.mark P).mark Q=S.mark λv=>P v||Q v:=by
 have:((S.mark P).mark Q).vers=(S.mark λv=>P v||Q v).vers:=Ir λv=>by
  rw [uQ,uQ,uQ]
  cases S.vers[v]? with
  | none=>rfl
  | some x=>show some (⟨x.cells,x.par,(x.gone||P (v+1))||Q (v+1)⟩:GVer)=some ⟨x.cells,x.par,x.gone||(P (v+1)||Q (v+1))⟩;rw [Bool.or_assoc]
 exact vers_ext rfl rfl rfl this
theorem mark_ok(h:S.OK)(hP:∀ x∈S.heads,P x.2.toNat=false):(S.mark P).OK:=by
 have mem:∀ x∈(S.mark P).vers,∃ y∈S.vers,x.cells=y.cells/\x.par=y.par:=λx hx=>by
  obtain ⟨i,hi,rfl⟩:=El hx
  have Xe:i<S.vers.length:=by rw [mark_len] at hi;exact hi
  have e:=uQ (S:=S) (P:=P) i
  rw [Aa hi,Aa Xe] at e
  have e':=Ge e
  exact ⟨_,Bh Xe,by rw [e'],by rw [e']⟩
 refine ⟨λx hx=>?_,h.z,λv h1 h2 q hq=>?_,by rw [mark_len];exact h.n,λx hx=>?_,λx hx=>?_⟩
 .obtain ⟨y,hy,e,_⟩:=mem x hx
  rw [e];exact h.c y hy
 .rw [mark_len] at h2
  rw [mark_at.2] at hq
  exact h.p v h1 h2 q hq
 .obtain ⟨y,hy,_,e⟩:=mem x hx
  rw [e];exact h.l y hy
 .obtain ⟨a,b,c⟩:=h.h x hx
  refine ⟨a,by rw [mark_len];exact b,?_⟩
  rw [mark_is (by omega) (by omega),c,hP x hx];rfl
def newG(S:GTree)(P:Nat->Bool)(i:Nat):Nat:=((List.range i).filter λj=>P (j+1) && !S.isG (j+1)).length
theorem newG_succ{i:Nat} : S.newG P (i+1)=S.newG P i+if (P (i+1) && !S.isG (i+1))=true then 1 else 0:=by
 unfold newG
 rw [Mw,Na,Ap]
 congr 1
 cases h:(P (i+1) && !S.isG (i+1)) with
 | true=>rw [Af rfl,Pv,Af h];rfl
 | false=>rw [Ad (by simp),Pv,Ad (by rw [h];simp)];rfl
theorem newG_le{i:Nat} : S.newG P i<=i:=by
 unfold newG
 exact Ep (List.length_filter_le _ _) (by rw [Fz];exact Ai _)
end GTree
end Go.DD

/- A node's cells are written. Conditions: those that each theorem states. -/
namespace Go.DD
open Go Go.Proofs Go.Sort
theorem wb{α:Type}{R:Rep α}{hp:Tr DObj}{p:Nat->Prop}{k:Nat}{a:DV}{y:α}(hk:k<R.e):∀ {l:List α} {fl:List DV} {i:Nat} (hi:i<l.length),Rows R hp p fl l->(∀ ds,R.rd hp p ds l[i]->R.rd hp p (ds.set k a) y)->Rows R hp p (fl.set (i*R.e+k) a) (l.set i y)
 | [],_,i,hi,_,_=>absurd hi (Nat.not_lt_zero i)
 | x::l,fl,0,_,⟨ds,b,e,h1,h2⟩,hy=>by
  subst e
  refine ⟨ds.set k a,b,?_,hy ds h1,h2⟩
  rw [Nat.zero_mul,Cp,List.set_append_left _ _ (by rw [R.len h1];exact hk)]
 | x::l,fl,i+1,hi,⟨ds,b,e,h1,h2⟩,hy=>by
  subst e
  refine ⟨ds,b.set (i*R.e+k) a,?_,h1,wb hk (Nat.lt_of_succ_lt_succ hi) h2 hy⟩
  rw [List.set_append_right _ _ (by rw [R.len h1,Dz];omega),R.len h1]
  congr 2
  rw [Dz];omega
section
variable {hp:Tr DObj} {B:Nat->Prop} {T H:Nat} {nd:DV} {S:GTree} {ch:Nat->List PCell}
theorem TreeC.row(h:TreeC hp B T H nd S ch)(hn:0<S.vers.length):∃ id fl,nd=.ms id 0 S.vers.length 3/\hp.get id=some (.row 136 fl)/\fl.length=S.vers.length*3/\B id/\id≠T/\id≠H/\Rows rNode hp (λj=>B j/\j≠T/\j≠H/\j∉nd.refs) fl ((List.range S.vers.length).map λi=>⟨ch i,S.parG (i+1),S.isG (i+1)⟩):=by
 have hh:=h.n
 have hr:=h.nr
 generalize hl:(List.range S.vers.length).map (λi=>(⟨ch i,S.parG (i+1),S.isG (i+1)⟩:PNode))=l at hh
 have e:l.length=S.vers.length:=by rw [<- hl,Br,Fz]
 generalize Ng:(λj=>B j/\j≠T/\j≠H/\j∉nd.refs)=p at hh
 cases hh with
 | nil=>rw [<- e] at hn;cases hn
 | ms id fl l hg hR=>
  have hlen:=hR.len
  rw [e] at hlen
  obtain ⟨a,b,c⟩:=hr id (by simp [DV.refs])
  subst Ng
  exact ⟨id,fl,by rw [e];rfl,hg,hlen,a,b,c,by rw [<- hl] at hR;rw [<- hl];exact hR⟩
theorem TreeC.set0(h:TreeC hp B T H nd S ch){i:Nat}(hi:i<S.vers.length){a:DV}{c:List PCell}(ha:RL rChange hp (λj=>B j/\j≠T/\j≠H/\j∉nd.refs) a c){id:Nat}{fl:List DV}(e1:nd=.ms id 0 S.vers.length 3)(hg:hp.get id=some (.row 136 fl)){Ao:Tr DObj}(h1:Ao.get id=some (.row 136 (fl.set (i*3) a)))(h2:∀ j,j≠id->Ao.get j=hp.get j):TreeC Ao B T H nd S (λj=>if j=i then c else ch j):=by
 obtain ⟨bG,fl',lG,bQ,hlen,k1,k2,k3,hR⟩:=h.row (by omega)
 have:bG=id:=by
  rw [e1] at lG
  injection lG with q1
  exact q1.symm
 subst this
 rw [hg] at bQ
 injection bQ with q
 injection q with _ q
 subst q
 have kp:∀ j,(B j/\j≠T/\j≠H/\j∉nd.refs)->Ao.get j=hp.get j:=λj hj=>h2 j λe=>hj.2.2.2 (by rw [e1,e];simp [DV.refs])
 obtain ⟨d,aa,z,r1,r2,r3,r4⟩:=h.r
 obtain ⟨ck,es,m1,m2⟩:=h.m
 refine ⟨h.th,⟨d,aa,z,(h2 _ (Ek k2)).trans r1,r2.keep kp,r3.keep kp,r4.keep kp⟩,⟨ck,es,(h2 _ (Ek k3)).trans m1,m2⟩,?_,h.nr,h.ok⟩
 have hl:((List.range S.vers.length).map λi=>(⟨ch i,S.parG (i+1),S.isG (i+1)⟩:PNode)).length=S.vers.length:=by rw [Br,Fz]
 have:=wb (R:=rNode) (k:=0) (a:=a) (y:=⟨c,S.parG (i+1),S.isG (i+1)⟩) (by decide) (by rw [hl];exact hi) hR λds hd=>by
  rw [Fs,Ic] at hd
  obtain ⟨x,y,rfl,q1,q2⟩:=rNode_rd.1 hd
  exact rNode_rd.2 ⟨a,y,rfl,ha,q2⟩
 have e3:((List.range S.vers.length).map λi=>(⟨ch i,S.parG (i+1),S.isG (i+1)⟩:PNode)).set i ⟨c,S.parG (i+1),S.isG (i+1)⟩=(List.range S.vers.length).map λj=>(⟨if j=i then c else ch j,S.parG (j+1),S.isG (j+1)⟩:PNode):=by
  refine Jj (by simp) λn n1 n2=>?_
  rw [Pu,Fs,Fs,Ic]
  by_cases cG:i=n
  .subst cG;rw [Af rfl,Af rfl]
  .rw [Ad cG,Ad (Ek cG)]
 rw [e3] at this
 have h3:Ao.get bG=some (.row rNode.T (fl.set (i*3) a)):=h1
 have:=OL.ms (R:=rNode) bG _ _ h3 (this.keep kp)
 rw [Br,Fz] at this
 rw [e1]
 rw [e1] at this
 exact this
theorem TreeC.set2(h:TreeC hp B T H nd S ch){i:Nat}(hi:i<S.vers.length)(Pq:(S.mark λv=>v==i+1).OK){id:Nat}{fl:List DV}(e1:nd=.ms id 0 S.vers.length 3)(hg:hp.get id=some (.row 136 fl)){Ao:Tr DObj}(h1:Ao.get id=some (.row 136 (fl.set (i*3+2) (bv true))))(h2:∀ j,j≠id->Ao.get j=hp.get j):TreeC Ao B T H nd (S.mark λv=>v==i+1) ch:=by
 obtain ⟨bG,fl',lG,bQ,hlen,k1,k2,k3,hR⟩:=h.row (by omega)
 have:bG=id:=by
  rw [e1] at lG
  injection lG with q1
  exact q1.symm
 subst this
 rw [hg] at bQ
 injection bQ with q
 injection q with _ q
 subst q
 have kp:∀ j,(B j/\j≠T/\j≠H/\j∉nd.refs)->Ao.get j=hp.get j:=λj hj=>h2 j λe=>hj.2.2.2 (by rw [e1,e];simp [DV.refs])
 obtain ⟨d,aa,z,r1,r2,r3,r4⟩:=h.r
 obtain ⟨ck,es,m1,m2⟩:=h.m
 refine ⟨h.th,⟨d,aa,z,(h2 _ (Ek k2)).trans r1,r2.keep kp,r3.keep kp,r4.keep kp⟩,⟨ck,es,(h2 _ (Ek k3)).trans m1,m2⟩,?_,h.nr,Pq⟩
 have hl:((List.range S.vers.length).map λi=>(⟨ch i,S.parG (i+1),S.isG (i+1)⟩:PNode)).length=S.vers.length:=by rw [Br,Fz]
 have:=wb (R:=rNode) (k:=2) (a:=bv true) (y:=⟨ch i,S.parG (i+1),true⟩) (by decide) (by rw [hl];exact hi) hR λds hd=>by
  rw [Fs,Ic] at hd
  obtain ⟨x,y,rfl,q1,q2⟩:=rNode_rd.1 hd
  exact rNode_rd.2 ⟨x,y,rfl,q1,q2⟩
 have e3:((List.range S.vers.length).map λi=>(⟨ch i,S.parG (i+1),S.isG (i+1)⟩:PNode)).set i ⟨ch i,S.parG (i+1),true⟩=(List.range (S.mark λv=>v==i+1).vers.length).map λj=>(⟨ch j,(S.mark λv=>v==i+1).parG (j+1),(S.mark λv=>v==i+1).isG (j+1)⟩:PNode):=by
  refine Jj (by simp [GTree.mark_len]) λn n1 n2=>?_
  have hn:n<S.vers.length:=by simpa using n1
  rw [Pu,Fs,Fs,Ic,Ic,GTree.mark_at.2,GTree.mark_is (by omega) (by omega)]
  by_cases cG:i=n
  .subst cG;rw [Af rfl];simp
  .rw [Ad cG]
   have:((n+1==i+1):Bool)=false:=by simp;omega
   rw [this,Bool.or_false]
 rw [e3] at this
 have h3:Ao.get bG=some (.row rNode.T (fl.set (i*3+2) (bv true))):=h1
 have:=OL.ms (R:=rNode) bG _ _ h3 (this.keep kp)
 rw [Br,Fz,GTree.mark_len] at this
 rw [e1]
 rw [e1] at this
 show OL rNode Ao _ _ ((List.range (S.mark λv=>v==i+1).vers.length).map λj=>(⟨ch j,(S.mark λv=>v==i+1).parG (j+1),(S.mark λv=>v==i+1).isG (j+1)⟩:PNode))
 rw [GTree.mark_len]
 exact this
end
end Go.DD

/- The code of functions with more than one outcome: printed by a program out of the translation. -/
namespace Go.DD
noncomputable section
open Pa
instance LR : Coe Pa EO := ⟨EO.t⟩
instance LQ : Coe Pa (Nat -> XP) := ⟨λp _ es => some (Ae es (.t p))⟩
open Go
set_option maxRecDepth 100000
def Ck8:CE:=(cT [(sX "=" (Av .lss "9" ";"))] (cS (cC "=" (cE .normal) (cE (.exit 0))) (cS (cB 1 (cT [(sX "?" (Gf 1 "5" "9")),(sX "@" (Cj none "?")),(sM "(" "@")] (cT [(sM "A" o),(sM "B" "("),(Bj 84 ["A","B"] "C"),(sM "%" "C")] (cT [(sM "D" "%"),(sX "F" (Av
 .neq "D" (0:Int)))] (cC "F" (cT [(sM "G" "%"),(sM "!" (0:Int)),(sM ")" "G")] (cE .ret)) (cE .normal)))))) (cN (sL [(sX "I" (Av .add "9" (1:Int))),(sM "9" "I")])))))
def uu:CE:=(cT [(sX "ac" (Av .lss "t" "|"))] (cS (cC "ac" (cE .normal) (cE (.exit 6))) (cS (cB 7 (cT [(sM "u" "t"),(sM "2" "u")] (cT [(sM "ad" "*"),(sM "ae" "2"),(sX "af" (Av .add "ae" (1:Int))),(sU "~" (Bd (.lkp (.p (.int .i64)) (.slice none 0 0)
 (.tmp 89) (.tmp 91) true))),(sM "aa" "~"),(sX "ab" (Ga "aa" 0)),(sX "ah" (Ga "aa" 1)),(sM "3" "ab"),(sM "6" "ah")] (cT [(sM "ai" "6"),(sX "aj" (Qs .not "ai")),(sM "q" "aj"),(sG "q" true "ap" (sM "ap" o)),(sG "q" true "ak"
 (sU "ak" (Bd (.nck (.tmp 98))))),(sG "q" true "al" (sX "al" (Eg 3 "ak"))),(sG "q" true "am" (sX "am" (Cj none "al"))),(sG "q" true "an" (sM "an" "2")),(sG "q" true "aq" (sX "aq" (Gf 3 "am" "an"))),(sG "q" true "ar"
 (sX "ar" (Eg 2 "aq"))),(sG "q" true "ao" (sX "ao" (Cj none "ar"))),(sG "q" true "as" (sX "as" (Qs .not "ao"))),(sX "ay" (Co "q" "as" false))] (cC "ay" (cS (cN (Gq 16 (dL [(dP [] 0 "at" o),(By [0] ["at"] (Ch 1 [0] false false
 "au" (Gd (Bd (.nck (.tmp 108)))) ["at"])),(dX [1,0] ["au"] 2 "av" (Eg 3 "au")),(dY [2,1,0] ["av"] 3 "ax" (Cj none "av")),(dP [] 4 "aM" "2"),(dP [] 5 "az" o),(By [5] ["az"] (Ch 6 [5] false false "aA" (Gd (Bd (.nck (.tmp 113)))) ["az"])),(dX [6,5] ["aA"]
 7 "aB" (Eg 3 "aA")),(dY [7,6,5] ["aB"] 8 "aw" (Cj none "aB")),(By [] ["2"] (Ch 9 [] true false "aC" ("2":Pa) ["2"])),(dX [3,4,0,1,2,8,7,6,5] ["ax","aM"] 10 "aD" (Gf 3 "ax" "aM")),(dX [10,0,1,2,3,4,8,7,6,5] ["aD"] 11 "aE" (Eg 2 "aD")),(By [11,0,1,2,3,4,8,10,7,6,5]
 ["aE"] (Cx 12 [11,0,1,2,3,4,8,10,7,6,5] (sU none (Jr 1 "aE" true)))),(dX [8,9,0,1,2,3,4,5,6,7,10,11,12] ["aw","aC"] 13 "aF" (Gf 3 "aw" "aC")),(dX [13,0,1,2,3,4,5,6,7,8,9,10,11,12] ["aF"] 14 "aG" (Eg 0 "aF")),(By [14,12,0,1,2,3,4,5,6,7,8,9,10,11,13] ["aG"] (Cx 15 [14,12,0,1,2,3,4,5,6,7,8,9,10,11,13]
 (sU none (Jr 1 "aG" (.c (.v (.slice none 0 0)))))))]))) (cN (sL [(sM "aH" "4"),(sX "aI" (Av .add "aH" (1:Int))),(sM "4" "aI")]))) (cE .normal)))))) (cN (sL [(sX "aJ" (Av .add "t" (1:Int))),(sM "t" "aJ")])))))
def uq:WE:=(wS (wN (rN false (.tmp 63) "a" (rS (sX "g" (Ga "a" 0)) rE))) (wS (wD (cC "g" (cE .normal) (cE (.exit 4)))) (wB 5 (wS (wN (rN true (.tmp 63) "]" (rS (sX "h" (Ga "]" 0)) (rS (sM "1" "h") rE)))) (wN (rS (sM "n" "&") (rS (sM "j" o) (rS (sM "m" ",") (rS (sM "s"
 "1") (rS (Bj 87 ["j","m","s"] "o") (rS (sU "k" (Bd (.bsl 3 1 1 [.int .i64 0] [(0,1,.tmp 72)]))) (rA 3 1 8 (.tmp 68) (.tmp 73) "p" (rS (sM "&" "p") rE)))))))))))))
def uo:WE:=(wS (wD (cT [(sM "R" "&"),(sX "T" (Dp "R")),(sX "S" (Av .gtr "T" (0:Int)))] (cC "S" (cE .normal) (cE (.exit 2))))) (wS (wB 3 (wS (wD (cN (sL [(sM "X" "&"),(sX "_" (Gf 1 "X" (0:Int))),(sX "U" (Cj none "_")),(sM "," "U")]))) (wS (wD (cT [(sM "b"
 "*"),(sM "e" ","),(sU "Z" (Bd (.lkp (.p (.int .i64)) (.slice none 0 0) (.tmp 56) (.tmp 57) true))),(sM "^" "Z"),(sX "V" (Ga "^" 0)),(sX "f" (Ga "^" 1)),(sM "." "V"),(sM "+" "f")] (cT [(sM "c" "+")] (cC "c" (cE (.exit 3)) (cE .normal))))) (wS (wS (wD (cN (sL [(sM "[" "*"),(sU
 "d" (Bd (.rgm (.tmp 62))))]))) (wB 4 (wL uq))) (wD (cN (sL [(sM "z" "*"),(sM "l" ","),(sM "w" o),(sM "v" ","),(Bj 97 ["w","v"] "x"),(sU none (Bd (.mup (.p (.int .i64)) (.tmp 75) (.tmp 76) (.tmp 79))))]))))))) (wD (cN (sL [(sM "Y" "&"),(sU "W" (Bd (.sli 1 (.tmp 50) (some (.const
 (.int .i64 1))) none))),(sM "&" "W")])))))
def um:WE:=(wS (wN (rN false (.tmp 126) "aK" (rS (sX "aL" (Ga "aK" 0)) rE))) (wS (wD (cC "aL" (cE .normal) (cE (.exit 8)))) (wB 9 (wS (wN (rN true (.tmp 126) "aN" (rS (sX "aQ" (Ga "aN" 0)) (rS (sX "a0" (Ga "aN" 1)) (rS (sM "7" "aQ") (rS (sM "8" "a0") rE))))))
 (wD (cN (sL [(sM "aR" o),(sM "a1" "7"),(Bj 99 ["aR","a1"] o.l.l.l.l.r.r.r),(sM "a2" "*"),(sM "aS" o),(sM "aT" "7"),(Bj 98 ["aS","aT"] "a3"),(sU "aU" (Bd (.lkp (.p (.int .i64)) (.slice none 0 0) (.tmp 135) (.tmp 138) false))),(sM "aV" "8"),(Bj
 81 ["aU","aV"] "aW"),(sU "aX" (Bd (.nck (.tmp 134)))),(sX "aY" (Eg 0 "aX")),(sU none (Jr 1 "aY" "aW"))])))))))
def xu:WE:=(wS (wD (cN (sL [(sM "!" (0:Int)),(sM ")" (0:Int))]))) (wS (wD (cT [(sM "0" o),(Bj 82 ["0"] "<"),(sX ":" (Qs .not "<"))] (cC ":" (cT [(sM "!" (0:Int)),(sM ")" (1:Int))] (cE .ret)) (cE .normal)))) (wS (wD (cT [(sM "5" o.l),(sX ";" (Dp "5")),(sM "9" (.c
 (.v (.int .i64 0))))] (cB 0 (cL 1000000 Ck8)))) (wS (wN (rS (sM "O" o.l) (rS (sM "P" o) (rS (sU "E" (Bd (.nck (.tmp 38)))) (rS (sX "H" (Eg 4 "E")) (rS (sX "J" (Cj none "H")) (rS (Bj 96 ["J"] "L") (rW 95 ["L"] "K" (rS (sU "N" (Bd (.bsl 36 2 1 [.slice none 0 0] [(0,1,.tmp 37),(1,1,.tmp 43)]))) (rS
 (Bj 94 ["N"] "Q") (rS (sM "&" "Q") rE))))))))))) (wS (wD (cN (sL [(sU "M" (Bd (.mkm))),(sM "*" "M")]))) (wS (wB 2 (wL uo)) (wS (wD (cN (sL [(sM "4" (0:Int))]))) (wS (wD (cT [(sM "y" o),(sU "r" (Bd (.nck (.tmp 80)))),(sX "ag" (Eg 3 "r")),(sX "i" (Cj none "ag")),(sX
 "|" (Dp "i")),(sM "t" (0:Int))] (cB 6 (cL 1000000 uu)))) (wS (wS (wD (cN (sL [(sM "aO" "*"),(sU "aP" (Bd (.rgm (.tmp 125))))]))) (wB 8 (wL um))) (wD (cT [(sM "aZ" "4"),(sM "!" "aZ"),(sM ")" (0:Int))] (cE .ret))))))))))))
end
end Go.DD

/- The printed code is the program's. -/
namespace Go.DD
open Go Go.Proofs
set_option maxRecDepth 100000
theorem VO:Tryz.prog.funcs[36]?=some Tryz.f36:=by kernel_rfl
theorem VK:Uj Tryz.prog 36=true:=by kernel_rfl
def d36:DF:=(Yo Tryz.prog Tryz.f36).getD default
theorem VG:Yo Tryz.prog Tryz.f36=some d36:=by kernel_rfl
theorem UY:d36.res=[(4,none),(5,none)]:=by kernel_rfl
theorem VC:d36.nt=145:=by kernel_rfl
theorem C31:(λwc call=>Ip wc (λf=>Nat.beq f 95||Nat.beq f 999999) call false 1000000 d36.nt d36.code)=xu:=by kernel_rfl
end Go.DD

/- Contracts: Reclaim's inner loop: the bases with all versions that were met. Conditions: those that each theorem states. -/
namespace Go.DD
open Go Go.Proofs Go.Sort
def lL(S:GTree)(v:Nat):Prop:=1<=v/\v<=S.vers.length/\S.isG v=false
theorem A06{ck:Nat}{es' W:List ME}(If:StO ck es')(pP:W.Nodup)(lD:∀ e∈W,e∈es')(Ka:∀ e∈es',e.b∈W.map ME.b):W.Perm es':=
 xi pP (vo If.2) λx=>⟨lD x,λhx=>by
  obtain ⟨y,hy,hb⟩:=Bm.1 (Ka x hx)
  have:y=x:=by
   obtain ⟨i1,h1,e1⟩:=El (lD y hy)
   obtain ⟨i2,h2,e2⟩:=El hx
   have Ha:∀ i j,(hi:i<es'.length)->(hj:j<es'.length)->i<j->es'[i].b≠es'[j].b:=λi j hi hj Oy=>by
    have:=Cy.1 If.2 i j (by rw [Br];exact hi) (by rw [Br];exact hj) Oy
    simpa using this
   rcases Nat.lt_trichotomy i1 i2 with Ez | Ez | Ez
   .exact absurd (by rw [e1,e2,hb]) (Ha i1 i2 h1 h2 Ez)
   .subst Ez;rw [<- e1,<- e2]
   .exact absurd (by rw [e1,e2,hb]) (Ha i2 i1 h2 h1 Ez)
  rw [<- this];exact hy⟩
def Od(S:GTree)(v:Nat)(W:List ME):List Int:=W.map λe=>((S.baseG v (Fj e):Nat):Int)
theorem Ca4{wc:Kl}{k:Nat}{es:ES}{Q:Exit->ES->Prop}{n1 T H im ck v I:Nat}{nd z:DV}{S:GTree}{ls:List Int}{met:List ME}(hB:S.OKB)(h:TreeG es.hp n1 T H nd S)(oT:n1<=I/\I<es.nx)(hI:es.hp.get I=some (.miter (.mp im) ck [] ck))(hq:QL es.hp z ls)(hz:∀ j∈z.refs,n1<=j/\j<es.nx/\j≠I/\j≠im)(IU:ls≠[])(hlen:ls.length+met.length<900000)(hm:es.hp.get im=some (.mapo ck met))(If:StO ck met)(Uo:n1<=im/\im<es.nx/\im≠I)(Jc:∀ e∈met,e.k=.int .i64 (Fj e:Nat)/\lL S (Fj e))(hv:lL S v)
  (a0:Ae es (.t .o)=.pt T 0) (a9:Ae es (.t (.l (.r (.l .o))))=z) (P6:Ae es (.t (.r (.r (.l .o))))=.mp im) (a11:Ae es (.t (.l (.l (.r .o))))=iv (v:Nat)) (a63:Ae es (.t (.l (.l (.l (.l (.l (.l .o)))))))=.pt I 0)
  (hK:∀ An W z',W.Perm met->es.nx<=An.nx->(∀ j,j<es.nx->j≠I->j∉z.refs->An.hp.get j=es.hp.get j)->QL An.hp z' (ls++Od S v W)->(∀ j∈z'.refs,j∈z.refs\/(es.nx<=j/\j<An.nx))->Ae An (.t .o)=.pt T 0->Ae An (.t (.l (.r (.l .o))))=z'->Ae An (.t (.r (.r (.l .o))))=.mp im->Ae An (.t (.l (.l (.r .o))))=iv (v:Nat)->Q .normal An) :
  wL uq wc (kN (k+3)) es (Pk 4 Q):=by
 have JB:∀ W:List ME,W.Nodup->(∀ e∈W,e∈met)->W.length<=met.length:=λW h1 h2=>Jk h1 h2
 refine AN (λm An=>∃ W z',m=met.length-W.length/\W.Nodup/\(∀ e∈W,e∈met)/\es.nx<=An.nx/\(∀ j,j<es.nx->j≠I->j∉z.refs->An.hp.get j=es.hp.get j)/\An.hp.get I=some (.miter (.mp im) ck (W.map ME.b) ck)/\QL An.hp z' (ls++Od S v W)/\(∀ j∈z'.refs,j∈z.refs\/(es.nx<=j/\j<An.nx))/\Ae An (.t .o)=.pt T 0/\Ae An (.t (.l (.r (.l .o))))=z'/\Ae An (.t (.r (.r (.l .o))))=.mp im/\Ae An (.t (.l (.l (.r .o))))=iv (v:Nat)/\Ae An (.t (.l (.l (.l (.l (.l (.l .o)))))))=.pt I 0) met.length ⟨[],z,rfl,.nil,λe h=>(by cases h),Ai _,λ_ _ _ _=>rfl,hI,by unfold Od;rw [Ak,Dh];exact hq,λj hj=>.inl hj,a0,a9,P6,a11,a63⟩ ?_
 rintro m An ⟨W,z',rfl,pP,lD,hle,Ct,pR,hq1,S6,b0,b9,b10,b11,qn⟩
 have yU:An.hp.get im=some (.mapo ck met):=(Ct im Uo.2.1 Uo.2.2 λhh=>(hz im hh).2.2.2 rfl).trans hm
 unfold uq
 rw [Qf,qW]
 refine D8 (id:=I) (im:=im) (ck:=ck) (es':=met) (seen:=W.map ME.b) (by simp only [Cg,bP,qn,Rk pR]) pR yU If.1 (λKa=>?_) λe Yv Ha Db Ft Et=>?_
 .have x0:∀ {Ao:Tr DObj},Fv Ao (.tup [.v (.bool false)]) 0=some (bv false):=rfl
  simp only [Ax,↓Ba,↓Nx,↓Tl,↓Qf,↓Qn,x0]
  refine hK _ W z' (A06 If pP lD Ka) hle Ct hq1 S6 ?_ ?_ ?_ ?_
  all_goals simp only [bR,b0,b9,b10,b11]
 .have x0:∀ {Ao:Tr DObj},Fv Ao (.tup [.v (.bool true),Qt e.k,e.v]) 0=some (bv true):=rfl
  have oU:=(Et im Uo.2.2).trans yU
  have M5:e∉W:=λh=>Ha (Bm.2 ⟨e,h,rfl⟩)
  simp only [Ax,↓Ba,↓Nx,↓Tl,↓Qf,↓Qn,↓mT,↓qW,x0]
  refine D9 (e:=e) (s0:=W.map ME.b) (id:=I) (im:=im) (ck:=ck) (es':=met) (by simp only [Cg,bR,bP,qn,Rk Ft]) (by simp only [];exact Ft) (by simp only [];exact oU) Yv If.2 ?_
  obtain ⟨ek,ev⟩:=Jc e Yv
  have x1:∀ {Ao:Tr DObj},Fv Ao (.tup [Qt e.k,e.v]) 0=some (iv (Fj e:Nat)):=λ{Ao}=>by rw [ek];rfl
  have hq2:=hq1.keep (Ao:=Db) λj hj=>Et j (by rcases S6 j hj with h | h;exact (hz j h).2.2.1;omega)
  simp only [Ax,↓Ba,↓Nx,↓Tl,x1,b0,b11]
  have h2:TreeG Db An.nx T H nd S:=h.keep ⟨by omega,λj hj=>by rw [Et j (by omega),Ct j (by omega) (by omega) λhh=>by have:=(hz j hh).1;omega]⟩
  refine Fl (Cs8 _ _ v (Fj e) h2 ⟨hv.1,hv.2.1⟩ ⟨ev.1,ev.2.1⟩ ?_ λGr Dx Uq=>?_)
  .have:=(GTree.base_spec h.ok hB.r ⟨hv.1,hv.2.1⟩ ⟨ev.1,ev.2.1⟩).1.1
   omega
  .have Jb:=Uq.le
   simp only [Ax,↓Ba,↓Nx]
   refine Vt (fl:=[iv (S.baseG v (Fj e):Nat)]) rfl (by simp only [Ag,Ak,Cg,bR,bP,Ns];rfl) λGz Mf Fp=>?_
   simp only [bR] at Mf Fp
   have tE:∀ j∈z'.refs,j<An.nx/\j≠I/\j≠im/\n1<=j:=λj hj=>by
    rcases S6 j hj with h | h
    .have:=hz j h
     exact ⟨by omega,this.2.2.1,this.2.2.2,this.1⟩
    .exact ⟨by omega,by omega,by omega,by omega⟩
   have hq4:=hq2.keep (Ao:=Gz) λj hj=>by
    have:=tE j hj
    rw [Fp j (by omega),Uq.same j (by omega)]
   have oA:=JB (W ++ [e]) (Iq.2 ⟨pP,by simp,λa ha b hb=>by rw [Am.1 hb];exact λh=>M5 (h ▸ ha)⟩) λx hx=>(Aw.1 hx).elim (lD x) λh=>by rw [Am.1 h];exact Yv
   rw [Ap,Bf] at oA
   have Mt:(Od S v W).length=W.length:=Br ..
   simp only [Ax]
   refine UP (z:=z') (l:=ls++Od S v W) (d2:=.ms Dx 0 1 1) (x:=((S.baseG v (Fj e):Nat):Int)) (by simp only [bR,bP,b9]) hq4 (λhh=>IU (List.append_eq_nil_iff.1 hh).1) (by simp only [Cg,bR,bP];exact Rl Mf) (SL (R:=rInt) (p:=λ_=>False) (x:=((S.baseG v (Fj e):Nat):Int)) Mf rfl) rfl rfl (by decide) (by rw [Ap];omega) λHp z5 du qZ Io=>?_
   simp only [bR] at qZ Io
   simp only [Ax,↓Ba,↓Nx,↓Tl,b0,b9,b10,b11,qn]
   have hI5:Hp.get I=Db.get I:=by
    rw [Io I (by omega) λhh=>(tE I hh).2.1 rfl,Fp I (by omega),Uq.same I (by omega)]
   refine ⟨met.length-(W ++ [e]).length,by rw [Ap,Bf];omega,W ++ [e],z5,rfl,Iq.2 ⟨pP,by simp,λa ha b hb=>by rw [Am.1 hb];exact λh=>M5 (h ▸ ha)⟩,λx hx=>(Aw.1 hx).elim (lD x) λh=>by rw [Am.1 h];exact Yv,by omega,λj h1 h2 h3=>?_,?_,?_,λj hj=>?_,rfl⟩
   .have:j∉z'.refs:=λhh=>(S6 j hh).elim h3 λh=>by omega
    rw [Io j (by omega) this,Fp j (by omega),Uq.same j (by omega),Et j h2,Ct j h1 h2 h3]
   .rw [hI5,Ft,Cw];rfl
   .have e9:Od S v (W ++ [e])=Od S v W ++ [((S.baseG v (Fj e):Nat):Int)]:=by unfold Od;rw [Cw];rfl
    rw [e9,<- Bu];exact du
   .rw [qZ,Am] at hj
    exact .inr (by omega)
end Go.DD

/- Contracts: Reclaim's queue: which versions stay, with their cells. Conditions: those that each theorem states. -/
namespace Go.DD
open Go Go.Proofs Go.Sort
def Clo(S:GTree)(init:List Int)(P:Nat->Prop):Prop:=(∀ x∈init,P x.toNat)/\∀ v w,lL S v->lL S w->P v->P w->P (S.baseG v w)
def PC(n1 T H nx im:Nat)(nd z:DV)(j:Nat):Prop:=(j<n1/\j≠T/\j≠H/\j∉nd.refs)\/(n1<=j/\j<nx/\j≠im/\j∉z.refs)
structure RcM (S:GTree) (init:List Int) (Ng:Tr DObj) (n1 T H im:Nat) (nd z:DV) (ls:List Int) (met:List ME) (hp:Tr DObj) (nx:Nat):Prop where
 al:Al Ng n1 hp nx
 q:QL hp z ls
 zr:∀ j∈z.refs,n1<=j/\j<nx/\j≠im
 i:n1<=im/\im<nx
 m:∃ ck,hp.get im=some (.mapo ck met)/\StO ck met
 c:MapC hp (PC n1 T H nx im nd z) S.at' met
 nu:(met.map Fj).Nodup
 mv:∀ v∈met.map Fj,lL S v
 lv:∀ x∈ls,∃ v:Nat,x=(v:Nat)/\lL S v
 mn:∀ P,Clo S init P->(∀ v∈met.map Fj,P v)/\∀ x∈ls,P x.toNat
 it:∀ x∈init,x.toNat∈met.map Fj\/x∈ls
 cl:∀ v w,v∈met.map Fj->w∈met.map Fj->S.baseG v w∈met.map Fj\/((S.baseG v w:Nat):Int)∈ls
 sz:ls.length<=1000+met.length*200
theorem Bg1{n:Nat}{l:List Nat}(h:l.Nodup)(hl:∀ v∈l,1<=v/\v<=n):l.length<=n:=by
 have:=Jk h (l₂:=List.range' 1 n) λv hv=>List.mem_range'_1.2 (by have:=hl v hv;omega)
 rwa [List.length_range'] at this
section
variable {S:GTree} {init:List Int} {Ng hp:Tr DObj} {n1 T H im nx:Nat} {nd z:DV} {ls:List Int} {met:List ME}
theorem RcM.len(h:RcM S init Ng n1 T H im nd z ls met hp nx):met.length<=S.vers.length:=by
 have:=Bg1 h.nu λv hv=>⟨(h.mv v hv).1,(h.mv v hv).2.1⟩
 rwa [Br] at this
theorem Ca5{ck:Nat}{k:Value}{d:DV}(h:StO ck met):StO (ck+1) (met ++ [⟨k,d,ck⟩]):=by
 refine ⟨λx hx=>?_,?_⟩
 .rcases Aw.1 hx with hx | hx
  .have:=h.1 x hx;omega
  .rw [Am.1 hx];exact Fq ck
 .rw [Cw]
  refine Iq.2 ⟨h.2,by simp,λa ha b hb=>?_⟩
  obtain ⟨x,hx,rfl⟩:=Bm.1 ha
  have Ht:b=ck:=by simpa using hb
  have:=h.1 x hx
  omega
theorem RcM.tail{v:Nat}{rest:List Int}(h:RcM S init Ng n1 T H im nd z ((v:Nat)::rest) met hp nx)(hv:v∈met.map Fj):RcM S init Ng n1 T H im nd (lY 1 1 (((v:Nat):Int)::rest).length z) rest met hp nx:=by
 have sr:=B65 1 1 (((v:Nat):Int)::rest).length z
 refine ⟨h.al,h.q.tail,λj hj=>h.zr j (sr j hj),h.i,h.m,h.c.mono λj hj=>hj.imp id λh=>⟨h.1,h.2.1,h.2.2.1,λhh=>h.2.2.2 (sr j hh)⟩,h.nu,h.mv,λx hx=>h.lv x (Be _ hx),λP hP=>⟨(h.mn P hP).1,λx hx=>(h.mn P hP).2 x (Be _ hx)⟩,λx hx=>?_,λa b ha hb=>?_,?_⟩
 .rcases h.it x hx with h1 | h1
  .exact .inl h1
  .rcases Aq.1 h1 with rfl | h1
   .exact .inl hv
   .exact .inr h1
 .rcases h.cl a b ha hb with h1 | h1
  .exact .inl h1
  .rcases Aq.1 h1 with h1 | h1
   .exact .inl (by rw [show S.baseG a b=v by omega];exact hv)
   .exact .inr h1
 .have:=h.sz
  rw [Ec] at this
  omega
theorem RcM.push{v ck Bk:Nat}{d z':DV}{rest:List Int}{W:List ME}{Ao:Tr DObj}(hS:S.OK)(hB:S.OKB)(h:RcM S init Ng n1 T H im nd z ((v:Nat)::rest) met hp nx)(hv:v∉met.map Fj)(hW:W.Perm met)(If:StO ck met)(al:Al Ng n1 Ao Bk)(hq:QL Ao z' (((v:Nat):Int)::rest++Od S v W))(hz:∀ j∈z'.refs,n1<=j/\j<Bk/\j≠im)(hle:nx<=Bk)(hm:Ao.get im=some (.mapo (ck+1) (met ++ [⟨.int .i64 (v:Nat),d,ck⟩])))(hk:∀ j,PC n1 T H nx im nd z j->PC n1 T H Bk im nd z' j/\Ao.get j=hp.get j)(hd:RL rCell Ao (PC n1 T H Bk im nd z') d (S.at' v)):RcM S init Ng n1 T H im nd z' (((v:Nat):Int)::rest++Od S v W) (met ++ [⟨.int .i64 (v:Nat),d,ck⟩]) Ao Bk:=by
 have vv:lL S v:=by
  obtain ⟨w,e,hw⟩:=h.lv _ (Dv ..)
  rw [show v=w by omega];exact hw
 have ek:(met ++ [(⟨.int .i64 (v:Nat),d,ck⟩:ME)]).map Fj=met.map Fj ++ [v]:=by rw [Cw];rfl
 have Lr:∀ w,w∈met.map Fj->((S.baseG v w:Nat):Int)∈Od S v W:=λw hw=>by
  obtain ⟨e,he,rfl⟩:=Bm.1 hw
  exact Bm.2 ⟨e,hW.mem_iff.2 he,rfl⟩
 have KH:∀ x∈Od S v W,∃ w,w∈met.map Fj/\x=((S.baseG v w:Nat):Int):=λx hx=>by
  obtain ⟨e,he,rfl⟩:=Bm.1 hx
  exact ⟨Fj e,Bm.2 ⟨e,hW.mem_iff.1 he,rfl⟩,rfl⟩
 have Wr:=h.len
 have hn:=hS.n
 have mv':∀ w∈met.map Fj ++ [v],lL S w:=λw hw=>(Aw.1 hw).elim (h.mv w) λhw=>by rw [Am.1 hw];exact vv
 refine ⟨al,hq,hz,⟨h.i.1,by have:=h.i.2;omega⟩,⟨ck+1,hm,Ca5 If⟩,((h.c.keep λj hj=>(hk j hj).2).mono λj hj=>(hk j hj).1).snoc hd,?_,?_,λx hx=>?_,λP hP=>⟨?_,λx hx=>?_⟩,λx hx=>?_,?_,?_⟩
 .rw [ek]
  exact Iq.2 ⟨h.nu,by simp,λa ha b hb=>by rw [Am.1 hb];exact λe=>hv (e ▸ ha)⟩
 .rw [ek];exact mv'
 .rcases Aw.1 hx with hx | hx
  .exact h.lv x hx
  .obtain ⟨w,hw,rfl⟩:=KH x hx
   have ww:=h.mv w hw
   obtain ⟨⟨b1,b2,b3⟩,_⟩:=GTree.base_spec hS hB.r ⟨vv.1,vv.2.1⟩ ⟨ww.1,ww.2.1⟩
   exact ⟨_,rfl,b1,by have:=vv.2.1;omega,hB.b v w vv.1 vv.2.1 ww.1 ww.2.1 vv.2.2 ww.2.2⟩
 .obtain ⟨p1,p2⟩:=h.mn P hP
  rw [ek]
  exact λw hw=>(Aw.1 hw).elim (p1 w) λhw=>by rw [Am.1 hw];exact p2 _ (Dv ..)
 .obtain ⟨p1,p2⟩:=h.mn P hP
  rcases Aw.1 hx with hx | hx
  .exact p2 x hx
  .obtain ⟨w,hw,rfl⟩:=KH x hx
   exact hP.2 v w vv (h.mv w hw) (p2 _ (Dv ..)) (p1 w hw)
 .rw [ek]
  exact (h.it x hx).imp (Dq _) (Dq _)
 .rw [ek]
  intro a b ha hb
  rcases Aw.1 ha with ha | ha
  .rcases Aw.1 hb with hb | hb
   .exact (h.cl a b ha hb).imp (Dq _) (Dq _)
   .rw [Am.1 hb]
    have aa:=h.mv a ha
    rw [GTree.base_comm hS hB.r ⟨aa.1,aa.2.1⟩ ⟨vv.1,vv.2.1⟩]
    exact .inr (Em _ (Lr a ha))
  .rw [Am.1 ha]
   rcases Aw.1 hb with hb | hb
   .exact .inr (Em _ (Lr b hb))
   .rw [Am.1 hb,GTree.base_self hS hB.r ⟨vv.1,vv.2.1⟩]
    exact .inl (by simp)
 .have h1:=h.sz
  have h2:(Od S v W).length=met.length:=by unfold Od;rw [Br];exact hW.length_eq
  rw [Ap,h2,Ap,Bf,Dz]
  omega
theorem Ca6{wc:Kl}{k:Nat}{es:ES}{Q:Exit->ES->Prop}(hB:S.OKB)(h:TreeG Ng n1 T H nd S)(h0:RcM S init Ng n1 T H im nd z ls [] es.hp es.nx)
  (a0:Ae es (.t .o)=.pt T 0) (a9:Ae es (.t (.l (.r (.l .o))))=z) (P6:Ae es (.t (.r (.r (.l .o))))=.mp im)
  (hK:∀ An z met,RcM S init Ng n1 T H im nd z [] met An.hp An.nx->Ae An (.t .o)=.pt T 0->Ae An (.t (.r (.r (.l .o))))=.mp im->Q .normal An) :
  wL uo wc (kN (k+208)) es (Pk 2 Q):=by
 refine AN (λm An=>∃ z ls met,m=ls.length+(200-met.length)*400/\RcM S init Ng n1 T H im nd z ls met An.hp An.nx/\Ae An (.t .o)=.pt T 0/\Ae An (.t (.l (.r (.l .o))))=z/\Ae An (.t (.r (.r (.l .o))))=.mp im) _ ⟨z,ls,[],rfl,h0,a0,a9,P6⟩ ?_
 rintro m An ⟨z,ls,met,rfl,g,b0,b9,b10⟩
 unfold uo
 have hn:=h.ok.n
 have Wr:=g.len
 cases ls with
 | nil=>
  rw [Qf,Qn]
  simp only [Ax,↓Ba,b9,g.q.rl.len,My,show decide ((0:Int)<0)=false from rfl]
  exact hK _ _ _ g (by simp only [bR,b0]) (by simp only [bR,b10])
 | cons x rest=>
  obtain ⟨v,rfl,hv⟩:=g.lv x (by simp)
  have hlen:0<((v:Int)::rest).length:=by simp
  rw [Qf,Qn]
  obtain ⟨ck,gm,gst⟩:=g.m
  simp only [Ax,↓Ba,b9,g.q.rl.len,show decide ((0:Int)<((((v:Int)::rest).length:Nat):Int))=true from Ar (by omega),↓Qf,↓Qn,↓mT,wh g.q.rl hlen,ints_at g.q.rl hlen,Ho,b10,↓Xm]
  refine B25 (im:=im) (ck:=ck) (es':=met) (v:=v) (by simp only [Cg,bR,bP,Yq gm]) gm g.c (by simp only [Cg,bR,bP,Ns]) λdd eL=>?_
  have hgT:TreeG An.hp An.nx T H nd S:=h.keep g.al
  have gz:=g.zr
  have gi:=g.i
  have gle:=g.al.le
  have x0:∀ {b:Bool},Fv An.hp (.tup [dd,bv b]) 0=some dd:=λ{b}=>C1 λid hid=>(eL.refs id (by simpa [DV.refs,DV.refsL,bv] using hid)).2
  have x1:∀ {b:Bool},Fv An.hp (.tup [dd,bv b]) 1=some (bv b):=rfl
  by_cases yC:v∈met.map Fj
  .rw [Ar yC]
   simp only [Ax,↓Ba,b9,x0,x1,↓Qn]
   refine C0 (R:=rInt) (p:=λj=>j∈z.refs) (a:=1) (z:=((v:Int)::rest).length) (d:=z) (l:=(v:Int)::rest) (by simp only [bR,bP]) g.q.rl rfl rfl (λn hn=>by rw [hn];rfl) (by omega) (by omega) ?_
   simp only [Ax,↓Ba,b0,b10]
   refine ⟨_,?_,_,rest,met,rfl,g.tail yC,rfl⟩
   rw [Ec];omega
  .rw [Aj yC]
   simp only [Ax,↓Ba,b10,x0,x1,↓Qf,↓Qn,↓mT]
   refine tc (im:=im) (ck:=ck) (es':=met) (by simp only [Cg,bR,bP,Yq gm]) gm λDb Ft Et=>?_
   simp only [bR] at Ft Et
   have k2:∀ j,j<An.nx->Db.get j=An.hp.get j:=λj hj=>Et j (by omega)
   simp only [Ax]
   refine Ca4 (k:=k+205) (T:=T) (H:=H) (nd:=nd) (n1:=n1) (S:=S) (im:=im) (ck:=ck) (v:=v) (I:=An.nx) (z:=z) (ls:=(v:Int)::rest) (met:=met) hB (h.keep ⟨Ai _,λj hj=>(k2 j (by omega)).trans (g.al.same j hj)⟩) ⟨gle,by show An.nx<An.nx+1;omega⟩ Ft (g.q.keep λj hj=>k2 j (gz j hj).2.1) (λj hj=>⟨(gz j hj).1,by show j<An.nx+1;have:=(gz j hj).2.1;omega,by have:=(gz j hj).2.1;omega,(gz j hj).2.2⟩) (by simp) (by have:=g.sz;omega) ((k2 im gi.2).trans gm) gst ⟨gi.1,by show im<An.nx+1;omega,by omega⟩ (λe he=>⟨(g.c e he).1,g.mv _ (Bm.2 ⟨e,he,rfl⟩)⟩) hv ?_ ?_ ?_ ?_ ?_ λKs W z3 hW Jb bS hq3 hz3 d0 d9 d10 d11=>?_
   .simp only [bR,b0]
   .simp only [bR,b9]
   .simp only [bR,b10]
   .simp only [bR]
   .simp only [bR]
   .have aBh:An.nx+1<=Ks.nx:=Jb
    have k3:∀ j,j<An.nx->j∉z.refs->Ks.hp.get j=An.hp.get j:=λj h1 h2=>(bS j (by show j<An.nx+1;omega) (by omega) h2).trans (k2 j h1)
    simp only [↓Ba,d0,d11]
    have kE:∀ j∈z3.refs,n1<=j/\j<Ks.nx/\j≠im/\(j∈z.refs\/An.nx<j):=λj hj=>by
     rcases hz3 j hj with h | h
     .have:=gz j h
      exact ⟨this.1,by omega,this.2.2,.inl h⟩
     .have h1:An.nx+1<=j:=h.1
      exact ⟨by omega,h.2,by omega,.inr (by omega)⟩
    have kz:∀ j,j<n1->Ks.hp.get j=Ng.get j:=λj hj=>(k3 j (by omega) λhh=>by have:=(gz j hh).1;omega).trans (g.al.same j hj)
    refine Fl (xj (n1:=n1) 200 k v _ _ _ (by have:=hv.2.1;omega) hv.2.1 hv.2.2 (by omega) (h.keep ⟨Ai _,kz⟩) λGz Mj d mM rd rdb=>?_)
    have bM:=mM.le
    simp only [Ax,↓Ba,d0,d10,d11]
    have O6:Gz.get im=some (.mapo ck met):=(mM.same im (by omega)).trans ((k3 im gi.2 λhh=>(gz im hh).2.2 rfl).trans gm)
    have gc4:MapC Gz (PC n1 T H An.nx im nd z) S.at' met:=g.c.keep λj hj=>by
     have:j<An.nx/\j∉z.refs:=by
      rcases hj with hj | hj
      .exact ⟨by omega,λhh=>by have:=(gz j hh).1;omega⟩
      .exact ⟨hj.2.1,hj.2.2.2⟩
     rw [mM.same j (by omega),k3 j this.1 this.2]
    refine Cs7 (im:=im) (ck:=ck) (es':=met) (v:=v) (d:=d) (by simp only [Cg,bR,bP,Yq O6]) O6 gc4 (by simp only [Cg,bR,bP,Ns]) (by simp only [Cg,bR,bP];exact rd.live) yC λHp Qb Io=>?_
    simp only [bR] at Qb Io
    have du:QL Hp z3 ((v:Int)::rest++Od S v W):=hq3.keep λj hj=>by
     have:=kE j hj
     rw [Io j this.2.2.1,mM.same j this.2.1]
    have gp:RcM S init Ng n1 T H im nd z3 ((v:Int)::rest++Od S v W) (met ++ [⟨.int .i64 (v:Nat),d,ck⟩]) Hp Mj:=by
     refine g.push h.ok hB yC hW gst ⟨by omega,λj hj=>?_⟩ du (λj hj=>⟨(kE j hj).1,by have:=(kE j hj).2.1;omega,(kE j hj).2.2.1⟩) (by omega) Qb (λj hj=>?_) ((rd.keep λj hj=>?_).mono λj hj=>?_)
     .rw [Io j (by omega),mM.same j (by omega),kz j hj]
     .have Tx:j<An.nx/\j∉z.refs/\j≠im:=by
       rcases hj with hj | hj
       .exact ⟨by omega,λhh=>by have:=(gz j hh).1;omega,by omega⟩
       .exact ⟨hj.2.1,hj.2.2.2,hj.2.2.1⟩
      refine ⟨hj.imp id λhj=>⟨hj.1,by omega,hj.2.2.1,λhh=>(kE j hh).2.2.2.elim hj.2.2.2 λh=>by omega⟩,?_⟩
      rw [Io j Tx.2.2,mM.same j (by omega),k3 j Tx.1 Tx.2.1]
     .refine Io j ?_
      rcases hj with hj | hj <;> omega
     .refine hj.imp id λhj=>⟨by omega,hj.2,by omega,λhh=>?_⟩
      have:=(kE j hh).2.1
      omega
    simp only [Ax,↓Ba,d9,↓Qn]
    refine C0 (R:=rInt) (p:=λj=>j∈z3.refs) (a:=1) (z:=((v:Int)::(rest++Od S v W)).length) (d:=z3) (l:=(v:Int)::(rest++Od S v W)) (by simp only [bR,bP]) gp.q.rl rfl rfl (λn hn=>by rw [hn];rfl) (by rw [Ec];omega) (by omega) ?_
    have gt:=RcM.tail (rest:=rest++Od S v W) gp (by rw [Cw];exact Em _ (by simp [Fj]))
    simp only [Ax,↓Ba,d0,d10]
    refine ⟨_,?_,_,rest++Od S v W,met ++ [⟨.int .i64 (v:Nat),d,ck⟩],rfl,gt,rfl⟩
    have h2:(Od S v W).length=met.length:=by unfold Od;rw [Br];exact hW.length_eq
    have h3:=gt.len
    rw [Ap,Bf] at h3
    rw [Ap,Ap,Bf,Ec,h2]
    omega
end
end Go.DD

/- Contracts: Reclaim marks what does not stay. Conditions: those that each theorem states. -/
namespace Go.DD
open Go Go.Proofs Go.Sort
def Ie(met:List ME)(v:Nat):Bool:=!(met.map Fj).contains v
def jK(S:GTree)(met:List ME)(i j:Nat):List PCell:=if j<i/\(Ie met (j+1) && !S.isG (j+1))=true then [] else S.chg j
section
variable {S:GTree} {n1 T H im ck:Nat} {nd:DV} {met:List ME} {p:Nat->Prop}
theorem Ca7{k:Nat}{es:ES}{Q:Exit->ES->Prop}(h:TreeG es.hp n1 T H nd S)(oT:n1<=es.nx)(hm:es.hp.get im=some (.mapo ck met))(Uo:im<es.nx/\im∉nd.refs)(hc:MapC es.hp p S.at' met)(hp:∀ j,p j->j∉nd.refs)(hh:∀ x∈S.heads,Ie met x.2.toNat=false)
  (a0:Ae es (.t .o)=.pt T 0) (P6:Ae es (.t (.r (.r (.l .o))))=.mp im) (a15:Ae es (.t (.l (.l (.l (.l .o)))))=iv 0) (a83:Ae es (.t (.l (.l (.r (.l (.r (.l .o)))))))=nd) (a84:Ae es (.t (.r (.l (.r (.l (.r (.l .o)))))))=iv S.vers.length) (a85:Ae es (.t (.l (.r (.r (.l (.r (.l .o)))))))=iv 0)
  (hK:∀ An,es.nx<=An.nx->TreeC An.hp (Bl n1) T H nd (S.mark (Ie met)) (jK S met S.vers.length)->(∀ j,j∉nd.refs->An.hp.get j=es.hp.get j)->Ae An (.t .o)=.pt T 0->Ae An (.t (.r (.r (.l .o))))=.mp im->Ae An (.t (.l (.l (.l (.l .o)))))=iv (S.newG (Ie met) S.vers.length:Nat)->Q .normal An) :
  EW (cL 1000000 uu) (kN k) es (Pk 6 Q):=by
 have hn:=h.ok.n
 refine EW.up S.vers.length (λi An=>es.nx<=An.nx/\TreeC An.hp (Bl n1) T H nd (S.mark λv=>decide (v<=i)&&Ie met v) (jK S met i)/\(∀ j,j∉nd.refs->An.hp.get j=es.hp.get j)/\Ae An (.t .o)=.pt T 0/\Ae An (.t (.r (.r (.l .o))))=.mp im/\Ae An (.t (.l (.l (.l (.l .o)))))=iv (S.newG (Ie met) i:Nat)/\Ae An (.t (.l (.l (.r (.l (.r (.l .o)))))))=nd/\Ae An (.t (.r (.l (.r (.l (.r (.l .o)))))))=iv S.vers.length/\Ae An (.t (.l (.r (.r (.l (.r (.l .o)))))))=iv (i:Nat)) ?_ ⟨Ai _,?_,λ_ _=>rfl,a0,P6,a15,a83,a84,a85⟩ (by omega)
 .rintro i An hi ⟨hle,ht,Ct,b0,b10,b15,RQ,V5,V4⟩
  unfold uu
  by_cases Nv:i<S.vers.length
  .have Wr:(S.mark λv=>decide (v<=i)&&Ie met v).vers.length=S.vers.length:=GTree.mark_len
   obtain ⟨a,b,ra,rb,⟨lv,nc⟩,⟨f0,_,f2⟩,l0,_,l2,eH,_⟩:=ht.ver (i:=i) (by rw [Wr];exact Nv)
   obtain ⟨d,aa,z,hT,_⟩:=ht.r
   have yU:An.hp.get im=some (.mapo ck met):=(Ct im Uo.2).trans hm
   have mG:MapC An.hp p S.at' met:=hc.keep λj hj=>Ct j (hp j hj)
   have kU:(S.mark λv=>decide (v<=i)&&Ie met v).isG (i+1)=S.isG (i+1):=by
    rw [GTree.mark_is (by omega) (by omega),show decide (i+1<=i)=false from Aj (by omega),Bool.false_and,Bool.or_false]
   rw [kU] at l2
   have keep:(Ie met (i+1) && !S.isG (i+1))=false->i<S.vers.length/\es.nx<=An.nx/\TreeC An.hp (Bl n1) T H nd (S.mark λv=>decide (v<=i+1)&&Ie met v) (jK S met (i+1))/\(∀ j,¬ j∈nd.refs->An.hp.get j=es.hp.get j)/\iv (S.newG (Ie met) i:Nat)=iv (S.newG (Ie met) (i+1):Nat):=λhx=>by
    have e1:(S.mark λv=>decide (v<=i+1)&&Ie met v)=S.mark λv=>decide (v<=i)&&Ie met v:=GTree.mark_congr λv h1 h2 h3=>by
     by_cases hv:v=i+1
     .subst hv
      rw [h3,Bool.not_false,Bool.and_true] at hx
      rw [hx,Sq,Sq]
     .rw [show decide (v<=i+1)=decide (v<=i) by simp;omega]
    have e2:jK S met (i+1)=jK S met i:=funext λj=>by
     unfold jK
     by_cases hj:j=i
     .subst hj
      rw [hx,Ad (by simp),Ad (by simp)]
     .by_cases Qv:j<i/\(Ie met (j+1) && !S.isG (j+1))=true
      .rw [Af Qv,Af ⟨by omega,Qv.2⟩]
      .rw [Ad Qv,Ad λh=>Qv ⟨by omega,h.2⟩]
    rw [e1,e2,GTree.newG_succ,hx,Ad (by simp)]
    exact ⟨Nv,hle,ht,Ct,rfl⟩
   simp only [Ax,↓Ba,b10,V5,V4,Nv,Jx (show i<_ by omega),↓Xm]
   refine B25 (im:=im) (ck:=ck) (es':=met) (v:=i+1) (by simp only [Cg,bR,bP,Yq yU]) yU mG (by simp only [Cg,bR,bP,Ns]) λdd eL=>?_
   have x0:∀ {b:Bool},Fv An.hp (.tup [dd,bv b]) 0=some dd:=λ{b}=>C1 λid hid=>(eL.refs id (by simpa [DV.refs,DV.refsL,bv] using hid)).2
   have x1:∀ {b:Bool},Fv An.hp (.tup [dd,bv b]) 1=some (bv b):=rfl
   by_cases Lr:i+1∈met.map Fj
   .rw [Ar Lr]
    simp only [Ax,↓Ba,x0,x1,b0,b10,b15,RQ,V5,V4,Jx (show i<_ by omega)]
    exact keep (by unfold Ie;rw [Ke.2 Lr];rfl)
   .rw [Aj Lr]
    have Lq:Ie met (i+1)=true:=by
     unfold Ie
     rw [show (met.map Fj).contains (i+1)=false from Hd.2 λhh=>Lr (Ke.1 hh)];rfl
    cases hg:S.isG (i+1) with
    | true=>
     rw [hg] at l2
     simp only [Ax,↓Ba,bP,x0,x1,b0,b10,b15,RQ,V5,V4,Jx (show i<_ by omega),↓Ut,Rk hT,Xg,lF (k:=3) hT,show Gl An.hp none (.pt T 3)=some nd from Qi hT rfl,eH,f2,l2]
     exact keep (by rw [hg,Hs,Sq])
    | false=>
     rw [hg] at l2
     have r:=ht.nl
     have b3:∀ j,(Bl n1 j/\j≠T/\j≠H)->j<An.nx:=λj hj=>Bp hj.1 (by omega)
     have hTn:T<n1:=ht.th.2.1
     have l3:Gl An.hp none (.pt T 3)=some nd:=Qi hT rfl
     simp only [Ax,↓Ba,bP,x0,x1,b0,b10,b15,RQ,V5,V4,Jx (show i<_ by omega),↓Ut,Rk hT,Xg,lF (k:=3) hT,l3,eH,f2,l2,↓Y8,Mp (n0:=An.nx) (m:=16) hT (show T<An.nx by omega),uy r b3,xk r b3,rZ r b3]
     obtain ⟨id,fl,e1,JQ,zE,_⟩:=ht.row (by omega)
     rw [Wr] at e1 zE
     have QX:∀ k,Gi (Ca 3 nd i) k=.pt id (i*3+k):=λk=>by
      rw [e1]
      show DV.pt id (0+i*3+k)=_
      rw [Cp]
     refine Nt rfl (mN (id:=id) (off:=i*3+2) (by simp only [bR];exact QX 2) JQ rfl ⟨rfl,rfl⟩ (by omega) λDb Ft Et=>?_)
     simp only [bR] at Ft Et
     have eb:((S.mark λv=>decide (v<=i)&&Ie met v).mark λv=>v==i+1).OK:=GTree.mark_ok ht.ok λx hx=>by
      have:=hh x hx
      refine Hd.2 λhe=>?_
      rw [eq_of_beq he,Lq] at this
      cases this
     have Yt:=ht.set2 (by rw [Wr];exact Nv) eb (by rw [Wr];exact e1) JQ Ft Et
     obtain ⟨_,_,_,_,_,⟨f0',_,_⟩,_,_,_,gk,_⟩:=Yt.ver (i:=i) (by rw [GTree.mark_len,Wr];exact Nv)
     have r2:=Yt.nl
     have yG:∀ {Gr:Tr DObj},Gr.get id=some (.row 136 ((fl.set (i*3+2) (bv true)).set (i*3) Cl))->(∀ j,j≠id->Gr.get j=Db.get j)->TreeC Gr (Bl n1) T H nd ((S.mark λv=>decide (v<=i)&&Ie met v).mark λv=>v==i+1) (λj=>if j=i then [] else jK S met i j):=λh1 h2=>Yt.set0 (by rw [GTree.mark_len,Wr];exact Nv) (a:=Cl) (c:=[]) .nil (by rw [GTree.mark_len,Wr];exact e1) Ft h1 h2
     have lnd:Cd Db nd=nd:=r2.live
     simp only [Ax,↓Ba,gk,f0',uy r2 b3,xk r2 b3,rZ r2 b3]
     refine Nt rfl (mN (id:=id) (off:=i*3) (by simp only [bR];exact QX 0) Ft rfl ⟨rfl,rfl⟩ (by rw [Mx];omega) λGr Ni Iz=>?_)
     simp only [bR] at Ni Iz
     have yF:=yG Ni Iz
     have e5:((S.mark λv=>decide (v<=i)&&Ie met v).mark λv=>v==i+1)=S.mark λv=>decide (v<=i+1)&&Ie met v:=by
      rw [GTree.mark_mark]
      refine GTree.mark_congr λv h1 h2 h3=>?_
      by_cases hv:v=i+1
      .subst hv
       simp [Lq]
      .have:((v==i+1):Bool)=false:=by simpa using hv
       rw [this,Bool.or_false,show decide (v<=i+1)=decide (v<=i) by simp;omega]
     have e6:(λj=>if j=i then [] else jK S met i j)=jK S met (i+1):=funext λj=>by
      unfold jK
      by_cases hj:j=i
      .subst hj
       rw [Af rfl,Af ⟨Fq _,by rw [Lq,hg];rfl⟩]
      .rw [Ad hj]
       by_cases Qv:j<i/\(Ie met (j+1) && !S.isG (j+1))=true
       .rw [Af Qv,Af ⟨by omega,Qv.2⟩]
       .rw [Ad Qv,Ad λh=>Qv ⟨by omega,h.2⟩]
     rw [e5,e6] at yF
     have fK:(Ie met (i+1) && !S.isG (i+1))=true:=by rw [Lq,hg];rfl
     have T6:=S.newG_succ (P:=Ie met) (i:=i)
     rw [fK,Af rfl] at T6
     have oR:=S.newG_le (P:=Ie met) (i:=i)
     simp only [Ax,↓Ba,b0,b10,b15,RQ,V5,V4,Jx (show S.newG (Ie met) i<_ by omega),Jx (show i<_ by omega)]
     refine ⟨Nv,by omega,yF,λj hj=>?_,by rw [T6]⟩
     have Nu:j≠id:=λe=>hj (by rw [e1,e];simp [DV.refs])
     rw [Iz j Nu,Et j Nu,Ct j hj]
  .have JJ:i=S.vers.length:=by omega
   subst JJ
   simp only [Ax,↓Ba,V5,V4,Nv]
   refine hK _ hle ?_ Ct (by simp only [bR,b0]) (by simp only [bR,b10]) (by simp only [bR,b15])
   have e1:(S.mark λv=>decide (v<=S.vers.length)&&Ie met v)=S.mark (Ie met):=GTree.mark_congr λv h1 h2 h3=>by
    rw [Ar h2,Bool.true_and]
   rw [e1] at ht
   exact ht
 .have e1:(S.mark λv=>decide (v<=0)&&Ie met v)=S:=GTree.mark_none λv h1 h2 h3=>by
   rw [Aj (by omega),Bool.false_and]
  rw [e1]
  have e2:jK S met 0=S.chg:=funext λj=>by
   unfold jK
   rw [Ad λh=>absurd h.1 (Nat.not_lt_zero j)]
  rw [e2]
  exact h.toC
end
end Go.DD
