/- VersionFull, the statement: for every input the call returns true and each argument reads afterwards as before. Conditions: none. -/
import Derived.Test.YtnphfnhhpcelbaaGreatYw
import Derived.Test.YtnphfnhhpcelbaaGreatYv
import Derived.Test.YtnphfnhhpcelbaaGreatProg
import Derived.KernelRfl
import Derived.Test.YtnphfnhhpcelbaaGreatYg
import Derived.WalkKit
import Derived.ProofKit
import Derived.OpenShut
import Derived.Test.YtnphfnhhpcelbaaGreatYf
import Derived.ChangeSame
import Derived.Below
import Derived.Test.YtnphfnhhpcelbaaGreatYs
import Derived.Test.YtnphfnhhpcelbaaGreatRows
import Derived.ChangeSlices
import Derived.Carry
set_option linter.unusedSectionVars false
set_option linter.unusedVariables false
namespace Go.DD
open Go Go.Proofs Go.Sort
def uH(S:GTree)(ch:Nat->List PCell)(W:List ME)(j:Nat):List PCell:=if j+1∈W.map Fj then S.chg j else ch j
section
variable {S:GTree} {n1 T H im ck I:Nat} {nd:DV} {met:List ME} {p:Nat->Prop} {ch:Nat->List PCell}
theorem Ca8{wc:Kl}{k:Nat}{es:ES}{Q:Exit->ES->Prop}(h:TreeC es.hp (λj=>j<es.nx/\j≠I) T H nd S ch)(hI:es.hp.get I=some (.miter (.mp im) ck [] ck))(hI2:I<es.nx/\I∉nd.refs/\I≠T/\I≠H)(hm:es.hp.get im=some (.mapo ck met))(If:StO ck met)(Uo:im<es.nx/\im∉nd.refs/\im≠I)(hc:MapC es.hp p S.at' met)(hp:∀ j,p j->j<es.nx/\j∉nd.refs/\j≠I)(hv:∀ v∈met.map Fj,lL S v)(I5:∀ v,lL S v->v∈met.map Fj)(Yf:∀ j,j<S.vers.length->j+1∉met.map Fj->ch j=S.chg j)
  (a0:Ae es (.t .o)=.pt T 0) (P6:Ae es (.t (.r (.r (.l .o))))=.mp im) (qy:Ae es (.t (.r (.r (.r (.r (.r (.r .o)))))))=.pt I 0)
  (hK:∀ An,es.nx<=An.nx->TreeG An.hp An.nx T H nd S->(∀ j,j<es.nx->j≠I->j∉nd.refs->An.hp.get j=es.hp.get j)->Ae An (.t (.l (.l (.l (.l .o)))))=Ae es (.t (.l (.l (.l (.l .o)))))->Q .normal An) :
  wL um wc (kN (k+6)) es (Pk 8 Q):=by
 have JB:∀ W:List ME,W.Nodup->(∀ e∈W,e∈met)->W.length<=met.length:=λW h1 h2=>Jk h1 h2
 refine AN (λm An=>∃ W,m=met.length-W.length/\W.Nodup/\(∀ e∈W,e∈met)/\es.nx<=An.nx/\TreeC An.hp (λj=>j<An.nx/\j≠I) T H nd S (uH S ch W)/\(∀ j,j<es.nx->j≠I->j∉nd.refs->An.hp.get j=es.hp.get j)/\An.hp.get I=some (.miter (.mp im) ck (W.map ME.b) ck)/\Ae An (.t .o)=.pt T 0/\Ae An (.t (.r (.r (.l .o))))=.mp im/\Ae An (.t (.r (.r (.r (.r (.r (.r .o)))))))=.pt I 0/\Ae An (.t (.l (.l (.l (.l .o)))))=Ae es (.t (.l (.l (.l (.l .o)))))) met.length ⟨[],rfl,.nil,λe h=>(by cases h),Ai _,?_,λ_ _ _ _=>rfl,hI,a0,P6,qy,rfl⟩ ?_
 .have:uH S ch []=ch:=funext λj=>by
   unfold uH
   rw [Ad (by simp)]
  rw [this];exact h
 rintro m An ⟨W,rfl,pP,lD,hle,ht,Ct,pR,b0,b10,P5,b15⟩
 have yU:An.hp.get im=some (.mapo ck met):=(Ct im Uo.1 Uo.2.2 Uo.2.1).trans hm
 unfold um
 rw [Qf,qW]
 refine D8 (id:=I) (im:=im) (ck:=ck) (es':=met) (seen:=W.map ME.b) (by simp only [Cg,bP,P5,Rk pR]) pR yU If.1 (λKa=>?_) λe Yv Ha Db Ft Et=>?_
 .have x0:∀ {Ao:Tr DObj},Fv Ao (.tup [.v (.bool false)]) 0=some (bv false):=rfl
  simp only [Ax,↓Ba,↓Nx,↓Tl,↓Qf,↓Qn,x0]
  have hW:=A06 If pP lD Ka
  refine hK _ hle ((ht.keep (B':=Bl An.nx) (λ_ _=>rfl) λj hj=>hj.1).toG λi hi=>?_) Ct (by simp only [bR,b15])
  unfold uH
  by_cases Nv:i+1∈W.map Fj
  .rw [Af Nv]
  .rw [Ad Nv]
   exact Yf i hi λhh=>Nv ((hW.map Fj).mem_iff.2 hh)
 .have x0:∀ {Ao:Tr DObj},Fv Ao (.tup [.v (.bool true),Qt e.k,e.v]) 0=some (bv true):=rfl
  have oU:=(Et im Uo.2.2).trans yU
  have M5:e∉W:=λh=>Ha (Bm.2 ⟨e,h,rfl⟩)
  simp only [Ax,↓Ba,↓Nx,↓Tl,↓Qf,↓Qn,↓mT,↓qW,x0]
  refine D9 (e:=e) (s0:=W.map ME.b) (id:=I) (im:=im) (ck:=ck) (es':=met) (by simp only [Cg,bR,bP,P5,Rk Ft]) (by simp only [];exact Ft) (by simp only [];exact oU) Yv If.2 ?_
  have k2:∀ j,p j->Db.get j=es.hp.get j:=λj hj=>by
   have:=hp j hj
   rw [Et j this.2.2,Ct j this.1 this.2.2 this.2.1]
  have Yg:MapC Db p S.at' met:=hc.keep k2
  obtain ⟨ek,er⟩:=Yg e Yv
  have ev:=hv _ (Bm.2 ⟨e,Yv,rfl⟩)
  generalize hve:Fj e=v at ek er ev
  have x1:∀ {Ao:Tr DObj},Fv Ao (.tup [Qt e.k,e.v]) 0=some (iv (v:Nat)):=λ{Ao}=>by rw [ek];rfl
  have x2:Fv Db (.tup [Qt e.k,e.v]) 1=some e.v:=C1 λid hid=>by
   rw [ek] at hid
   exact (er.refs id (by simpa [DV.refs,DV.refsL,Qt] using hid)).2
  have Yt:TreeC Db (λj=>j<An.nx/\j≠I) T H nd S (uH S ch W):=ht.keep (λj hj=>Et j hj.2) λ_ h=>h
  simp only [Ax,↓Ba,↓Nx,↓Tl,x1,x2,b0]
  refine Fl (MR (k+5) _ v Yt ⟨ev.1,ev.2.1⟩ ?_)
  simp only [Ax,↓Ba,b0,b10]
  refine Fl (A28 (k+4) _ v Yt ⟨ev.1,ev.2.1⟩ ?_)
  obtain ⟨dd,hl,rd⟩:=GC (v:=S.sup v) oU Yg
  have HM:=GTree.sup_lt h.ok ev.1 ev.2.1
  have KK:(if S.sup v∈met.map Fj then S.at' (S.sup v) else [])=S.at' (S.sup v):=by
   by_cases hz:S.sup v=0
   .rw [hz]
    split <;> rfl
   .rw [Af (I5 _ ⟨by omega,by have:=ev.2.1;omega,HM.2⟩)]
  rw [KK] at rd
  simp only [Ax,↓Ba,b0,show Cm 135=(.l (.l (.l (.r (.l (.l (.l .o))))))) from rfl,show Cm 138=(.r (.r (.l (.r (.l (.l (.l .o))))))) from rfl,Yq oU,hl]
  have tN:∀ j,p j->Bl An.nx j:=λj hj=>by
   have:=(hp j hj).1
   show j<An.nx
   omega
  obtain ⟨sc,so,sl⟩:=h.ok.chk (S.sup v)
  obtain ⟨xc,xo,xl⟩:=h.ok.chk v
  refine Fl (vq k An.nx _ _ _ dd e.v (S.at' (S.sup v)) (S.at' v) (Ai _) (rd.mono tN) (er.mono tN) (by omega) (λc he=>?_) λGr Dx z3 Uq nD=>?_)
  .rcases he with he | he
   .exact ⟨Y0 sc c he,(so.e c he).1,C9 sc c he,(so.e c he).2.1⟩
   .exact ⟨Y0 xc c he,(xo.e c he).1,C9 xc c he,(xo.e c he).2.1⟩
  have Jb:=Uq.le
  have yG:TreeC Gr (λj=>j<Dx/\j≠I) T H nd S (uH S ch W):=Yt.keep (λj hj=>Uq.same j hj.1) λj hj=>⟨by omega,hj.2⟩
  obtain ⟨_,_,⟨lv,nc⟩,⟨f0,_,_⟩,_,_,_⟩:=yG.verV (v:=v) ⟨ev.1,ev.2.1⟩
  obtain ⟨id,fl,e1,JQ,zE,hid,aR1,aR2,_⟩:=yG.row (by have:=ev.1;have:=ev.2.1;omega)
  have ev1:=ev.1
  have ev2:=ev.2.1
  have QX:Gi (Ca 3 nd (v-1)) 0=.pt id ((v-1)*3):=by
   rw [e1]
   show DV.pt id (0+(v-1)*3+0)=_
   rw [Cp,Oq]
  simp only [Ax,↓Ba,b0,↓Ut,show Cm 134=(.r (.r (.r (.l (.l (.l (.l .o))))))) from rfl,lv,nc,f0]
  refine mN (id:=id) (off:=(v-1)*3) (by simp only [bR];exact QX) JQ (by simp only [Hl,bR];exact nD.live) nD.ok (by omega) λGz Mf Fp=>?_
  simp only [bR] at Mf Fp
  have yF:=yG.set0 (i:=v-1) (by omega) (a:=z3) (c:=S.chg (v-1)) (by
   have e9:S.chg (v-1)=Sj (Hy [S.at' (S.sup v),S.at' v]):=by
    unfold GTree.chg
    rw [show v-1+1=v by omega,ev.2.2,Ad (by simp)]
   rw [e9]
   refine nD.mono λj hj=>?_
   have h1:An.nx<=j:=hj.1
   have h2:=Yt.th
   exact ⟨⟨hj.2,by omega⟩,by have:=h2.2.1.1;omega,by have:=h2.2.2.1;omega,λhh=>by have:=(Yt.nr j hh).1.1;omega⟩) e1 JQ Mf Fp
  simp only [Ax,↓Ba,b0,b10,b15,P5]
  have Ya:(W ++ [e]).Nodup:=Iq.2 ⟨pP,by simp,λa ha b hb=>by rw [Am.1 hb];exact λh=>M5 (h ▸ ha)⟩
  have Vd:∀ x∈W ++ [e],x∈met:=λx hx=>(Aw.1 hx).elim (lD x) λh=>by rw [Am.1 h];exact Yv
  have hlen:=JB (W ++ [e]) Ya Vd
  rw [Ap,Bf] at hlen
  have e10:(λj=>if j=v-1 then S.chg (v-1) else uH S ch W j)=uH S ch (W ++ [e]):=funext λj=>by
   have em:(W ++ [e]).map Fj=W.map Fj ++ [v]:=by rw [Cw,<- hve];rfl
   unfold uH
   rw [em]
   by_cases hj:j=v-1
   .subst hj
    rw [Af rfl,Af (Em _ (by rw [Am];omega))]
   .rw [Ad hj]
    by_cases Qv:j+1∈W.map Fj
    .rw [Af Qv,Af (Dq _ Qv)]
    .rw [Ad Qv,Ad λhh=>(Aw.1 hh).elim Qv λh=>by rw [Am] at h;omega]
  rw [e10] at yF
  have IL:∀ j,j∉nd.refs->j≠id:=λj hj h=>hj (by rw [e1,h];simp [DV.refs])
  refine ⟨met.length-(W ++ [e]).length,by rw [Ap,Bf];omega,W ++ [e],rfl,Ya,Vd,by omega,yF,λj h1 h2 h3=>?_,?_⟩
  .rw [Fp j (IL j h3),Uq.same j (by omega),Et j h2,Ct j h1 h2 h3]
  .rw [Fp I (IL I hI2.2.1),Uq.same I (by have:=hI2.1;omega),Ft,Cw];rfl
end
end Go.DD

/- Contracts: Reclaim. Conditions: those that each theorem states. -/
namespace Go.DD
open Go Go.Proofs Go.Sort
noncomputable def qb(k:Nat):Kl:=Qx Tryz.prog 1000000 (qc k) (λf=>Nat.beq f 95||Nat.beq f 999999) false (kN k)
theorem C32{k:Nat} : B2 Tryz.prog (qb k):=X2 (R4 (n:=1000000) mixed Vu W5 k) C27 mixed
structure RecM (S:GTree) (init:List Int) (ms:List Nat):Prop where
 nu:ms.Nodup
 mv:∀ v∈ms,lL S v
 mn:∀ P,Clo S init P->∀ v∈ms,P v
 it:∀ x∈init,x.toNat∈ms
 cl:∀ v w,v∈ms->w∈ms->S.baseG v w∈ms
def Pw(ms:List Nat)(v:Nat):Bool:=!ms.contains v
theorem RcM.fin{S:GTree}{init:List Int}{Ng hp:Tr DObj}{n1 T H im nx:Nat}{nd z:DV}{met:List ME}(h:RcM S init Ng n1 T H im nd z [] met hp nx):RecM S init (met.map Fj):=
 ⟨h.nu,h.mv,λP hP=>(h.mn P hP).1,λx hx=>(h.it x hx).elim id λh=>(by cases h),λv w hv hw=>(h.cl v w hv hw).elim id λh=>(by cases h)⟩
section
variable {S:GTree} {T H:Nat} {nd dk:DV} {ks:List Int}
theorem Bq7{k:Nat}{hp:Tr DObj}{nx:Nat}{K:DV->Tr DObj->Nat->Prop}(h:TreeG hp nx T H nd S)(hB:S.OKB)(hk:RL rInt hp (Bl nx) dk ks)(JD:ks.length<=100)(hhl:S.heads.length<=100)(fq:∀ x∈ks,1<=x/\x<=(S.vers.length:Nat))
  (hE:∀ Ao Bk,Al hp nx Ao Bk->(∃ x∈ks,S.isG x.toNat=true)->K (.tup [iv 0,iv 23]) Ao Bk)
  (hK:∀ Ao Bk ms,nx<=Bk->(∀ j,j<nx->j∉nd.refs->Ao.get j=hp.get j)->RecM S (ks++S.heads.map λx=>x.2) ms->TreeG Ao Bk T H nd (S.mark (Pw ms))->K (.tup [iv (S.newG (Pw ms) S.vers.length:Nat),iv 0]) Ao Bk):qb (k+208) 36 [.pt T 0,dk] hp nx K:=by
 refine Cs3 VO VK VG UY C31 (Zz VC rfl) λes e1 e2 he=>?_
 have a0:Ae es (.t .o)=.pt T 0:=he 0 _ rfl
 have a1:Ae es (.t (.l .o))=dk:=he 1 _ rfl
 subst e1 e2
 have hn:=h.ok.n
 unfold xu
 rw [Qf,Qn]
 simp only [Ax,↓Ba,a0,↓Qf,↓Qn]
 refine Fl (Xw (k+207) _ h ?_)
 simp only [Ax,↓Ba,a1,↓Qf,↓Qn,hk.len]
 refine EW.up ks.length (λi An=>An.hp=es.hp/\An.nx=es.nx/\Ae An (.t .o)=.pt T 0/\Ae An (.t (.l .o))=dk/\Ae An (.t (.r (.l (.l (.r .o)))))=dk/\Ae An (.t (.l (.r (.l (.r .o)))))=iv ks.length/\Ae An (.t (.r (.r (.l (.r .o)))))=iv (i:Nat)/\∀ j,(hj:j<ks.length)->j<i->S.isG (ks[j]).toNat=false) ?_ ⟨rfl,rfl,by simp only [bR,a0],by simp only [bR,a1],by simp only [bR],by simp only [bR],by simp only [bR];rfl,λj _ hj=>absurd hj (Nat.not_lt_zero j)⟩ (by omega)
 rintro i An hi ⟨g1,g2,b0,b1,V6,qJ,mK,Ka⟩
 unfold Ck8
 have h1:TreeG An.hp An.nx T H nd S:=by rw [g1,g2];exact h
 have Cv:RL rInt An.hp (Bl An.nx) dk ks:=by rw [g1,g2];exact hk
 rw [<- g1,<- g2] at hE hK
 by_cases Nv:i<ks.length
 .have h0:=fq _ (Bh Nv)
  obtain ⟨v,hv⟩:∃ v:Nat,ks[i]=(v:Int):=⟨ks[i].toNat,by omega⟩
  have hvr:1<=v/\v<=S.vers.length:=by
   have:=fq _ (Bh Nv)
   omega
  simp only [Ax,↓Ba,b0,V6,qJ,mK,Nv,lP Cv Nv,ints_at Cv Nv,hv]
  refine Fl (vp (k+206) _ v h1 hvr ?_)
  cases hg:S.isG v with
  | true=>
   rw [Af rfl]
   simp only [Ax,↓Ba,bP,b0,b1,V6,qJ,mK]
   simp only [Ax,show decide (¬ (23:Int)=0)=true from rfl]
   exact hE _ _ (Al.refl _ _) ⟨_,Bh Nv,by rw [hv];exact hg⟩
  | false=>
   rw [Ad (by simp)]
   simp only [Ax,↓Ba,b0,b1,V6,qJ,mK,Jx (show i<_ by omega)]
   refine ⟨Nv,g1,g2,λj hj Nu=>?_⟩
   by_cases Qv:j=i
   .subst Qv
    rw [hv];exact hg
   .exact Ka j hj (by omega)
 .have JJ:i=ks.length:=by omega
  subst JJ
  have kH:∀ x∈ks,S.isG x.toNat=false:=λx hx=>by
   obtain ⟨j,hj,rfl⟩:=El hx
   exact Ka j hj hj
  obtain ⟨d,aa,zz,hT,⟨_,f3,f4,_⟩,⟨_,_,l3,l4⟩,_⟩:=h1.ld
  obtain ⟨ck,bV,hH,hM,uC⟩:=h1.m
  have PO:=h1.th
  simp only [Ax,↓Ba,bP,b0,b1,qJ,mK,Nv,↓Qf,↓qW,↓Nx,↓Ut,Rk hT,Xg,f4,l4]
  refine Fl (Ca2 (k+207) _ _ _ hH PO.2.2 λDb Ft Et=>?_)
  have k2:∀ j,j<An.nx->Db.get j=An.hp.get j:=λj hj=>Et j (by omega)
  simp only [Ax,↓Ba,bP,↓Qf,↓Qn]
  refine sI ?_
  simp only [Ag,Ak,bR]
  have hel:bV.length=S.heads.length:=by
   have:=Mq List.length hM
   rwa [Br,Br] at this
  refine Bq6 (k+207) ⟨Fq _,by omega⟩ Ft ((k2 H PO.2.2).trans hH) hM uC (by omega) λGr Dx z l Uq rz aF=>?_
  have Jb:=Uq.le
  simp only [↓Ba,↓Nx]
  have k3:∀ j,j<An.nx->Gr.get j=An.hp.get j:=λj hj=>(Uq.same j (by omega)).trans (k2 j hj)
  have Iz:RL rInt Gr (Bl An.nx) dk ks:=Cv.keep k3
  refine Vt (fl:=[dk,z]) rfl (by simp only [Ag,Ak,Cg,bR,bP,Iz.live,rz.live];exact Ch4 Iz.ok rz.ok) λGz Mf Fp=>?_
  simp only [bR] at Mf Fp
  have k4:∀ j,j<Dx->Gz.get j=Gr.get j:=λj hj=>Fp j (by omega)
  have fw:RL rInt Gz (Bl (Dx+1)) dk ks:=(Iz.keep λj (hj:j<An.nx)=>k4 j (by omega)).mono λj (hj:j<An.nx)=>by show j<Dx+1;omega
  have vU:RL rInt Gz (Bl (Dx+1)) z l:=(rz.keep λj hj=>k4 j hj.2).mono λj hj=>by
   have:=hj.2
   show j<Dx+1
   omega
  have rr:RL Qh Gz (Bl (Dx+1)) (.ms Dx 0 2 1) [ks,l]:=.ms Dx 0 [dk,z] [ks,l] Mf (Fq _) (Ai _) ⟨[dk],[z],rfl,⟨dk,rfl,fw⟩,[z],[],rfl,⟨z,rfl,vU⟩,rfl⟩ λc hc=>by
   simp only [Aq,Ci,or_false] at hc
   rcases hc with rfl | rfl
   .exact Iz.same (by decide)
   .exact rz.same (by decide)
  have PZ:l.length=S.heads.length:=by
   have:=aF.length_eq
   rwa [Br] at this
  have rI:[ks,l].flatten=ks++l:=by simp
  have iz:[ks,l].flatten.length<900000:=by rw [rI,Ap];omega
  simp only [Ax,↓Ba,↓Nx]
  refine Fl (B24 (k+206) _ _ _ (Dx+1) (.ms Dx 0 2 1) [ks,l] (Ai _) rr iz (by show 2<900000;decide) λHp Jp q fQ oq hq=>?_)
  rw [rI] at oq
  have Su:=fQ.le
  simp only [Ax,↓Ba,↓Nx,↓Tl]
  refine Bw4 λJf Yu Py=>?_
  simp only [bR] at Yu Py
  have k6:∀ j,j<Jp->Jf.get j=Hp.get j:=λj hj=>Py j (by omega)
  have lK:Al An.hp An.nx Jf (Jp+1):=⟨by omega,λj hj=>by rw [k6 j (by omega),fQ.same j (by omega),k4 j (by omega),k3 j hj]⟩
  have h6:TreeG Jf (Jp+1) T H nd S:=h1.keep lK
  simp only [Ax,↓Ba,bP,↓Qf,↓Qn,↓mT]
  have Vz:∀ x∈ks++l,∃ v:Nat,x=(v:Nat)/\lL S v:=λx hx=>by
   rcases Aw.1 hx with hx | hx
   .have:=fq x hx
    exact ⟨x.toNat,by omega,by omega,by omega,kH x hx⟩
   .obtain ⟨y,hy,rfl⟩:=Bm.1 (aF.mem_iff.1 hx)
    have:=h.ok.h y hy
    exact ⟨y.2.toNat,by omega,by omega,by omega,this.2.2⟩
  have g0:RcM S (ks++l) An.hp An.nx T H Jp nd q (ks++l) [] Jf (Jp+1):=by
   refine ⟨lK,(QL.of oq).keep λj hj=>k6 j (hq j hj).2,λj hj=>?_,⟨by omega,Fq _⟩,⟨0,Yu,λe he=>(by cases he),.nil⟩,λe he=>(by cases he),.nil,λv hv=>(by cases hv),Vz,λP hP=>⟨λv hv=>(by cases hv),hP.1⟩,λx hx=>.inr hx,λv w hv=>(by cases hv),?_⟩
   .have:=hq j hj
    exact ⟨by omega,by omega,by omega⟩
   .rw [Ap];omega
  refine Ca6 (k:=k) hB h1 g0 (by simp only [bR,b0]) (by simp only [bR]) (by simp only [bR]) λqB z7 met g7 c0 c10=>?_
  have k7:∀ j,j<An.nx->qB.hp.get j=An.hp.get j:=g7.al.same
  have h7:TreeG qB.hp An.nx T H nd S:=h1.keep ⟨Ai _,k7⟩
  obtain ⟨_,_,_,hT7,⟨_,f37,_,_⟩,⟨_,_,l37,_⟩,_⟩:=h7.ld
  obtain ⟨RO,gm7,lb⟩:=g7.m
  have JA:Qo qB.hp nd=some (.v (.int .i64 (S.vers.length:Int))):=by rw [h7.nl.len,S.nodes_len]
  have kM:=h1.nr
  have g7i:=g7.i
  have tN:∀ j,PC An.nx T H qB.nx Jp nd z7 j->j∉nd.refs/\j<qB.nx:=λj hj=>by
   rcases hj with hj | hj
   .exact ⟨hj.2.2.2,by omega⟩
   .exact ⟨λhh=>by have:=(kM j hh).1;omega,hj.2.1⟩
  have Jc:∀ v,v∈met.map Fj↔Ie met v=false:=λv=>by
   unfold Ie
   rw [Bool.not_eq_false',Ke]
  have K9:∀ x∈S.heads,Ie met x.2.toNat=false:=λx hx=>(Jc _).1 (g7.fin.it x.2 (Em _ (aF.mem_iff.2 (Bm.2 ⟨x,hx,rfl⟩))))
  simp only [Ax,↓Ba,bP,c0,↓Ut,Rk hT7,Xg,f37,l37,JA]
  refine Ca7 (k:=k+208) (n1:=An.nx) (im:=Jp) (ck:=RO) (met:=met) h7 (by show An.nx<=qB.nx;exact g7.al.le) gm7 ⟨g7i.2,λhh=>by have:=(kM _ hh).1;omega⟩ g7.c (λj hj=>(tN j hj).1) K9 (by simp only [bR,c0]) (by simp only [bR,c10]) (by simp only [bR]) (by simp only [bR]) (by simp only [bR]) (by simp only [bR]) λqA Zf I7 JU d0 d10 d15=>?_
  have aBg:qB.nx<=qA.nx:=Zf
  have zD:∀ j,j∉nd.refs->qA.hp.get j=qB.hp.get j:=JU
  simp only [Ax,↓Ba,bP,d10,↓Qf,↓Qn,↓mT]
  have lg:qA.hp.get Jp=some (.mapo RO met):=(JU Jp λhh=>by have:=(kM _ hh).1;omega).trans gm7
  refine tc (im:=Jp) (ck:=RO) (es':=met) (by simp only [Cg,bR,show Cm 125=(.l (.r (.r (.r (.r (.r .o)))))) from rfl,Yq lg]) lg λMk Qa Ju=>?_
  simp only [bR] at Qa Ju
  have k9:∀ j,j<qA.nx->Mk.get j=qA.hp.get j:=λj hj=>Ju j (by omega)
  have eD:=g7.al.le
  have k89:∀ j,PC An.nx T H qB.nx Jp nd z7 j->Mk.get j=qB.hp.get j:=λj hj=>by
   have:=tN j hj
   rw [k9 j (by omega),zD j this.1]
  have KK:(S.mark (Ie met)).at'=S.at':=funext λv=>GTree.mark_at.1
  have yC:∀ v,lL (S.mark (Ie met)) v↔v∈met.map Fj:=λv=>by
   constructor
   .rintro ⟨q1,q2,q3⟩
    rw [GTree.mark_len] at q2
    rw [GTree.mark_is q1 q2,Ld] at q3
    exact (Jc v).2 q3.2
   .intro hv
    have:=g7.mv v hv
    refine ⟨this.1,by rw [GTree.mark_len];exact this.2.1,?_⟩
    rw [GTree.mark_is this.1 this.2.1,this.2.2,(Jc v).1 hv];rfl
  refine Ca8 (k:=k+202) (S:=S.mark (Ie met)) (ch:=jK S met S.vers.length) (p:=PC An.nx T H qB.nx Jp nd z7) (I:=qA.nx) (im:=Jp) (ck:=RO) (met:=met) (T:=T) (H:=H) (nd:=nd) (I7.keep (λj (hj:j<An.nx)=>k9 j (by omega)) λj (hj:j<An.nx)=>⟨by show j<qA.nx+1;omega,by omega⟩) Qa ⟨Fq _,λhh=>by have:=(kM _ hh).1;omega,by omega,by omega⟩ ((k9 Jp (by omega)).trans lg) lb ⟨by show Jp<qA.nx+1;omega,λhh=>by have:=(kM _ hh).1;omega,by omega⟩ (by rw [KK];exact g7.c.keep k89) (λj hj=>by have:=tN j hj;exact ⟨by show j<qA.nx+1;omega,this.1,by omega⟩) (λv hv=>(yC v).2 hv) (λv hv=>(yC v).1 hv) (λj hj JG=>?_) (by simp only [bR,d0]) (by simp only [bR,d10]) (by simp only [bR]) λesA fk hA iu e15=>?_
  .rw [GTree.mark_len] at hj
   have ho:Ie met (j+1)=true:=by
    cases hx:Ie met (j+1) with
    | true=>rfl
    | false=>exact absurd ((Jc _).2 hx) JG
   have e1:(S.mark (Ie met)).chg j=[]:=by
    unfold GTree.chg
    rw [GTree.mark_is (by omega) (by omega),ho,Bool.or_true,Af rfl]
   rw [e1]
   unfold jK
   cases hg:S.isG (j+1) with
   | false=>rw [Af ⟨hj,by rw [ho];rfl⟩]
   | true=>
    rw [Ad λh=>by rw [Hs,Sq] at h;exact absurd h.2 (by simp)]
    unfold GTree.chg
    rw [hg,Af rfl]
  .have aBf:qA.nx+1<=esA.nx:=fk
   simp only [bR,d15] at e15
   simp only [Ax,↓Ba,e15]
   refine hK _ _ (met.map Fj) (by omega) (λj h1 h2=>?_) ?_ hA
   .rw [iu j (by show j<qA.nx+1;omega) (by omega) h2]
    show Mk.get j=_
    rw [k9 j (by omega),zD j h2,k7 j h1]
   .have hm:=g7.fin
    have cO:∀ x,x∈ks++l↔x∈ks++S.heads.map λx=>x.2:=λx=>by
     rw [Aw,Aw,aF.mem_iff]
    exact ⟨hm.nu,hm.mv,λP hP=>hm.mn P ⟨λx hx=>hP.1 x ((cO x).1 hx),hP.2⟩,λx hx=>hm.it x ((cO x).2 hx),hm.cl⟩
end
end Go.DD

/- Plain: Apply has one answer; a branch of versions as a tree; what Reclaim leaves of it. Arrays in a row. Conditions: those that each theorem states. -/
namespace Go.DD
open Go Go.Proofs Go.Sort
def Nq:ByteArray:=bs [109,97,105,110]
def Dg(x:PArr)(cs:List (List PCell)):GTree:=⟨x.dims,x.attrs,cs.mapIdx λi c=>⟨c,if i=0 then [] else [(i:Int)],false⟩,[(Nq,(cs.length:Int))]⟩
section
variable {x:PArr} {cs:List (List PCell)}
theorem foldT_len:(Dg x cs).vers.length=cs.length:=List.length_mapIdx
theorem B31(c:List PCell)(h:cs≠[]):(Dg x cs).add Nq c [((cs.length:Nat):Int)]=Dg x (cs ++ [c]):=by
 have h0:0<cs.length:=Rh.2 h
 refine GTree.vers_ext rfl rfl ?_ ?_
 .show Ny [(Nq,(cs.length:Int))] Nq (((Dg x cs).vers.length+1:Nat):Int)=[(Nq,(((cs ++ [c]).length:Nat):Int))]
  rw [foldT_len,Ap]
  unfold Ny
  rw [Af rfl];rfl
 .show (cs.mapIdx λi c=>(⟨c,if i=0 then [] else [(i:Int)],false⟩:GVer)) ++ [⟨c,[((cs.length:Nat):Int)],false⟩]=(cs ++ [c]).mapIdx λi c=>(⟨c,if i=0 then [] else [(i:Int)],false⟩:GVer)
  rw [List.mapIdx_append]
  congr 1
  simp only [List.mapIdx_cons,List.mapIdx_nil,Cp]
  rw [Ad (by omega)]
theorem B32{i:Nat}(h:i<cs.length):(Dg x cs).vers[i]?=some ⟨cs[i],if i=0 then [] else [(i:Int)],false⟩:=by
 show (cs.mapIdx _)[i]?=_
 rw [List.getElem?_mapIdx,Aa h];rfl
theorem R0{i:Nat}(h:i<cs.length):(Dg x cs).at' (i+1)=cs[i]/\(Dg x cs).parG (i+1)=(if i=0 then [] else [(i:Int)])/\(Dg x cs).isG (i+1)=false:=by
 have e:=B32 (x:=x) h
 refine ⟨?_,?_,?_⟩
 .show (match (Dg x cs).vers[i]? with
   | some x=>x.cells
   | none=>[])=_
  rw [e]
 .show (match (Dg x cs).vers[i]? with
   | some x=>x.par
   | none=>[])=_
  rw [e]
 .show (match (Dg x cs).vers[i]? with
   | some x=>x.gone
   | none=>false)=_
  rw [e]
theorem NK{v:Nat}(h1:1<=v)(h2:v<=cs.length):(Dg x cs).isG v=false:=by
 obtain ⟨i,rfl⟩:∃ i,v=i+1:=⟨v-1,by omega⟩
 exact (R0 (by omega)).2.2
theorem xh:∀ {v u:Nat},1<=u->u<=v->v<=cs.length->(Dg x cs).Anc v u
 | 0,u,h1,h2,_=>by omega
 | v+1,u,h1,h2,h3=>by
  by_cases h:u=v+1
  .subst h;exact .refl _
  .have e:=(R0 (x:=x) (i:=v) h3).2.1
   rw [Ad (by omega)] at e
   exact .step (q:=(v:Int)) (by rw [e];simp) (xh (v:=v) h1 (by omega) (by omega))
theorem B33:∀ v,2<=v->v<=(Dg x cs).vers.length->(Dg x cs).parG v≠[]:=λv h1 h2=>by
 rw [foldT_len] at h2
 obtain ⟨i,rfl⟩:∃ i,v=i+1:=⟨v-1,by omega⟩
 rw [(R0 (by omega)).2.1,Ad (by omega)]
 simp
theorem A29(hS:(Dg x cs).OK){v w:Nat}(h1:1<=v)(h2:v<=cs.length)(h3:1<=w)(h4:w<=cs.length):(Dg x cs).baseG v w=min v w:=
 GTree.base_uniq hS B33 ⟨h1,by rw [foldT_len];exact h2⟩ ⟨h3,by rw [foldT_len];exact h4⟩ (xh (by omega) (by omega) h2) (xh (by omega) (by omega) h4) λj ha hb=>by
  have:=ha.le hS h1 (by rw [foldT_len];exact h2)
  have:=hb.le hS h3 (by rw [foldT_len];exact h4)
  omega
theorem B34(hS:(Dg x cs).OK):(Dg x cs).OKB:=⟨B33,λv w h1 h2 h3 h4 _ _=>by
 rw [foldT_len] at h2 h4
 rw [A29 hS h1 h2 h3 h4]
 exact NK (by omega) (by omega)⟩
end
def Zs(P:Nat->Bool)(i:Nat):Nat:=((List.range i).filter λj=>!P (j+1)).length
theorem Bq8{P:Nat->Bool}{i:Nat} : Zs P (i+1)=Zs P i+if P (i+1)=true then 0 else 1:=by
 unfold Zs
 rw [Mw,Na,Ap]
 congr 1
 cases h:P (i+1) with
 | true=>rw [Af rfl,Pv,Ad (by rw [h];simp)];rfl
 | false=>rw [Ad (by simp),Pv,Af (by rw [h];rfl)];rfl
theorem Bn6{S:GTree}{P:Nat->Bool} : ∀ {i:Nat},i<=S.vers.length->(∀ v,1<=v->v<=S.vers.length->S.isG v=false)->S.newG P i+Zs P i=i/\(Je (S.mark P) i).length=Zs P i
 | 0,_,_=>⟨rfl,rfl⟩
 | i+1,hi,h=>by
  obtain ⟨a,b⟩:=Bn6 (i:=i) (by omega) h
  have hg:=h (i+1) (by omega) hi
  rw [GTree.newG_succ,Bq8,TI,Ap,b,GTree.mark_is (by omega) hi,hg]
  cases hp:P (i+1) with
  | true=>simp;omega
  | false=>simp;omega
section
variable {hp:Tr DObj} {nx T H:Nat} {nd:DV} {S:GTree} (k:Nat) (K:DV->Tr DObj->Nat->Prop)
end
end Go.DD

/- Plain: the branch of VersionFull. Conditions: those that each theorem states. -/
namespace Go.DD
open Go Go.Proofs Go.Sort
def Qd(n:Int):PCell:=⟨[0,0],[Iv n]⟩
theorem mw:V2 (bs [])=true:=Ji _
theorem Cs9{n:Int}(h0:0<=n)(h1:n<=1000):Jh (Ej 5).dims (Ej 5).attrs [Qd n]=0:=by
 have hr:fR (Iv n)=true:=by
  unfold fR Iv
  rw [Ad (by show ¬ (2:Int)=0;decide),Ad (by show ¬ (2:Int)=1;decide),Af rfl]
  simp only [mw,Bool.true_and,Bo,Km]
  exact ⟨by decide,by decide,by omega,by omega,by simp⟩
 have hf:Nk [Iv n] (Ej 5).attrs=true:=by
  show (if Tz (Iv n) 2=false then false else true)=true
  have:Tz (Iv n) 2=true:=by
   unfold Tz
   rw [hr]
   rfl
  rw [this];rfl
 have hc:Kt (Ej 5).dims (Ej 5).attrs (Qd n)=0:=by
  unfold Kt
  rw [Ad (by show ¬ ((2:Nat)≠2\/(1≠0/\1≠1));decide),Ad (by show ¬ gC (Ej 5).dims [0,0]=false;decide),Ad (by show ¬ Nk [Iv n] (Ej 5).attrs=false;rw [hf];decide)]
 show (if Kt (Ej 5).dims (Ej 5).attrs (Qd n)≠0 then Kt (Ej 5).dims (Ej 5).attrs (Qd n) else 0)=0
 rw [hc];rfl
theorem Ct0:Mo (Ej 5)=0:=by decide +kernel
theorem Ct1:AOK (Ej 5):=by
 refine ⟨by decide,by decide,by decide,λc hc=>?_⟩
 simp only [Ej,Aq,Ci,or_false] at hc
 rcases hc with rfl | rfl | rfl | rfl <;> exact ⟨by decide,by decide,λv hv=>by
  simp only [Am] at hv
  subst hv
  show (_:Nat)<900000
  decide⟩
def B4(c:List PCell)(w:Int):Prop:=∀ e∈c,e.pos=[0,0]->e.vals=[Iv w]
theorem mf:B4 (Ej 5).cells 5:=by
 intro e he hp
 simp only [Ej,Aq,Ci,or_false] at he
 rcases he with rfl | rfl | rfl | rfl
 .rfl
 .cases hp
 .cases hp
 .cases hp
theorem B35{n w:Int}{A:List PCell}{r:PArr}{e:Int}(hc:Mo ⟨(Ej 5).dims,(Ej 5).attrs,A⟩=0)(h0:0<=n)(h1:n<=1000)(hw:B4 A w)(fK:n≠w)(h:uN ⟨(Ej 5).dims,(Ej 5).attrs,A⟩ [Qd n] e r):e=0/\r.cells.length<=A.length+1/\B4 r.cells n/\r.cells≠A:=by
 have hz:=Cs9 h0 h1
 rcases h with ⟨a1,_⟩ | ⟨_,a2,_⟩ | ⟨_,_,a3,_⟩ | ⟨_,_,_,a4,m,hm,hs,rfl⟩
 .exact absurd hc a1
 .exact absurd hz a2
 .exact absurd (by simp) a3
 .obtain rfl:m=[Qd n]:=List.perm_singleton.1 hm
  have hsA:Ly A:=(iK hc).1
  have hl:=W1 [Qd n] A
  have key:B4 (Po [Qd n] A) n:=λe he hp=>by
   rcases (TS hs hsA e).1 he with ⟨_,h2⟩ | ⟨h2,_⟩
   .exact absurd hp.symm (h2 (Qd n) (by simp))
   .rw [Am.1 h2];rfl
  refine ⟨a4,by show (Po [Qd n] A).length<=_;rw [Bf] at hl;omega,key,λheq=>?_⟩
  have cO:Qd n∈Po [Qd n] A:=(TS hs hsA _).2 (.inr ⟨by simp,by simp [Qd]⟩)
  have jh:Po [Qd n] A=A:=heq
  rw [jh] at cO
  have:=hw _ cO rfl
  have h3:Iv n=Iv w:=by simpa [Qd] using this
  have h4:n=w:=Mq PVal.n h3
  exact fK h4
end Go.DD

/- The code of functions with more than one outcome: printed by a program out of the translation. -/
namespace Go.DD
noncomputable section
open Pa
instance LU : Coe Pa EO := ⟨EO.t⟩
open Go
set_option maxRecDepth 100000
def Ck9:CE:=(cS (cT [(sM "." "$"),(sM "+" ")"),(sX "1" (Dp "+")),(sX "4" (Av .lss "." "1"))] (cC "4" (cE .normal) (cE (.exit 0)))) (cS (cB 1 (cT [(sM "6" o),(sM "7" ")"),(sM "8" "$"),(sX "0" (Gf 1 "7" "8")),(sX "<" (Cj none "0")),(sM ":" o.l),(Bj 28 ["6","<",":"] "5"),(sX
 ";" (Av .neq "5" (0:Int)))] (cC ";" (cT [(sM "!" false)] (cE .ret)) (cE .normal)))) (cN (sL [(sM "2" "$"),(sX "3" (Av .add "2" (1:Int))),(sM "$" "3")]))))
def xq:WE:=(wS (wD (cN (sL [(sM "!" false)]))) (wS (wD (cN (sL [(sU "," (Bd (.bsl 9 7 1 [.string (bs [])] [(0,1,.const (.string (bs [97]))),(1,1,.const (.string (bs [98]))),(2,1,.const (.string (bs [99]))),(3,1,.const (.string (bs [100]))),(4,1,.const (.string (bs [101]))),(5,1,.const (.string (bs [102]))),(6,1,.const (.string (bs [103])))]))),(sM ")" ",")]))) (wS (wD
 (cT [(sM "$" (0:Int))] (cB 0 (cL 1000000 Ck9)))) (wS (wD (cT [(sM "9" o),(sM "=" o.l),(Bj 28 ["9",(.c (.v (.string (bs [104])))),"="] "?"),(sX "@" (Av .neq "?" (18:Int))),(sM "A" "@"),(sG "A" false "B" (sM "B" o)),(sG "A" false "C" (sM "C" o.l)),(sG "A" false
 "D" (Bj 28 ["B",(.c (.v (.string (bs [97])))),"C"] "D")),(sG "A" false "F" (sX "F" (Av .neq "D" (5:Int)))),(sX "G" (Co "A" true "F")),(sM "I" "G"),(sG "I" false "O" (sM "O" o)),(sG "I" false "P" (Bj 101 ["O",(.c
 (.v (.string (bs [103]))))] "P")),(sG "I" false "E" (sX "E" (Av .neq "P" (0:Int)))),(sX "H" (Co "I" true "E")),(sM "J" "H"),(sG "J" false "L" (sM "L" o)),(sG "J" false "K" (Bj 28 ["L",(.c (.v (.string (bs [104])))),(.c (.v (.int .i64
 50)))] "K")),(sG "J" false "N" (sX "N" (Av .neq "K" (0:Int)))),(sX "Q" (Co "J" true "N"))] (cC "Q" (cT [(sM "!" false)] (cE .ret)) (cE .normal)))) (wS (wN (rS (sM "R" o) (rS (sU "T" (Bd (.bsl 3 1 1 [.int .i64 0] [(0,1,.const (.int .i64 7))]))) (rW 36 ["R","T"]
 "S" (rS (sM "M" "S") (rS (sX "Y" (Ga "M" 0)) (rS (sX "W" (Ga "M" 1)) (rS (sM "(" "Y") (rS (sM "%" "W") rE))))))))) (wD (cT [(sM "_" o),(sM "U" o.l),(Bj 40 [(1:Int)] "^"),(Bj 39 [(0:Int),(0:Int),"^"] "b"),(Bj 29 ["_",(.c
 (.v (.string (bs [109,97,105,110])))),"U","b"] "e"),(sM "X" "e"),(sX "Z" (Ga "X" 0)),(sX "V" (Ga "X" 1)),(sM "&" "Z"),(sM "*" "V")] (cT [(sM "f" "("),(sX "c" (Av .eql "f" (97:Int))),(sM "[" "c"),(sG "[" true "d" (sM "d"
 "%")),(sG "[" true "a" (sX "a" (Av .eql "d" (0:Int)))),(sX "g" (Co "[" "a" false)),(sM "]" "g"),(sG "]" true "h" (sM "h" "&")),(sG "]" true "n" (sM "n" o.l)),(sG "]" true "j" (sX "j"
 (Av .add "n" (1:Int)))),(sG "]" true "m" (sX "m" (Av .eql "h" "j"))),(sX "s" (Co "]" "m" false)),(sM "o" "s"),(sG "o" true "k" (sM "k" "*")),(sG "o" true "p" (sX "p" (Av .eql "k"
 (0:Int)))),(sX "z" (Co "o" "p" false)),(sM "l" "z"),(sG "l" true "w" (sM "w" o)),(sG "l" true "v" (Bj 37 ["w"] "v")),(sG "l" true "x" (sX "x" (Dp "v"))),(sG "l" true "y" (sX "y"
 (Av .eql "x" (4:Int)))),(sX "r" (Co "l" "y" false)),(sM "!" "r")] (cE .ret)))))))))
end
end Go.DD

/- The printed code is the program's. -/
namespace Go.DD
open Go Go.Proofs
set_option maxRecDepth 100000
theorem VN:Tryz.prog.funcs[41]?=some Tryz.f41:=by kernel_rfl
theorem VJ:Uj Tryz.prog 41=true:=by kernel_rfl
noncomputable def d41:DF:=(Yo Tryz.prog Tryz.f41).getD default
theorem VF:Yo Tryz.prog Tryz.f41=some d41:=by kernel_rfl
theorem UX:d41.res=[(4,none)]:=by kernel_rfl
theorem VB:d41.nt=82:=by kernel_rfl
theorem C33:(λwc call=>Ip wc (λf=>Nat.beq f 36) call false 1000000 d41.nt d41.code)=xq:=by kernel_rfl
end Go.DD

/- Contracts: a full tree, its branches, what is reclaimed of it. Conditions: those that each theorem states. -/
namespace Go.DD
open Go Go.Proofs Go.Sort
def rNm:Rep ByteArray:=Zw 1 9 (λs=>[sv s]) (by decide) (λ_=>rfl) λx c h=>by
 obtain rfl:=Am.1 h
 exact iO x
theorem C34{hp:Tr DObj}{p:Nat->Prop}{d:DV}{l:List ByteArray}(h:RL rNm hp p d l){i:Nat}(hi:i<l.length):Gl hp none (Ca 1 d i)=some (sv l[i])/\Rr hp 1 d (.v (.int .i64 (i:Int)))=some (Ca 1 d i):=by
 obtain ⟨ds,hr,_,h0,_⟩:=h.at hi
 have eA:ds=[sv l[i]]:=hr
 subst eA
 exact ⟨h0 _ rfl,h.ia hi⟩
def nmL:List ByteArray:=[bs [97],bs [98],bs [99],bs [100],bs [101],bs [102],bs [103]]
def jD(i:Nat):List (ByteArray×Int):=(nmL.take i).foldl (λhs b=>Ny hs b ((100:Nat):Int)) [(Nq,((100:Nat):Int))]
theorem Ca9{i:Nat}(h:i<nmL.length):jD (i+1)=Ny (jD i) nmL[i] ((100:Nat):Int):=by
 unfold jD
 rw [Fy h,List.foldl_append];rfl
theorem Cb0:∀ i:Fin 7,Iy (jD i) nmL[i]=none/\Kx nmL[i]=true/\(jD i).length<8:=by decide +kernel
def hd8:List (ByteArray×Int):=Zl (jD 7) (bs [103])
def hd9:List (ByteArray×Int):=Ny hd8 (bs [104]) ((50:Nat):Int)
theorem jm:Iy (jD 7) (bs [104])=none/\Kx (bs [104])=true/\8<=(jD 7).length/\Iy (jD 7) (bs [97])=some ((100:Nat):Int)/\Kx (bs [97])=true/\Iy (jD 7) (bs [103])=some ((100:Nat):Int)/\(jD 7).length≠1/\Iy hd8 (bs [104])=none/\hd8.length<8:=by decide +kernel
theorem hd_g:Iy hd9 Nq=some ((100:Nat):Int)/\hd9.length<=100/\(∀ y∈[(7:Int)]++hd9.map (λx=>x.2),y.toNat=7\/y.toNat=50\/y.toNat=100)/\(7:Int)∈[(7:Int)]++hd9.map (λx=>x.2)/\(50:Int)∈[(7:Int)]++hd9.map (λx=>x.2)/\(100:Int)∈[(7:Int)]++hd9.map (λx=>x.2):=by decide +kernel
def GTree.setH(S:GTree)(hs:List (ByteArray×Int)):GTree:={ S with heads:=hs }
theorem GTree.setH_is{S:GTree}{hs:List (ByteArray×Int)}{v:Nat} : (S.setH hs).isG v=S.isG v/\(S.setH hs).parG v=S.parG v/\(S.setH hs).at' v=S.at' v:=by
 cases v <;> exact ⟨rfl,rfl,rfl⟩
theorem GTree.setH_base{S:GTree}{hs:List (ByteArray×Int)}{v w:Nat} : (S.setH hs).baseG v w=S.baseG v w:=by
 have key:∀ (i:Nat) (o:List Bool),(S.setH hs).ancF i o=S.ancF i o:=by
  intro i
  induction i with
  | zero=>exact λ_=>rfl
  | succ i ih=>
   intro o
   show (S.setH hs).ancF i (if o[i+1]?=some true then Oi o ((S.setH hs).parG (i+1)) else o)=S.ancF i (if o[i+1]?=some true then Oi o (S.parG (i+1)) else o)
   rw [ih,GTree.setH_is.2.1]
 have ka:∀ v,(S.setH hs).anc v=S.anc v:=λv=>key _ _
 unfold GTree.baseG
 rw [ka,ka]
theorem GTree.setH_okb{S:GTree}{hs:List (ByteArray×Int)}(h:S.OKB):(S.setH hs).OKB:=⟨λv h1 h2=>by
 rw [GTree.setH_is.2.1]
 exact h.r v h1 h2,λv w h1 h2 h3 h4 g1 g2=>by
 rw [GTree.setH_is.1] at g1 g2
 rw [GTree.setH_base,GTree.setH_is.1]
 exact h.b v w h1 h2 h3 h4 g1 g2⟩
section
variable {x:PArr} {cs:List (List PCell)} {T H:Nat} {nd:DV}
theorem Cb1{hs:List (ByteArray×Int)}{ms:List Nat}(hS:(Dg x cs).OK)(hh:hs=hd9)(h:RecM ((Dg x cs).setH hs) ([(7:Int)]++hs.map λx=>x.2) ms)(v:Nat):v∈ms↔v=7\/v=50\/v=100:=by
 subst hh
 obtain ⟨_,_,g1,g2,g3,g4⟩:=hd_g
 constructor
 .intro hv
  refine h.mn (λv=>v=7\/v=50\/v=100) ⟨g1,λa b ha hb pa pb=>?_⟩ v hv
  have a2:a<=(Dg x cs).vers.length:=ha.2.1
  have b2:b<=(Dg x cs).vers.length:=hb.2.1
  rw [foldT_len] at a2 b2
  rw [GTree.setH_base,A29 hS ha.1 a2 hb.1 b2]
  rcases Nat.le_total a b with mI | mI
  .rw [Nat.min_eq_left mI];exact pa
  .rw [Nat.min_eq_right mI];exact pb
 .rintro (rfl | rfl | rfl)
  .exact h.it _ g2
  .exact h.it _ g3
  .exact h.it _ g4
theorem Cb2{S:GTree}{ms:List Nat}(hm:∀ v,v∈ms↔v=7\/v=50\/v=100)(hg:∀ v,1<=v->v<=100->S.isG v=false):S.newG (Pw ms) 100=97:=by
 have e:S.newG (Pw ms) 100=((List.range 100).filter λj=>!(j+1==7||(j+1==50||j+1==100))).length:=by
  unfold GTree.newG
  congr 1
  refine List.filter_congr λj hj=>?_
  have Tx:=aS.1 hj
  rw [hg (j+1) (by omega) (by omega),Bool.not_false,Bool.and_true]
  unfold Pw
  congr 1
  rw [Yr,Ke,hm]
  simp
 rw [e];decide
theorem Bg2{S T:GTree}{i:Nat}(h:∀ j,j<i->S.isG (j+1)=T.isG (j+1)):Je S i=Je T i:=by
 unfold Je
 congr 1
 exact List.filter_congr λj hj=>by rw [h j (aS.1 hj)]
theorem mY{c:Oo}{call:Bg}{E:ES}{Q:ES->Prop}(P:ES->Prop)(hP:P E)(h:∀ es,P es->SW c call es Q):SW c call E Q:=h E hP
noncomputable def cwU(k:Nat):Kl:=Qx Tryz.prog 1000000 (qb k) (λf=>Nat.beq f 36) false (kN k)
theorem C35{k:Nat} : B2 Tryz.prog (cwU k):=X2 (R4 (n:=1000000) mixed Vu W5 k) C32 mixed
theorem Ct2{k:Nat}{w:Int}{hp:Tr DObj}{nx:Nat}{K:DV->Tr DObj->Nat->Prop}(hc:cs.length=100)(h:TreeG hp nx T H nd (Dg (Ej 5) cs))(hf:B4 (cs[99]'(by omega)) w)(hw:w≠1)(hl:(cs[99]'(by omega)).length<=200)(hK:∀ Ao Bk,K (bv true) Ao Bk):cwU (k+208) 41 [.pt T 0,iv ((100:Nat):Int)] hp nx K:=by
 refine TQ VN VJ VF UX C33 (Zz VB rfl) λes e1 e2 he=>?_
 have a0:Ae es (.t .o)=.pt T 0:=he 0 _ rfl
 have a1:Ae es (.t (.l .o))=iv ((100:Nat):Int):=he 1 _ rfl
 subst e1 e2
 have Pq:=h.ok
 have S9:(Dg (Ej 5) cs).vers.length=100:=foldT_len.trans hc
 have PO:=h.th
 have kM:=h.nr
 unfold xq
 rw [Qf,Qn]
 simp only [↓Zj,↓Cn,↓Fb,↓Dy,↓Wb,xw_some,Mg,Px,↓Mi,↓Qf,↓Qn]
 refine Vt (fl:=nmL.map sv) rfl (by simp only [Ag,Ak];rfl) λEi Dm Cv=>?_
 simp only [Uv,nx_put,Bx] at Dm Cv
 have cY:Al es.hp es.nx Ei (es.nx+1):=⟨by omega,λj hj=>Cv j (by omega)⟩
 have Ig:∀ {Ao:Tr DObj},Ao.get es.nx=some (.row 9 (nmL.map sv))->RL rNm Ao (λj=>j=es.nx) (.ms es.nx 0 7 1) nmL:=λ{Ao} hg=>by
  have:=(OL.ms (R:=rNm) (p:=λ_=>False) es.nx (nmL.map sv) nmL hg (by show Rows rNm Ao _ (nmL.flatMap rNm.cells) nmL;exact Rows.pure ..)).rl
  exact this.mono λj hj=>hj.elim False.elim λh=>by simpa [DV.refs] using h
 simp only [↓uE,↓Cn,↓Fb,↓Jv,↓Dy,↓Wb,xw_some,Mg,Gk,Px,Dl,nx_put,Is,↓UN,↓Qf,↓Qn]
 refine EW.up 7 (λi An=>An.nx=es.nx+1/\An.hp.get es.nx=some (.row 9 (nmL.map sv))/\TreeG An.hp (es.nx+1) T H nd ((Dg (Ej 5) cs).setH (jD i))/\Ae An (.t .o)=.pt T 0/\Ae An (.t (.l .o))=iv ((100:Nat):Int)/\Ae An (.t (.l (.r .o)))=.ms es.nx 0 7 1/\Ae An (.t (.r (.r .o)))=iv (i:Nat)) ?_ ⟨rfl,Dm,?_,by simp only [Hx,Dl,Bx,reduceCtorEq,Ah,a0],by simp only [Hx,Dl,Bx,reduceCtorEq,Ah,Pa.l.injEq,a1],by simp only [Gk,Hx,Dl,Bx,reduceCtorEq,Ah],by simp only [Gk,Dl];rfl⟩ (by omega)
 rotate_left
 .have e:(Dg (Ej 5) cs).setH (jD 0)=Dg (Ej 5) cs:=GTree.vers_ext rfl rfl (by show [(Nq,((100:Nat):Int))]=[(Nq,(cs.length:Int))];rw [hc]) rfl
  rw [e]
  exact h.keep cY
 rintro i An hi ⟨n1,gR,ht,b0,b1,b5,b6⟩
 unfold Ck9
 have HT:=Ig gR
 by_cases QC:i<7
 .have cO:i<nmL.length:=QC
  obtain ⟨ldn,ian⟩:=C34 HT cO
  obtain ⟨f1,f2,f3⟩:=Cb0 ⟨i,QC⟩
  have mo:Iy (jD i) nmL[i]=none:=f1
  have IW:Qo An.hp (.ms es.nx 0 7 1)=some (iv ((7:Nat):Int)):=HT.len
  simp only [↓ew_s,↓Kb,↓Jg,↓uE,↓Cn,↓Fb,↓Jv,↓Dy,↓Ij,↓Wb,xw_some,qE,Mg,Zp,D4,aW,Ag,Ak,Gk,Hx,Uv,nx_put,Jn,Bx,reduceCtorEq,Ah,Ql,Pa.l.injEq,Pa.r.injEq,↓Xb,jN,Int.ofNat_lt,b0,b1,b5,b6,IW,QC,ldn,ian,n1]
  refine Fl (Bc3 (k+205) _ nmL[i] 100 ht f2 mo ⟨by decide,by show 100<=(Dg (Ej 5) cs).vers.length;omega⟩ (by rw [GTree.setH_is.1];exact NK (by decide) (by omega)) f3 λDb Et Yt=>?_)
  simp only [Fx,↓Zj,↓Kb,↓Jg,↓Cn,↓Fb,↓Dy,↓Ij,↓Wb,↓fA,xw_some,Ry,Mg,Gk,Hx,Px,Dl,Is,Jn,Bx,reduceCtorEq,Ah,Ff,and_true,true_and,and_self,Hn,Pa.l.injEq,Pa.r.injEq,rR,b0,b1,b5,b6,show decide (¬ (0:Int)=0)=false from rfl,Jx (show i<_ by omega)]
  refine ⟨QC,?_,?_⟩
  .rw [Et es.nx (by omega)];exact gR
  .rw [Ca9 cO]
   exact Yt
 .have hi8:i=7:=by omega
  subst hi8
  obtain ⟨q1,q2,q3,q4,q5,q6,q7,q8,q9⟩:=jm
  have IW:Qo An.hp (.ms es.nx 0 7 1)=some (iv ((7:Nat):Int)):=HT.len
  simp only [↓ew_s,↓Kb,↓Jg,↓Cn,↓Fb,↓Jv,↓Dy,↓Ij,↓Wb,↓RX,↓jM,xw_some,Ry,Mg,Zp,Ag,Ak,Gk,Hx,Px,Uv,nx_put,Jn,Bx,reduceCtorEq,Ah,Pa.l.injEq,Pa.r.injEq,↓Xb,jN,Int.ofNat_lt,b0,b1,b5,b6,IW,show decide ((7:Nat)<7)=false from rfl,↓Qf,↓Qn]
  rw [<- n1] at ht
  have hr1:1<=100/\100<=(Dg (Ej 5) cs).vers.length:=⟨by decide,by omega⟩
  have J5:1<=50/\50<=(Dg (Ej 5) cs).vers.length:=⟨by decide,by omega⟩
  have S5:∀ {hs:List (ByteArray×Int)} {v:Nat},1<=v->v<=100->((Dg (Ej 5) cs).setH hs).isG v=false:=λh1 h2=>by
   rw [GTree.setH_is.1];exact NK h1 (by omega)
  refine Fl (Bq5 (k+205) _ (bs [104]) 100 ht q2 q1 hr1 (S5 (by decide) (by decide)) q3 ?_)
  simp only [Fx,↓Cn,↓Dy,↓Ij,↓Oh,Yj,xw_some,Mg,Ag,Ak,Gk,Hx,Px,Dl,Is,Jn,Bx,reduceCtorEq,Ah,Ff,Hn,Pa.l.injEq,Pa.r.injEq,↓Xb,rR,b0,b1,show decide (¬ (18:Int)=18)=false from rfl]
  refine Fl (Bq4 (k+205) _ (bs [97]) _ _ ht q5 q4 ?_)
  simp only [Fx,↓Cn,↓Dy,↓Ij,↓Oh,Yj,xw_some,Mg,Ag,Ak,Gk,Hx,Px,Dl,Is,Jn,lO,mO,Bx,reduceCtorEq,Ah,Ff,Eh,Ib,Hn,Pa.r.injEq,↓Xb,rR,b0,show decide (¬ (5:Int)=5)=false from rfl]
  refine Fl (Cr8 (k+206) _ (bs [103]) _ ht q6 q7 λDb Et Yt=>?_)
  have cn:TreeG Db An.nx T H nd ((Dg (Ej 5) cs).setH hd8):=Yt
  simp only [Fx,↓Cn,↓Dy,↓Ij,↓Oh,Yj,xw_some,Mg,Ag,Ak,Gk,Hx,Px,Dl,Is,Jn,lO,mO,Bx,reduceCtorEq,Ah,Ff,Eh,Ib,Hn,Pa.r.injEq,↓Xb,rR,b0,show decide (¬ (0:Int)=0)=false from rfl]
  refine Fl (Bc3 (k+205) _ (bs [104]) 50 cn q2 q8 J5 (S5 (by decide) (by decide)) q9 λGr Iz cj=>?_)
  have yG:TreeG Gr An.nx T H nd ((Dg (Ej 5) cs).setH hd9):=cj
  simp only [Fx,↓Kb,↓Jg,↓Cn,↓Fb,↓Dy,↓Ij,↓Oh,Yj,↓Wb,xw_some,Ry,Mg,Gk,Hx,Px,Dl,Is,Jn,lO,mO,Bx,reduceCtorEq,Ah,Ff,Eh,Ib,Hn,Pa.l.injEq,↓Mi,rR,b0,n1,show decide (¬ (0:Int)=0)=false from rfl,↓Qf,↓qW,↓Nx]
  rw [n1] at yG
  refine Vt (fl:=[iv 7]) rfl (by simp only [Ag,Ak];rfl) λGz Mf Fp=>?_
  simp only [Bx] at Mf Fp
  have mM:Al Gr (es.nx+1) Gz (es.nx+1+1):=⟨by omega,λj hj=>Fp j (by omega)⟩
  have yF:=yG.keep mM
  have aQf:=yF.ok
  have vU:RL rInt Gz (Bl (es.nx+1+1)) (.ms (es.nx+1) 0 1 1) [7]:=qR (R:=rInt) (l:=[7]) Mf (by omega)
  have lz4:=vU.live
  simp only [↓Cn,↓Jv,↓Dy,xw_some,Mg,Ag,Ak,Hx,Px,Uv,nx_put,Is,Bx,reduceCtorEq,Ah,Pa.l.injEq,↓Xb,p4,↓Qn]
  refine sI ?_
  simp only [Ag,Ak,Gk,Hx,Dl,Is,Bx,reduceCtorEq,Ah]
  refine Bq7 (k:=k) yF (GTree.setH_okb (B34 Pq)) vU (by decide) hd_g.2.1 (λy hy=>?_) (λHp Jp fQ If=>?_) λHp Jp ms Su aRe gM cg=>?_
  .rw [Am.1 hy]
   exact ⟨by decide,by show (7:Int)<=((Dg (Ej 5) cs).vers.length:Nat);omega⟩
  .obtain ⟨y,hy,be⟩:=If
   rw [Am.1 hy] at be
   have:=S5 (hs:=hd9) (v:=7) (by decide) (by decide)
   rw [show ((7:Int)).toNat=7 from rfl,this] at be
   cases be
  have Lr:=Cb1 Pq rfl gM
  have HG:((Dg (Ej 5) cs).setH hd9).vers.length=100:=S9
  have Kk:=Cb2 (S:=(Dg (Ej 5) cs).setH hd9) Lr λv h1 h2=>S5 h1 h2
  obtain ⟨ct,yN⟩:=Bn6 (S:=(Dg (Ej 5) cs).setH hd9) (P:=Pw ms) (i:=100) (by omega) λv h1 h2=>S5 h1 (by omega)
  rw [HG,Kk]
  rw [Kk] at ct
  have Wr:(((Dg (Ej 5) cs).setH hd9).mark (Pw ms)).vers.length=100:=GTree.mark_len.trans HG
  have K1:(((Dg (Ej 5) cs).setH hd9).mark (Pw ms)).at' 100=cs[99]'(by omega):=GTree.mark_at.1.trans ((GTree.setH_is).2.2.trans (R0 (by omega)).1)
  have fc:(((Dg (Ej 5) cs).setH hd9).mark (Pw ms)).isG 100=false:=by
   rw [GTree.mark_is (by decide) (by omega),S5 (by decide) (by decide),Gp]
   unfold Pw
   rw [Bool.not_eq_false',Ke,Lr]
   exact .inr (.inr rfl)
  have z0:∀ {u v:Int} {Ao:Tr DObj},Fv Ao (.tup [iv u,iv v]) 0=some (iv u):=rfl
  have z1:∀ {u v:Int} {Ao:Tr DObj},Fv Ao (.tup [iv u,iv v]) 1=some (iv v):=rfl
  simp only [↓Dy,↓Ij,↓Wb,xw_some,Mg,Gk,Hx,Dl,Is,Bx,reduceCtorEq,Ah,Pa.l.injEq,Pa.r.injEq,Yz,z0,z1,↓Nx,↓Tl]
  refine Fl (Ck4 (k+207) _ _ _ 1 λJf Yu Py=>?_)
  have aPq:=cg.th
  have ee:=cg.nr
  have BX:RL rVal Jf (λj=>j=Jp) (.ms Jp 0 1 4) [Iv 1]:=(OL.ms (R:=rVal) (p:=λ_=>False) Jp (vc (Iv 1)) [Iv 1] Yu (by show Rows rVal Jf _ ([Iv 1].flatMap rVal.cells) [Iv 1];exact Rows.pure ..)).rl.mono λj hj=>hj.elim False.elim λh=>by simpa [DV.refs] using h
  simp only [↓Cn,Ag,Ak,Gk,Hx,Px,Dl,Is,Bx,reduceCtorEq,Ah,Pa.l.injEq,↓Xb,b0,b1]
  refine Fl (xW (k+207) _ _ _ 0 0 _ _ (λj=>j=Jp) (λj hj=>by omega) BX λNz G7 zc MN jq=>?_)
  have eD:=MN.le
  have PS:=(cg.keep (Ao:=Jf) (Bk:=Jp+1) ⟨by omega,λj hj=>Py j (by omega)⟩).keep MN
  have N1:Mo ⟨(Ej 5).dims,(Ej 5).attrs,cs[99]'(by omega)⟩=0:=by
   have:=(Pq.chk 100).1
   rwa [(R0 (x:=Ej 5) (cs:=cs) (i:=99) (by omega)).1] at this
  have KM:∀ {e:Int} {r:PArr},uN ⟨(((Dg (Ej 5) cs).setH hd9).mark (Pw ms)).dims,(((Dg (Ej 5) cs).setH hd9).mark (Pw ms)).attrs,(((Dg (Ej 5) cs).setH hd9).mark (Pw ms)).at' 100⟩ [Qd 1] e r->e=0/\r.cells.length<=(cs[99]'(by omega)).length+1/\B4 r.cells 1/\r.cells≠cs[99]'(by omega):=λh=>by
   rw [K1] at h
   exact B35 N1 (by decide) (by decide) hf (Ek hw) h
  simp only [↓Cn,Ag,Ak,Gk,Hx,Px,Dl,Is,Bx,reduceCtorEq,Ah,Pa.l.injEq,Pa.r.injEq,↓Xb,b0,b1]
  refine Fl (Bc4 (k+87) _ 100 Nq 100 zc [Qd 1] PS hd_g.1 ⟨by decide,by omega⟩ (jq.mono λj hj=>?_) ⟨by rw [K1,Bf];omega,by rw [Bf];exact Bp (by decide) B03⟩ (λc hc=>?_) (by omega) fc (by omega) ?_ ?_ ?_ ?_)
  .refine ⟨by rcases hj with hj | hj <;> omega,by rcases hj with hj | hj <;> omega,by rcases hj with hj | hj <;> omega,λhh=>?_⟩
   have:=(ee j hh).1
   rcases hj with hj | hj <;> omega
  .rw [Am.1 hc]
   exact ⟨by decide,by decide,λv hv=>by rw [Am.1 hv];show (_:Nat)<900000;decide⟩
  .intro Ao Bk e r mH JX al
   exact absurd (KM mH).1 JX
  .intro Ao Bk r mH mB al
   obtain ⟨_,_,_,Ha⟩:=KM mH
   unfold Tn at mB
   have:=(Fe mB).2.2
   exact absurd (K1.symm.trans (Mq PArr.cells this)).symm Ha
  .intro Ao Bk r mH mB U3 al
   rw [Wr,yN] at U3
   omega
  .intro Ol Wq nd8 rM U3 mH mB Ye jy mg ei I7
   have Zf:=mg.le
   rw [Wr,show iv ((100+1:Nat):Int)=iv 101 from rfl]
   dsimp only [Hold.val]
   refine mY (λe9=>e9.hp=Ol/\e9.nx=Wq/\Ae e9 (.t .o)=.pt T 0/\Ae e9 (.t (.l .o))=iv 100/\Ae e9 (.t (.l (.l (.l .o))))=iv 97/\Ae e9 (.t (.r (.l (.l .o))))=iv 0/\Ae e9 (.t (.l (.r (.l (.r (.r .o))))))=.tup [iv 101,iv 0]) ?_ ?_
   .exact ⟨rfl,rfl,by simp only [Hx,Dl,Is,Bx,reduceCtorEq,Ah,Pa.l.injEq,b0],by simp only [Hx,Dl,Is,Bx,reduceCtorEq,Ah,Pa.l.injEq,b1];rfl,by simp only [Gk,Hx,Dl,Is,Bx,reduceCtorEq,Ah,Pa.l.injEq];rfl,by simp only [Gk,Hx,Dl,Is,Bx,reduceCtorEq,Ah,Pa.l.injEq,Pa.r.injEq],by simp only [Gk,Hx,Dl,Is,Bx,reduceCtorEq,Ah,Pa.l.injEq]⟩
   rintro e9 ⟨rfl,rfl,c0,c1,c7,c8,c57⟩
   simp only [Fx,↓Cn,↓Fb,↓Jv,↓Dy,↓Ij,↓Oh,Yi,xw_some,Mg,Ag,Ak,Gk,Hx,Px,Uv,nx_put,Jn,lO,mO,Bx,reduceCtorEq,Ah,Ex,Ql,Pa.l.injEq,Pa.r.injEq,↓Xb,Yz,Q1,c0,c1,c7,c8,c57,z0,z1,show Ds .add (iv 100) (iv 1)=some (iv 101) from rfl]
   refine Fl (vx (k+206) _ I7 λIx FA zv fE rv=>?_)
   have lv:=rv.len
   have Rj:((((Dg (Ej 5) cs).setH hd9).mark (Pw ms)).add Nq rM [((100:Nat):Int)]).vers.length=100+1:=by
    rw [show ((((Dg (Ej 5) cs).setH hd9).mark (Pw ms)).add Nq rM [((100:Nat):Int)]).vers.length=(((Dg (Ej 5) cs).setH hd9).mark (Pw ms)).vers.length+1 from Ap,Wr]
   have h4:(Je ((((Dg (Ej 5) cs).setH hd9).mark (Pw ms)).add Nq rM [((100:Nat):Int)]) (100+1)).length=4:=by
    have hn:=(GTree.at_new (S:=((Dg (Ej 5) cs).setH hd9).mark (Pw ms)) (b:=Nq) (c:=rM) (ps:=[((100:Nat):Int)])).2.2
    rw [Wr] at hn
    rw [TI,hn,Ad (by simp),Ap,Bg2 (T:=((Dg (Ej 5) cs).setH hd9).mark (Pw ms)) λj hj=>(GTree.at_add (by omega)).2.2,yN]
    show Zs _ _+1=4
    omega
   rw [Rj,h4] at lv
   simp only [Fx,↓Kb,↓Cn,↓Fb,↓Dy,↓Ij,↓Oh,Yi,xw_some,Mg,Zp,Gk,Hx,Px,Dl,Is,Jn,lO,Ns,mO,Bx,reduceCtorEq,Ah,true_and,or_true,Ex,Pa.l.injEq,Pa.r.injEq,p4,Q1,lv]
   exact hK _ _
end
end Go.DD

/- The code of functions with more than one outcome: printed by a program out of the translation. -/
namespace Go.DD
noncomputable section
open Pa
instance LS : Coe Pa EO := ⟨EO.t⟩
open Go
set_option maxRecDepth 100000
def Cl0:WE:=(wS (wD (cT [(sM "8" "$"),(sM "0" ")"),(sX "<" (Av .leq "8" "0"))] (cC "<" (cE .normal) (cE (.exit 0))))) (wS (wB 1 (wS (wD (cN (sL [(sM "9" ">"),(sM "=" "$"),(sM "?" "$"),(sX "@" (Av .add (100:Int) "?")),(Bj 40 ["@"] "A"),(Bj 39 [(0:Int),(.c (.v (.int .i64
 0))),"A"] "B"),(Bj 29 ["9",(.c (.v (.string (bs [109,97,105,110])))),"=","B"] "C"),(sM ";" "C"),(sX "D" (Ga ";" 0)),(sX "F" (Ga ";" 1)),(sM "(" "D"),(sM "%" "F")]))) (wS (wS (wD (cN (sL [(sM "G" "$"),(sX "I" (Av .geq "G" (100:Int)))]))) (wC "I"
 (wS (wN (rS (sM "O" "(") (rS (sX "P" (Av .eql "O" (0:Int))) (rS (sM "E" "P") (rS (sG "E" true "H" (sM "H" "%")) (rS (sG "E" true "J" (sX "J" (Av .eql "H" (18:Int)))) (rS (sX "L" (Co "E" "J" false)) (rS (sM "K"
 "L") (rS (sG "K" true "N" (sM "N" ">")) (rS (sG "K" true "Q" (sM "Q" "$")) (YB "K" true 41 ["N","Q"] "M" (rS (sX "R" (Co "K" "M" false)) (rS (sM "T" "R") (rS (sG "T" true "S" (Bj 15 [] "S")) (rS (sX "Y" (Co "T"
 "S" false)) (rS (sM o.r "Y") rE)))))))))))))))) (wD (cE .ret))) (wD (cE .normal)))) (wD (cT [(sM "W" "%"),(sX "X" (Av .neq "W" (0:Int))),(sM "_" "X"),(sG "_" false "U" (sM "U" "(")),(sG "_" false "^" (sM "^" "$")),(sG "_" false "b" (sX
 "b" (Av .add "^" (1:Int)))),(sG "_" false "e" (sX "e" (Av .neq "U" "b"))),(sX "Z" (Co "_" true "e"))] (cC "Z" (cT [(sM o.r false)] (cE .ret)) (cE .normal))))))) (wD (cN (sL [(sM ":" "$"),(sX "5" (Av .add ":" (1:Int))),(sM
 "$" "5")])))))
def vG:WE:=(wS (wD (cN (sL [(sM o.r false)]))) (wS (wD (cN (sL [(Bj 38 [] "*"),(Bj 27 ["*"] ","),(sM "&" ","),(sX "." (Ga "&" 0)),(sX "+" (Ga "&" 1)),(sM ">" "."),(sM "!" "+")]))) (wS (wD (cT [(sM "1" "!"),(sX "4" (Av .neq "1" (0:Int)))] (cC "4" (cT [(sM o.r false)]
 (cE .ret)) (cE .normal)))) (wS (wD (cN (sL [(sM "2" o),(sX "3" (Av .rem "2" (.c (.v (.int .u8 4))))),(sU "6" (Bd (.cvi .i64 (.tmp 17)))),(sX "7" (Av .add (98:Int) "6")),(sM ")" "7")]))) (wS (wS (wD (cN (sL [(sM "$" (1:Int))]))) (wB 0 (wL Cl0))) (wD (cT [(sM "V" ">"),(Bj 37 ["V"] "f"),(sX
 "c" (Dp "f")),(sM "[" ")"),(sX "d" (Av .add "[" (1:Int))),(sX "a" (Av .eql "c" "d")),(sM "g" "a"),(sG "g" true "]" (Bj 15 [] "]")),(sX "h" (Co "g" "]" false)),(sM o.r "h")] (cE .ret))))))))
end
end Go.DD

/- The printed code is the program's. -/
namespace Go.DD
open Go Go.Proofs
set_option maxRecDepth 100000
theorem VP:Tryz.prog.funcs[10]?=some Tryz.f10:=by kernel_rfl
theorem VL:Uj Tryz.prog 10=true:=by kernel_rfl
noncomputable def d10:DF:=(Yo Tryz.prog Tryz.f10).getD default
theorem VH:Yo Tryz.prog Tryz.f10=some d10:=by kernel_rfl
theorem UZ:d10.res=[(2,none)]:=by kernel_rfl
theorem VD:d10.nt=68:=by kernel_rfl
theorem C36:(λwc call=>Ip wc (λf=>Nat.beq f 41) call false 1000000 d10.nt d10.code)=vG:=by kernel_rfl
end Go.DD

/- Chapter 08: VersionFull returns true: as a contract. Conditions: none. -/
namespace Go.DD
open Go Go.Proofs Go.Sort
theorem A30{S:GTree} : ∀ {i:Nat},(∀ v,1<=v->v<=i->S.isG v=false)->(Je S i).length=i
 | 0,_=>rfl
 | i+1,h=>by
  rw [TI,h (i+1) (by omega) (by omega),Ad (by simp),Ap,A30 λv h1 h2=>h v h1 (by omega)];rfl
theorem Cb3(a:Nat):Known Tryz.prog 10 [.v (.int .u8 (a:Int))] (.v (.bool true)):=by
 refine Known.ofW (R4 (n:=1000000) mixed Vu W5 208) (C35 (k:=208)) mixed (isW:=λf=>Nat.beq f 41) (rg:=false) (n:=1000000) (λx hx=>?_) ?_
 .simp only [Aq,Ps,or_false] at hx
  rcases hx with rfl
  rfl
 refine TQ VP VL VH UZ C36 (Zz VD rfl) λes e1 e2 he=>?_
 have a0:Ae es (.t .o)=.v (.int .u8 (a:Int)):=he 0 _ rfl
 clear e1 e2
 have hQ:∀ {es':ES},Ae es' (.t (.r .o))=bv true->rz es'.hp.get 2 (Cd es'.hp (Ae es' (.t (.r .o))))=some (.v (.bool true)):=λh=>by
  rw [h];rfl
 unfold vG
 rw [Qf,Qn]
 simp only [↓Zj,↓Cn,↓Fb,↓Dy,↓Wb,xw_some,Mg,Ak,Px,Uv,nx_put,↓Xb,↓Qf,↓Qn]
 refine Fl (B17 206 _ _ _ λEi qY d1 cY ar1=>?_)
 have fo:=cY.le
 simp only [↓Cn,Ag,Ak,Gk,Dl,Is,↓Xb]
 refine Fl (C23 196 _ _ _ qY _ (Ej 5) (by omega) ar1 Ct1 (by decide) (λJf Kw hE Sz=>absurd Ct0 hE) λJf Kw T H nd c4 Sz hT hH hN HL=>?_)
 have ht6:TreeG Jf Kw T H nd (Dg (Ej 5) [(Ej 5).cells]):=HL
 clear HL
 have Vj:=Sz.le
 have ic:=ht6.ld
 obtain ⟨_,_,_,hT6,_⟩:=ic
 have z0:Fv Jf (.tup [.pt T 0,iv 0]) 0=some (.pt T 0):=C1 λid hid=>by
  have:id=T:=by simpa [DV.refs,DV.refsL,iv] using hid
  rw [this,hT6];rfl
 have z1:Fv Jf (.tup [.pt T 0,iv 0]) 1=some (iv 0):=rfl
 have HV:Ds .rem (.v (.int .u8 (a:Int))) (.v (.int .u8 4))=some (.v (.int .u8 ((a % 4:Nat):Int))):=Cf6 (b:=4) (by decide)
 have JZ:Wz .i64 (.v (.int .u8 ((a % 4:Nat):Int)))=some (iv ((a % 4:Nat):Int)):=Bw3 (by omega)
 have Wx:Ds .add (.v (.int .i64 98)) (iv ((a % 4:Nat):Int))=some (iv ((98+a % 4:Nat):Int)):=lN (a:=98) (b:=a % 4) (by omega)
 have cU:a % 4<4:=Nat.mod_lt _ (by decide)
 generalize a % 4=q at HV JZ Wx cU
 simp only [Fx,↓Zj,↓Kb,↓Jg,↓Cn,↓Fb,↓Jv,↓Dy,↓Ij,↓Wb,xw_some,Ry,Mg,Ag,Ak,Gk,Hx,Px,Dl,Uv,nx_put,Is,Jn,Ns,Bx,reduceCtorEq,Ah,Ff,Hn,Pa.l.injEq,↓Xb,Yz,↓ua,Cg,p2,EK,rR,a0,z0,z1,show decide (¬ (0:Int)=0)=false from rfl,HV,JZ,Wx,↓Qf,↓Qn,↓mT]
 refine AN (λm An=>∃ cs cF w,m=200-cs.length/\1<=cs.length/\cs.length<=100/\cs.length<=99+q/\TreeG An.hp An.nx T H cF (Dg (Ej 5) cs)/\(∃ c,cs.getLast?=some c/\B4 c w/\c.length<=3+cs.length)/\(w=5\/w=99+cs.length)/\Ae An (.t (.l (.l .o)))=.pt T 0/\Ae An (.t (.l (.r .o)))=iv ((98+q:Nat):Int)/\Ae An (.t (.r (.r .o)))=iv (cs.length:Nat)) 199 ⟨[(Ej 5).cells],nd,5,rfl,by decide,by decide,by show 1<=_;omega,ht6,⟨_,rfl,mf,by decide⟩,.inl rfl,by simp only [Gk,Hx,Dl,Bx,reduceCtorEq,Ah,Pa.l.injEq],by simp only [Gk,Hx,Dl,Bx,reduceCtorEq,Ah],by simp only [Gk,Dl];rfl⟩ ?_
 rintro m An ⟨cs,cF,w,rfl,mG,Yg,hc3,ht,⟨c,Vn,jF,hcn⟩,hw,b3,b5,b6⟩
 unfold Cl0
 have S9:(Dg (Ej 5) cs).vers.length=cs.length:=foldT_len
 have Ha:cs≠[]:=λh=>by subst h;simp at mG
 have KP:Ds .add (.v (.int .i64 100)) (iv (cs.length:Int))=some (iv ((100+cs.length:Nat):Int)):=lN (a:=100) (b:=cs.length) (by omega)
 have oK:(Je (Dg (Ej 5) cs) cs.length).length=cs.length:=A30 λv h1 h2=>NK h1 (by omega)
 have QI:(Dg (Ej 5) cs).at' cs.length=c:=by
  have e:=(R0 (x:=Ej 5) (cs:=cs) (i:=cs.length-1) (by omega)).1
  rw [Nat.sub_add_cancel mG] at e
  rw [e]
  rw [List.getLast?_eq_getElem?,Aa (by omega)] at Vn
  exact Ge Vn
 have N7:∀ {e:Int} {r:PArr},uN ⟨(Dg (Ej 5) cs).dims,(Dg (Ej 5) cs).attrs,(Dg (Ej 5) cs).at' cs.length⟩ [Qd ((100+cs.length:Nat):Int)] e r->e=0/\r.cells.length<=c.length+1/\B4 r.cells ((100+cs.length:Nat):Int)/\r.cells≠c:=λh=>by
  have Ye:=(ht.ok.chk cs.length).1
  rw [QI] at h Ye
  exact B35 Ye (by omega) (by omega) jF (by rcases hw with rfl | rfl <;> omega) h
 have y0:∀ {u v:Int} {Ao:Tr DObj},Fv Ao (.tup [iv u,iv v]) 0=some (iv u):=rfl
 have y1:∀ {u v:Int} {Ao:Tr DObj},Fv Ao (.tup [iv u,iv v]) 1=some (iv v):=rfl
 by_cases hi:cs.length<=98+q
 .simp only [↓Zj,↓Kb,↓Jg,↓Cn,↓Fb,↓Jv,↓Dy,↓Ij,↓Wb,xw_some,qE,Mg,Ag,Ak,Gk,Hx,Px,Uv,nx_put,Jn,Bx,reduceCtorEq,Ah,Pa.l.injEq,Pa.r.injEq,↓Xb,jO,Int.ofNat_le,b3,b5,b6,show decide (cs.length<=98+q)=true from Ar hi,KP,↓Qf,↓Qn,↓mT]
  refine Fl (Ck4 207 _ _ _ _ λJf Yu Py=>?_)
  have BX:RL rVal Jf (λj=>j=An.nx) (.ms An.nx 0 1 4) [Iv ((100+cs.length:Nat):Int)]:=(OL.ms (R:=rVal) (p:=λ_=>False) An.nx (vc (Iv ((100+cs.length:Nat):Int))) [Iv ((100+cs.length:Nat):Int)] Yu (by show Rows rVal Jf _ ([Iv ((100+cs.length:Nat):Int)].flatMap rVal.cells) [Iv ((100+cs.length:Nat):Int)];exact Rows.pure ..)).rl.mono λj hj=>hj.elim False.elim λh=>by simpa [DV.refs] using h
  simp only [↓Cn,Ag,Ak,Gk,Px,Dl,Is,↓Xb]
  refine Fl (xW 207 _ _ _ 0 0 _ _ (λj=>j=An.nx) (λj hj=>by omega) BX λNz G7 zc MN jq=>?_)
  have eD:=MN.le
  have qw:Al An.hp An.nx Jf (An.nx+1):=⟨by omega,λj hj=>Py j (by omega)⟩
  have PS:=(ht.keep qw).keep MN
  have PO:=ht.th
  have kM:=ht.nr
  simp only [↓Cn,Ag,Ak,Gk,Hx,Px,Dl,Is,Bx,reduceCtorEq,Ah,Pa.l.injEq,Pa.r.injEq,↓Xb]
  refine Fl (Bc4 87 _ 100 Nq cs.length zc [Qd ((100+cs.length:Nat):Int)] PS rfl ⟨mG,by omega⟩ (jq.mono λj hj=>?_) ⟨by rw [QI,Bf];omega,by rw [Bf];exact Bp (by decide) B03⟩ (λc hc=>?_) (by omega) (NK mG (by omega)) (by omega) ?_ ?_ ?_ ?_)
  .refine ⟨by rcases hj with hj | hj <;> omega,by rcases hj with hj | hj <;> omega,by rcases hj with hj | hj <;> omega,λhh=>?_⟩
   have:=(kM j hh).1
   rcases hj with hj | hj <;> omega
  .rw [Am.1 hc]
   exact ⟨by show (2:Nat)<900000;decide,by show (1:Nat)<900000;decide,λv hv=>by rw [Am.1 hv];show (bs []).size<900000;decide⟩
  .intro Ao Bk e r mH JX al
   exact absurd (N7 mH).1 JX
  .intro Ao Bk r mH mB al
   obtain ⟨_,_,_,Ha⟩:=N7 mH
   unfold Tn at mB
   have:=(Fe mB).2.2
   exact absurd (QI.symm.trans (Mq PArr.cells this)).symm Ha
  .intro Ol Wq r mH mB U3 qK
   rw [S9,oK] at U3
   have O4:cs.length=100:=by omega
   have Zf:=qK.le
   have I7:=PS.keep qK
   dsimp only [Hold.val]
   refine mY (λe9=>e9.hp=Ol/\e9.nx=Wq/\Ae e9 (.t (.l (.l .o)))=.pt T 0/\Ae e9 (.t (.r (.r .o)))=iv ((100:Nat):Int)/\Ae e9 (.t (.r (.l (.l (.l (.l .o))))))=.tup [iv 0,iv 18]) ?_ ?_
   .exact ⟨rfl,rfl,by simp only [Hx,Dl,Is,Bx,reduceCtorEq,Ah,Pa.l.injEq,b3],by simp only [Hx,Dl,Is,Bx,reduceCtorEq,Ah,Pa.r.injEq,b6,O4],by simp only [Gk,Dl,Is]⟩
   rintro e9 ⟨rfl,rfl,c3,c6,qk⟩
   simp only [Fx,↓Zj,↓Kb,↓Jg,↓Cn,↓Fb,↓Jv,↓Dy,↓Ij,↓Oh,↓Wb,↓Q3,↓fA,↓eZ,xw_some,Mg,Gk,Hx,Px,Uv,nx_put,Jn,lO,Ns,Bx,reduceCtorEq,Ah,true_and,or_true,ge_iff_le,Pa.l.injEq,Pa.r.injEq,Yz,fC,c6,qk,y0,y1,↓Qf,↓Qn]
   refine (UR (by simp only [Gk];rfl)).2 ?_
   rw [Qf,qW]
   simp only [Fx,↓Kb,↓Dy,↓Ij,↓Oh,Yi,↓Q3,↓eZ,xw_some,Mg,Gk,Hx,Px,Jn,lO,mO,Bx,reduceCtorEq,Ah,true_and,or_true,Ex,Ql,Pa.l.injEq,Pa.r.injEq,Q1,c3,c6,↓Qn,↓Nx]
   refine (UQ (by simp only [Gk,Hx,Bx,reduceCtorEq,Ah,Pa.l.injEq])).2 ?_
   refine sI ?_
   simp only [Ag,Ak,Gk,Hx,Uv,nx_put,Is,Bx,reduceCtorEq,Ah]
   have hlg:cs[99]'(by omega)=c:=by
    have e:=(R0 (x:=Ej 5) (cs:=cs) (i:=99) (by omega)).1
    exact e.symm.trans ((Mq (λn=>(Dg (Ej 5) cs).at' n) O4.symm).trans QI)
   refine Ct2 (k:=0) (w:=w) O4 I7 (by rw [hlg];exact jF) (by rcases hw with rfl | rfl <;> omega) (by rw [hlg];omega) λMk nL=>?_
   simp only [Fx,↓Dy,↓Ij,↓Oh,Yi,xw_some,Mg,Ak,Gk,Hx,Px,Dl,Is,lO,mO,Bx,reduceCtorEq,Ah,Ex,Pa.l.injEq,↓Xb,↓Nx]
   refine Fl (Bl5 207 _ _ _ ?_)
   simp only [Fx,↓Dy,↓Ij,↓Wb,xw_some,Mg,Gk,Hx,Px,Dl,Is,lO,Ns,mO,Bx,reduceCtorEq,Ah,Ex,↓Nx,↓Tl]
   rfl
  .intro Ol Wq nd8 rM U3 mH mB Ye jy mg ei I7
   have Zf:=mg.le
   rw [S9,oK] at U3
   rw [S9]
   dsimp only [Hold.val]
   refine mY (λe9=>e9.hp=Ol/\e9.nx=Wq/\Ae e9 (.t (.l (.l .o)))=.pt T 0/\Ae e9 (.t (.l (.r .o)))=iv ((98+q:Nat):Int)/\Ae e9 (.t (.r (.r .o)))=iv (cs.length:Nat)/\Ae e9 (.t (.r (.l (.l (.l (.l .o))))))=.tup [iv ((cs.length+1:Nat):Int),iv 0]) ?_ ?_
   .exact ⟨rfl,rfl,by simp only [Hx,Dl,Is,Bx,reduceCtorEq,Ah,Pa.l.injEq,b3],by simp only [Hx,Dl,Is,Bx,reduceCtorEq,Ah,Pa.l.injEq,Pa.r.injEq,b5],by simp only [Hx,Dl,Is,Bx,reduceCtorEq,Ah,Pa.r.injEq,b6],by simp only [Gk,Dl,Is]⟩
   rintro e9 ⟨rfl,rfl,c3,c5,c6,qk⟩
   simp only [Fx,↓Zj,↓Kb,↓Jg,↓Cn,↓Fb,↓Jv,↓Dy,↓Ij,↓Oh,↓Wb,↓Q3,↓fA,↓eZ,xw_some,Mg,Gk,Hx,Px,Uv,nx_put,Jn,lO,Ns,Bx,reduceCtorEq,Ah,true_and,or_true,ge_iff_le,Pa.l.injEq,Pa.r.injEq,Yz,fC,c6,qk,y0,y1,show decide (¬ (0:Int)=0)=false from rfl,↓Qf,↓Qn]
   refine (US (by simp only [Gk];rw [show decide ((100:Int)<=(cs.length:Int))=false from Aj (by omega)])).2 ?_
   rw [Qn]
   simp only [Fx,↓Kb,Yj,↓Wb,xw_some,Ry,Gk,Hx,Uv,nx_put,mO,Bx,reduceCtorEq,Ah,Ff,Eh,true_and,Ib,Hn,Pa.l.injEq,Pa.r.injEq,rR,c3,c5,c6,Jx (show cs.length<_ by omega),show decide (¬ (0:Int)=0)=false from rfl,show decide (¬ cs.length+1=cs.length+1)=false by simp]
   obtain ⟨_,g1,g2,_⟩:=N7 mH
   have hl9:(cs ++ [rM]).length=cs.length+1:=by rw [Ap];rfl
   have g1':rM.length<=c.length+1:=g1
   refine ⟨199-cs.length,by omega,cs ++ [rM],nd8,((100+cs.length:Nat):Int),by omega,by omega,by omega,by omega,?_,⟨rM,by simp,g2,by omega⟩,.inr (by omega),?_⟩
   .rw [<- B31 rM Ha]
    exact I7
   .rw [hl9]
 .simp only [↓Kb,↓Jg,↓Cn,↓Fb,↓Jv,↓Dy,↓Ij,↓Wb,↓RX,↓jM,xw_some,Ry,Mg,Gk,Hx,Uv,nx_put,Jn,Bx,reduceCtorEq,Ah,Pa.l.injEq,jO,Int.ofNat_le,b3,b5,b6,show decide (cs.length<=98+q)=false from Aj hi,↓Qf,↓Qn]
  refine Fl (vx 206 _ ht λIx FA zv fE rv=>?_)
  have lv:=rv.len
  rw [S9,oK] at lv
  have cJ:cs.length=98+q+1:=by omega
  rw [cJ] at lv
  simp only [Fx,↓Cn,↓Dy,↓Ij,↓Oh,Yi,xw_some,Mg,Zp,Ak,Gk,Hx,Px,Dl,Is,Jn,Bx,reduceCtorEq,Ah,Ql,Pa.l.injEq,Pa.r.injEq,↓Xb,Q1,b3,b5,lv,Jx (show 98+q<_ by omega)]
  refine Fl (Bl5 207 _ _ _ ?_)
  simp only [Fx,↓Kb,↓Cn,↓Fb,↓Dy,↓Ij,xw_some,Mg,Gk,Hx,Px,Dl,Is,lO,Ns,mO,Bx,reduceCtorEq,Ah,true_and,or_true,Ex,Pa.l.injEq,p2]
  rfl
end Go.DD

/- What the model's memory reads as: structs, slices of structs, nested. Conditions: those that each theorem states. -/
namespace Go.DD
open Go Go.ChangeShapes Go.WideShapes Go.ChangeAt Go.RowKit
section
variable {H:Type} (enc:TypeId×Value->H) (P:Program) (W:World)
variable {enc P W}
end
end Go.DD

/- From a contract to a law's statement: a law that answers true and of what was there turns nothing. Conditions: none beyond those that each theorem states. -/
namespace Go.DD
open Go Go.RowKit Go.ChangeShapes
theorem A75{H:Type}{enc:TypeId×Value->H}{P:Program}{f:Func}{s:ChangeSpec}{apart fresh handsOn again:Bool}{W W':World}{args:Array Value}{v:Value}{ds gs:List (DataW H)}{before pa pv:List MemPlace}
  (hW:DataW.Whole enc P f.params.toList s.vars apart W args.toList ds gs before)
  (dZ:∀ (b:Nat) (sp:Nat->Bool) (hd:Bool),DataW.TrodAll enc P W' b sp hd f.resultTypes.toList (v.resultList f.resultTypes.size) (s.fn H (ds++gs)).results [])
  (Di:∀ sp:Nat->Bool,(∀ p∈before,sp p.block=true)->DataW.TrodAll enc P W' 0 sp true f.params.toList args.toList (s.fn H (ds++gs)).args pa)
  (yD:∀ sp:Nat->Bool,(∀ p∈before,sp p.block=true)->DataW.TrodVars enc P W' sp s.vars (s.fn H (ds++gs)).vars pv)
  (Gy:before=pa++pv) (hk:Below W.heap.size W W')
  (Pq:∀ (j:Nat) (t:TypeId) (r:Value),f.resultTypes[j]?=some t->(v.resultList f.resultTypes.size)[j]?=some r->Value.okWide P W' .any 0 t r) :
  s.post enc P f apart fresh handsOn again W args v W':=by
 have hold:∀ p∈before,(λb=>decide (b<W.heap.size)) p.block=true:=λp hp=>by simpa using hW.lt p hp
 have Ez:=hW.lt
 refine ⟨ds,gs,before,[],pa,pv,hW,dZ _ _ _,Di _ hold,yD _ hold,hk.frame _,λ_=>?_⟩
 obtain ⟨_,_,_,_,_,hz,hn⟩:=hW
 refine ⟨Pq,_,_,([]++pa)++pv,⟨[]++pa,pv,trodAll_append (Di _ (λ_ _=>rfl)) (dZ _ _ _),yD _ (λ_ _=>rfl),rfl,?_,?_⟩,?_⟩
 .intro b off hp
  have Ao:MemPlace.cell b off∈before:=by rw [Gy];simpa using hp
  rw [hk.frozen (Ez _ Ao)]
  exact hz b off Ao
 .intro ha
  have:=hn ha
  rw [Gy] at this
  simpa using this
 .intro p hp _
  rw [Gy]
  simpa using hp
theorem DCall.law{P:Program}{f:FuncId}{args:List DV}(h:DCall P f args λd=>d=.v (.bool true))(w:World){vs:List Value}(hl:vs.length=args.length)
  (hr:∀ (j:Nat) (v:Value) (d:DV),vs[j]?=some v->args[j]?=some d->RelI w (λb=>b<w.heap.size) v d) (hg:∀ x d,MQ x d->RelI w (λb=>b<w.heap.size) x d) :
  Calls P f vs.toArray w λe w'=>e=.returned (.bool true)/\Below w.heap.size w w':=
 (h w (λb=>b<w.heap.size) vs (λ_ h=>h) hl hr hg).mono λ_ _ ⟨v,r,he,hr,hb,hv⟩=>by
  subst hr
  cases hv
  exact ⟨he,hb⟩
end Go.DD

/- What the arguments of chapter 08's statements read as. Conditions: those that each theorem states. -/
namespace Go.DD
open Go Go.Proofs Go.ChangeShapes Go.WideShapes Go.ChangeAt Go.RowKit
theorem ZS:ownKnob Tryz.prog.godebug=none:=by kernel_rfl
theorem u4:Tryz.prog.underlying 4=some .bool:=by kernel_rfl
section
variable {H:Type} {enc:TypeId×Value->H} {W:World}
end
end Go.DD

/- VersionFull, the statement: for every input the call returns true and each argument reads afterwards as before. Conditions: none. -/
namespace Go.Proofs.YtnphfnhhpcelbaaGreat.versionFull
open Go.ChangeShapes Go.WideShapes Go.ChangeAt Go.RowKit Go.DD

theorem u8 : Tryz.prog.underlying 5 = some (.int .u8) := by kernel_rfl
set_option maxRecDepth 100000 in
/-- An argument that is a number. -/
theorem C37{W : World}{base : Nat}{v : Value}(bH : Value.okWide Tryz.prog W .any base 5 v) : ∃ n : Nat, v = .int .u8 (n : Int) := by
  obtain ⟨z, rfl⟩ := okWide_int u8 bH
  simp only [Value.okWide, u8, Cell.okWide, Cell.ok, IntKind.has] at bH
  have h0 : (0 : Int) <= z := bH.2.1
  exact ⟨z.toNat, by rw [Int.toNat_of_nonneg h0]⟩
theorem walk(m : Nat){W : World}{s : Value}(hz : RelI W (λb => b<W.heap.size) s (.v (.int .u8 (m : Int)))) :
    Calls Tryz.prog 10 #[s] W λe w' => e = .returned (.bool true) /\ Below W.heap.size W w' := by
  refine DCall.law (vs := [s]) (Cb3 m).2.2 W rfl (λj w d hw hd => ?_) (λx d h => ?_)
  . match j with
    | 0 => cases hw;cases hd;exact hz
    | j + 1 => cases hw
  . obtain ⟨g, cs, h, _⟩ := h
    cases h

set_option maxRecDepth 100000 in
theorem lifted(os : Os)(started : os.Started)(H : Type)(enc : TypeId × Value -> H) :
    ReturnsInHanded {} Tryz.checked os 10 .any (Rows.versionFullSpec.pre6 enc Tryz.prog Tryz.f10 Rows.versionFullRow.domain false) (Rows.versionFullSpec.post enc Tryz.prog Tryz.f10 false true false false) := by
  refine returnsInHanded_of_change (C := Tryz.checked) ZS started (by kernel_rfl) Tryz.func10
    (ChangeSpec.witness6 (enc := enc) (C := Tryz.checked) false ⟨#[], #[.int .u8 0], []⟩ 3 (by kernel_rfl) (by kernel_rfl) (by kernel_rfl) (by kernel_rfl)) ?_
  intro W base args ds gs before yE hW aRm _
  have bH : ∀ (j : Nat) t v, Tryz.f10.params[j]? = some t -> args[j]? = some v -> Value.okWide Tryz.prog W .any base t v := yE
  have hW' := hW
  have Ez := hW.lt
  obtain ⟨p, q, hA0, hV, rfl, hfz, Vg⟩ := hW
  have hA : DataW.TrodAll enc Tryz.prog W 0 (λ_ => true) true Tryz.f10.params.toList args.toList ds p := hA0
  rw [Tryz.params10] at hA bH
  obtain ⟨v0, d0, rfl, rfl, h0⟩ := trodAll_one hA
  obtain ⟨rfl, rfl⟩ := trodVars_none hV
  obtain ⟨m, hm⟩ := C37 (bH 0 _ v0 rfl rfl)
  have HB : RelI W (λb => b<W.heap.size) v0 (.v (.int .u8 (m : Int))) := by rw [hm];exact .v _
  clear hA0 yE
  simp only [Dh, Bu] at hW' Ez
  refine (walk m HB).mono λe W' ⟨he, hg⟩ => ?_
  subst he
  exact ⟨_, rfl, A75 (pa := p) (pv := []) hW' (λ_ _ _ => trodAll_mk1 (shut_bool u4 _))
    (λsp hsp => trodAll_mk1 (WideElems.Trod_stays (by kernel_rfl) (by kernel_rfl) (by decide +kernel) h0 (λx hx => hg.same (Ez x hx)) (λx hx => hsp x hx)))
    (λ_ _ => rfl) (by simp) hg (ok_one (by kernel_rfl) rfl (okWide_bool_mk u4 _))⟩

theorem o1 : (Rows.versionFullRow.inPlace == Tryz.pinned.checked.prog.inPlace 10) = true := by kernel_rfl
theorem o2 : (Rows.versionFullRow.unfollowed == Tryz.pinned.checked.prog.unfollowed 10) = true := by kernel_rfl
theorem o3 : (Rows.versionFullRow.recurses == Tryz.pinned.checked.prog.recurses 10) = true := by kernel_rfl
theorem o4 : (Rows.versionFullRow.named == Tryz.pinned.checked.prog.varsNamed 10) = true := by kernel_rfl
theorem o5 : joinedFacts Tryz.pinned.checked.prog 10 Tryz.f10 Rows.versionFullSpec Rows.versionFullRow = true := by
  unfold joinedFacts
  rw [o1, o2, o3, o4]
  kernel_rfl
theorem over : Rows.versionFullRow.holds Tryz.pinned (OpenSpec.ofChange Rows.versionFullSpec) :=
  OpenClaim.holds_of_wide 10 Tryz.f10 rfl rfl rfl rfl rfl rfl rfl ⟨rfl, rfl, rfl, rfl, rfl⟩ rfl rfl rfl rfl rfl (by kernel_rfl) Tryz.func10 o5
    (Fe (by kernel_rfl)) (by unfold Func.isWrapper;first | (rw [Af (by decide +kernel)];kernel_rfl) | (rw [Ad (by decide +kernel)];exact ⟨rfl, rfl⟩))
    (λos started H enc _ => lifted os started H enc)

/-- The statement. -/
theorem proved : Rows.VersionFullSaid :=
  over
#print axioms proved
end Go.Proofs.YtnphfnhhpcelbaaGreat.versionFull
