/- A part. -/
import Derived.Test.YtnphfnhhpcelbaaGreatYv
import Derived.Test.YtnphfnhhpcelbaaGreatYf
import Derived.Test.YtnphfnhhpcelbaaGreatYu
import Derived.Test.YtnphfnhhpcelbaaGreatProg
import Derived.KernelRfl
import Derived.Test.YtnphfnhhpcelbaaGreatYs
noncomputable section
namespace Go.DD
open Go Go.Proofs Go.Sort
def IJ(n0:Nat)(sl:Tr DV)(L bo I:Nat)(W:List Int)(hp:Tr DObj)(nx:Nat):Prop:=
 ∃ z T,hp.get L=some (.loop ⟨13,.t sl,[7],QF,QE,.ready,none⟩)/\hp.get bo=some (.row T [z])/\OL rInt hp (λ_=>False) z W/\(∀ j∈z.refs,n0<=j/\j<nx/\j≠L/\j≠bo/\j≠I)/\n0<=L/\L<nx/\n0<=bo/\bo<nx/\L≠bo/\(I<nx/\I≠L/\I≠bo)/\Ad ⟨sl,.e,0⟩ (.t (.r .o))=.pt bo 0
section
variable (k n0:Nat) (hp:Tr DObj) (nx:Nat) (K:DV->Tr DObj->Nat->Prop)
theorem B33(sl:Tr DV)(L bo I:Nat)(W:List Int)(x:Int)(hn:n0<=nx)(hJ:IJ n0 sl L bo I W hp nx)(hW:W.length<900000)
  (hK:∀ An Bm,nx<=Bm->(∀ j,j<n0\/j=I->An.get j=hp.get j)->IJ n0 sl L bo I (W ++ [x]) An Bm->K (bv true) An Bm) :
  KW (kN (k+1)) (.yl L) [iv x] hp nx K:=by
 obtain ⟨z,T,j1,j2,j3,j4,j5,j6,j7,j8,j9,L4,s2⟩:=hJ
 refine nM j1 rfl rfl rfl rfl rfl ?_
 rw [show Dv 1000000 13 true QF=vj from Cb3]
 unfold vj
 have IF:∀ hp nx,Ad ⟨Np [7] [iv x] sl,hp,nx⟩ (.t (.l (.l (.l .o))))=iv x:=λhp nx=>by
  show Ad ((ES.mk sl hp nx).putE (some (.l (.l (.l .o)))) (iv x)) (.t (.l (.l (.l .o))))=iv x
  simp only [bR]
 have tD:∀ hp nx,Ad ⟨Np [7] [iv x] sl,hp,nx⟩ (.t (.r .o))=.pt bo 0:=λhp nx=>by
  show Ad ((ES.mk sl hp nx).putE (some (.l (.l (.l .o)))) (iv x)) (.t (.r .o))=.pt bo 0
  simp only [bR]
  exact s2
 generalize Np [7] [iv x] sl=zz at IF tD
 simp only [As,↓Au,IF]
 refine ⟨_,j1,rfl,?_⟩
 rw [show Dv 1000000 13 true QE=vi from Cb4]
 unfold vi
 obtain ⟨lp,aK⟩:∃ lp:DLoop,lp=⟨13,.t sl,[7],QF,QE,.busy,none⟩:=⟨_,rfl⟩
 have Xn:∀ j,j≠L->(hp.set L (some (.loop lp))).get j=hp.get j:=λj hj=>by rw [Tr.get_set,Ae (Eo hj)]
 have pE:(hp.set L (some (.loop lp))).get L=some (.loop lp):=by rw [Tr.get_set,Af rfl]
 rw [<- aK]
 generalize hp.set L (some (.loop lp))=hq at Xn pE ⊢
 have MM:hq.get bo=some (.row T [z]):=(Xn bo (Eo j9)).trans j2
 have dj:=j3.keep (An:=hq) λj hj=>hj.elim False.elim λh=>Xn j (j4 j h).2.2.1
 simp only [As,↓Au,tD,qG MM]
 refine eK (fl:=[iv x]) rfl (by simp only [Am,Az,Dc,bR,bP,Sa];rfl) λGn Kv Hy=>?_
 simp only [bR] at Kv Hy
 have L5:=dj.keep (An:=Gn) λj hj=>Hy j (hj.elim False.elim λh=>by have:=(j4 j h).2.1;omega)
 simp only [As,↓Au]
 refine eL (R:=rInt) (p:=λ_=>False) (p2:=λ_=>False) (d:=z) (d2:=.ms nx 0 1 1) (l:=W) (m:=[x]) (by simp only [bR,bP]) L5 (by simp only [Dc,bR,bP];exact Yb Kv) (T6 (R:=rInt) (x:=x) Kv rfl) rfl rfl (by rw [Bk];omega) (by decide) λFq Fl h4=>?_
 simp only [bR] at Fl h4
 have o4:=h4 (λ_=>False) λj hj=>(hj.elim False.elim False.elim:False).elim
 have Q0:Fq.get bo=some (.row T [z]):=by rw [Fl bo (by omega) λh=>(j4 bo h).2.2.2.1 rfl,Hy bo (by omega),MM]
 obtain ⟨_,_,og,lK,_⟩:=o4.get
 simp only [As,↓Au]
 refine lS (id:=bo) (off:=0) (by simp only [bR,tD]) Q0 (by simp only [Ha,bR];exact Yb lK) (bO _ _ _ _) (by simp) λGr Qw Jd=>?_
 simp only [bR] at Qw Jd
 simp only [As,↓Au]
 have mr:Gr.get L=some (.loop lp):=by rw [Jd L j9,Fl L (by omega) λh=>(j4 L h).2.2.1 rfl,Hy L (by omega),pE]
 have k6:∀ j,j≠L->(Gr.set L (some (.loop { lp with st:=.ready,pend:=none }))).get j=Gr.get j:=λj hj=>by rw [Tr.get_set,Ae (Eo hj)]
 refine ⟨lp,mr,hK _ _ (by omega) (λj hj=>?_) ⟨_,T,by rw [Tr.get_set,Af rfl,aK],(k6 bo (Eo j9)).trans Qw,o4.keep λj hj=>?_,λj hj=>?_,j5,by omega,j7,by omega,j9,⟨by omega,L4.2⟩,s2⟩⟩
 .have RW:j≠L/\j≠bo/\j<nx/\j∉z.refs:=⟨by omega,by omega,by omega,λh=>by have:=j4 j h;omega⟩
  rw [k6 j RW.1,Jd j RW.2.1,Fl j (by omega) RW.2.2.2,Hy j (by omega),Xn j RW.1]
 .have Tx:j≠bo/\j≠L:=hj.elim False.elim λh=>by
   have:j=nx+1:=by simpa [DV.refs] using h
   exact ⟨by omega,by omega⟩
  rw [k6 j Tx.2,Jd j Tx.1]
 .have:j=nx+1:=by simpa [DV.refs] using hj
  exact ⟨by omega,by omega,by omega,by omega,by omega⟩
end
theorem IJ.keepI{n0:Nat}{sl:Tr DV}{L bo I:Nat}{W:List Int}{hp An:Tr DObj}{nx:Nat}(h:IJ n0 sl L bo I W hp nx)(hk:∀ j,j≠I->An.get j=hp.get j):IJ n0 sl L bo I W An nx:=by
 obtain ⟨z,T,j1,j2,j3,j4,j5,j6,j7,j8,j9,L4,s2⟩:=h
 exact ⟨z,T,(hk L (Eo L4.2.1)).trans j1,(hk bo (Eo L4.2.2)).trans j2,j3.keep λj hj=>hj.elim False.elim λh=>hk j (j4 j h).2.2.2.2,j4,j5,j6,j7,j8,j9,L4,s2⟩
def aB(e:ME):Int:=match e.v with
 | .v (.int _ n)=>n
 | _=>0
theorem Cm2:∀ {es:List ME} {hs:List (ByteArray×Int)},Qc es hs->(∀ e∈es,e.v=iv (aB e))/\es.map aB=hs.map λx=>x.2
 | [],[],_=>⟨λe he=>(by cases he),rfl⟩
 | [],_::_,h=>by cases h
 | _::_,[],h=>by cases h
 | e::es,x::hs,h=>by
  have h':(e.k,e.v)=(Value.string x.1,iv x.2)/\Qc es hs:=List.cons.inj h
  obtain ⟨h1,h2⟩:=h'
  have hv:=(Prod.mk.inj h1).2
  obtain ⟨a,b⟩:=Cm2 h2
  have e1:aB e=x.2:=by unfold aB;rw [hv]
  refine ⟨λy hy=>?_,by rw [Am,Am,e1,b]⟩
  rcases Ap.1 hy with rfl | hy
  .rw [hv,e1]
  .exact a y hy
def sm(k:Nat):Ko:=Rl Tryz.prog 1000000 (SS k) (λ_=>false) true (kN k)
theorem C51{k:Nat} : S5 Tryz.prog (sm k):=PD (Z7 (n:=1000000) mixed Wt OR k) C50 mixed
def fC(B:Nat):DV:=.fn (.func 146) [.tup [],.pt B 0]
section
variable (k:Nat)
theorem B34{hp:Tr DObj}{nx B H U ck:Nat}{es':List ME}{hs:List (ByteArray×Int)}{K:DV->Tr DObj->Nat->Prop}(hd:B<nx/\H<nx)(hB:hp.get B=some (.row U [.mp H]))(hH:hp.get H=some (.mapo ck es'))(hm:Qc es' hs)(Ib:StO ck es')(hl:es'.length<900000)
  (hK:∀ An Bm z l,Al hp nx An Bm->RL rInt An (Bw nx Bm) z l->l.Perm (hs.map λx=>x.2)->K z An Bm):sm (k+1) 145 [Cb,fC B] hp nx K:=by
 refine vk CN CL CH BZ Cu7 (bU CF rfl) λes e1 e2 he=>?_
 have a0:Ad es (.t .o)=Cb:=he 0 _ rfl
 have a1:Ad es (.t (.l .o))=fC B:=he 1 _ rfl
 subst e1 e2
 unfold BV
 rw [Qs,Rk]
 simp only [↓Au]
 refine AV (v:=Cb) (by simp only [Ha,a0];rfl) ⟨rfl,rfl⟩ λEi Dn Dd=>?_
 simp only [bR] at Dn Dd
 simp only [As,↓Au,bP,a1,↓Qs,↓Rk,↓sD]
 have hB1:=(Dd B (by omega)).trans hB
 have hH1:=(Dd H (by omega)).trans hH
 obtain ⟨mv,mm⟩:=Cm2 hm
 have s2:∀ hp nx,Ad ⟨(((es.putE (some (.r .o)) (.pt es.nx 0)).putE (some (.r (.l .o))) (.v (.slice none 0 0))).putE (some (.r (.r .o))) (fC B)).sl,hp,nx⟩ (.t (.r .o))=.pt es.nx 0:=λhp nx=>by simp only [bR]
 have s6:∀ hp nx,Ad ⟨(((es.putE (some (.r .o)) (.pt es.nx 0)).putE (some (.r (.l .o))) (.v (.slice none 0 0))).putE (some (.r (.r .o))) (fC B)).sl,hp,nx⟩ (.t (.r (.r .o)))=fC B:=λhp nx=>by simp only [bR]
 generalize (((es.putE (some (.r .o)) (.pt es.nx 0)).putE (some (.r (.l .o))) (.v (.slice none 0 0))).putE (some (.r (.r .o))) (fC B)).sl=sl at s2 s6 ⊢
 have Iq:∀ (x:Option DObj) j,j≠es.nx+1->(Ei.set (es.nx+1) x).get j=Ei.get j:=λx j hj=>by rw [Tr.get_set,Ae (Eo hj)]
 refine ⟨146,[.pt B 0],?_,?_⟩
 .have:My ⟨sl,Ei,es.nx+1⟩ (.t (.r (.r .o)))=fC B:=by
   rw [Ha,s6]
   exact Wm λid hid=>by
    have:id=B:=by simpa [fC,DV.refs,DV.refsL] using hid
    rw [this,hB1];rfl
  rw [this];rfl
 .show SS (k+1) _ [.yl (es.nx+1),.pt B 0] (Ei.set (es.nx+1) _) (es.nx+1+1) _
  refine B32 (k+1) (L:=es.nx+1) (B:=B) (H:=H) (U:=U) (ck:=ck) (es':=es') (λW Cw Dt=>IJ es.nx sl (es.nx+1) es.nx (es.nx+1+1) (W.map aB) Cw Dt/\(∀ j,j<es.nx->Cw.get j=Ei.get j)/\Cw.get (es.nx+1+1)=some (.miter (.mp H) ck (W.map ME.b) ck)) ⟨by show es.nx+1<es.nx+1+1;omega,by show B<es.nx+1+1;omega,by show H<es.nx+1+1;omega⟩ ⟨_,by rw [Tr.get_set,Af rfl]⟩ ((Iq _ _ (by omega)).trans hB1) ((Iq _ _ (by omega)).trans hH1) Ib (λe he An=>by rw [mv e he];rfl) (λCw Fw Fa=>?_) (λW Cw Dt ⟨⟨z,T,j1,j2,j3,j4,j5,j6,j7,j8,j9,L4,j11⟩,h2,h3⟩=>?_) (λW Cw Dt e Gn ⟨hJ,h2,h3⟩ he Gt lE Kv Hy=>?_) (λW Cw Dt ⟨⟨z,T,j1,j2,j3,j4,j5,j6,j7,j8,j9,L4,j11⟩,h2,h3⟩ Ze=>?_)
  .have KN:∀ j,j≠es.nx+1+1->j≠es.nx+1->Cw.get j=Ei.get j:=λj h1 h2=>(Fa j h1).trans (Iq _ j h2)
   refine ⟨⟨Cb,_,(Fa (es.nx+1) (by omega)).trans (by rw [Tr.get_set,Af rfl]),(KN es.nx (by omega) (by omega)).trans Dn,.nil,λj hj=>(by cases hj),by omega,by omega,Ag _,by omega,by omega,⟨by omega,by omega,by omega⟩,s2 _ _⟩,λj hj=>KN j (by omega) (by omega),Fw⟩
  .exact ⟨by omega,⟨_,j1⟩,(h2 H (by omega)).trans hH1,h3⟩
  .rw [mv e he]
   have X0:=hJ.keepI (An:=Gn) Hy
   have Tw:es.nx<=Dt:=by
    obtain ⟨_,_,_,_,_,_,j5,j6,_⟩:=hJ
    omega
   have hlen:(W.map aB).length<900000:=by rw [Bp];omega
   refine B33 k es.nx _ _ _ sl (es.nx+1) es.nx (es.nx+1+1) (W.map aB) (aB e) Tw X0 hlen λFq Ma aM Up hJ4=>⟨rfl,by rw [Cn];exact hJ4,λj hj=>?_,(Up _ (.inr rfl)).trans Kv⟩
   rw [Up j (.inl hj),Hy j (by omega),h2 j hj]
  .refine ⟨_,j1,by simp,?_⟩
   have aI:∀ j,j≠es.nx+1->(Cw.set (es.nx+1) none).get j=Cw.get j:=λj hj=>by rw [Tr.get_set,Ae (Eo hj)]
   show XW (Fy (Cw.set (es.nx+1) none) none (Ad ⟨sl,Cw.set (es.nx+1) none,Dt⟩ (.t (.r .o)))) λd=>K (Cg (Cw.set (es.nx+1) none) d) (Cw.set (es.nx+1) none) Dt
   rw [s2,qG ((aI es.nx (by omega)).trans j2)]
   have o:=j3.keep (An:=Cw.set (es.nx+1) none) λj hj=>hj.elim False.elim λh=>aI j (j4 j h).2.2.1
   refine xw_some.2 ?_
   rw [o.rl.live]
   exact hK _ _ z _ ⟨by omega,λj hj=>by rw [aI j (by omega),h2 j hj,Dd j (by omega)]⟩ (o.rl.mono λj hj=>hj.elim False.elim λh=>⟨(j4 j h).1,(j4 j h).2.1⟩) (by rw [<- mm];exact Ze.map aB)
end
def sk(k:Nat):Ko:=Rl Tryz.prog 1000000 (sm k) (λf=>Nat.beq f 145) false (kN k)
theorem C52{k:Nat} : S5 Tryz.prog (sk k):=PD (Z7 (n:=1000000) mixed Wt OR k) C51 mixed
theorem G2{wc:Ko}{call:Bg}{es:ES}{R:ES->Prop}{f:Nat}{args:List EO}{dst:Option Pa}{n:RE}(h:wc f (args.map (Ad es)) es.hp es.nx λd hp nx=>n wc call ((ES.mk es.sl hp nx).putE dst d) R):rW f args dst n wc call es R:=by
 unfold rW Zk
 rw [qL]
 exact h
section
variable (k:Nat)
theorem Bq8{hp:Tr DObj}{nx B H U ck:Nat}{es':List ME}{hs:List (ByteArray×Int)}{K:DV->Tr DObj->Nat->Prop}(hd:B<nx/\H<nx)(hB:hp.get B=some (.row U [.mp H]))(hH:hp.get H=some (.mapo ck es'))(hm:Qc es' hs)(Ib:StO ck es')(hl:es'.length<900000)
  (hK:∀ An Bm z l,Al hp nx An Bm->RL rInt An (Bw nx Bm) z l->l.Perm (hs.map λx=>x.2)->K z An Bm):sk (k+1) 95 [fC B] hp nx K:=by
 refine vk WQ WN WL WH C49 (bU WJ rfl) λes e1 e2 he=>?_
 have a0:Ad es (.t .o)=fC B:=he 0 _ rfl
 subst e1 e2
 unfold w95
 rw [Qs,Rk]
 simp only [As,↓Au,bP,a0,↓Qs,↓Rk,↓sC,↓Pf]
 refine G2 ?_
 simp only [Am,Az,bR]
 refine B34 k hd hB hH hm Ib hl λAn Bm z l al rl Cw=>?_
 simp only [As,↓Au,↓Pf,↓Uf,rl.live]
 exact hK _ _ z l al rl Cw
end
end Go.DD

/- The code of functions, as it is run (part 1): printed by a program out of the translation. -/
namespace Go.DD
noncomputable section
open Pa
instance TF : Coe Pa EO := ⟨EO.t⟩
open Go
set_option maxRecDepth 100000
def yL:CE:=(cT [(sX "3" (Ar .lss "1" "+"))] (cS (cC "3" (cE .normal) (cE (.exit 0))) (cS (cB 1 (cT [(sX "4" (Fg 3 "." "1")),(sX "2" (Cf (some 3) "4")),(sU "&" (Qe 136 [.v (.slice none 0 0),.v (.slice none 0 0),.v (.bool false)])),(sU none (Is 3 "&" "2"))] (cN (sL [(sM "7" ">"),(sX "8" (Ea 0 "&")),(sX "6" (Cf none
 "8")),(sX "0" (Cu "6")),(sX ":" (Ar .add "7" "0")),(sM ">" ":")])))) (cN (sL [(sX ";" (Ar .add "1" (1:Int))),(sM "1" ";")])))))
def r35:CE:=(cT [(sM o.r (0:Int))] (cS (cT [(sM "%" o),(Bj 82 ["%"] ")"),(sX "(" (Nz .not ")"))] (cC "(" (cT [(sM o.r (0:Int))] (cE .ret)) (cE .normal))) (cT [(sM ">" (0:Int))] (cS (cT [(sM "$" o),(sU "*" (Bi (.nck (.tmp 9)))),(sX "," (Ea 3 "*")),(sX "." (Cf none ",")),(sX "+" (Cu ".")),(sM
 "1" (0:Int))] (cB 0 (cL 1000000 yL))) (cT [(sM "5" ">"),(sM o.r "5")] (cE .ret))))))
def e35:FE:=⟨r35,[(2,none)],25⟩
def xT:CE:=(cT [(sX "." (Ar .lss "," "*"))] (cS (cC "." (cE .normal) (cE (.exit 0))) (cS (cB 1 (cT [(sX "+" (Fg 1 "$" ",")),(sX "1" (Cf none "+")),(sM "&" "1")] (cT [(sM "3" ">"),(sM "4" "&"),(sX "2" (Cu "4")),(sX "7" (Ar .add "3" "2")),(sM ">" "7")] (cT [(sM "8" ">"),(sX "6" (Ar
 .lss "8" (0:Int)))] (cC "6" (cN (sL [(sU "0" (Bi (.mki 9 (.const (.string (bs [108,101,110,32,111,117,116,32,111,102,32,114,97,110,103,101])))))),(sU none (Bi (.bad)))])) (cE .normal)))))) (cN (sL [(sX ":" (Ar .add "," (1:Int))),(sM "," ":")])))))
def xS:CE:=(cT [(sX "?" (Ar .lss "<" "9"))] (cS (cC "?" (cE .normal) (cE (.exit 2))) (cS (cB 3 (cT [(sX "@" (Fg 1 "=" "<")),(sX "A" (Cf none "@")),(sM "(" "A")] (cN (sL [(sM "B" "%"),(sM "C" "("),(sU "D" (Bi (.app 3 1 8 (.tmp 31) (.tmp 32)))),(sM "%" "D")])))) (cN (sL [(sX "F" (Ar
 .add "<" (1:Int))),(sM "<" "F")])))))
def r94:CE:=(cT [(sM o.r (.c (.v (.slice none 0 0))))] (cT [(sM ">" (0:Int))] (cS (cT [(sM "$" o),(sX "*" (Cu "$")),(sM "," (0:Int))] (cB 0 (cL 1000000 xT))) (cT [(sM ";" ">"),(Bj 144 [(.c (.v (.slice none 0 0))),";"] "5"),(sM "%" "5")] (cS (cT [(sM "=" o),(sX "9" (Cu "=")),(sM "<" (.c (.v
 (.int .i64 0))))] (cB 2 (cL 1000000 xS))) (cT [(sM "G" "%"),(sM o.r "G")] (cE .ret)))))))
def e94:FE:=⟨r94,[(2,none)],36⟩
def FI:CE:=(cT [(sM "!" (.c (.v (.slice none 0 0))))] (cS (cT [(sM "&" o.l),(sX "%" (Ar .lss "&" (0:Int)))] (cC "%" (cN (sL [(sU ")" (Bi (.mki 9 (.const (.string (bs [99,97,110,110,111,116,32,98,101,32,110,101,103,97,116,105,118,101])))))),(sU none (Bi (.bad)))])) (cE .normal))) (cS (cT [(sM "(" o.l),(sM "$" o),(sU "*" (Bi (.cpn (.tmp 9)))),(sM ","
 o),(sX "." (Cu ",")),(sX "+" (Ar .sub "*" ".")),(sX "1" (Ar .sub "(" "+")),(sM o.l "1")] (cT [(sM "3" o.l),(sX "4" (Ar .gtr "3" (0:Int)))] (cC "4" (cN (sL [(sM "2" o),(sM "7" o),(sU "8" (Bi (.cpn (.tmp 18)))),(sU "6" (Bi (.sli 1 (.tmp 17) none (some (.tmp 19))))),(sM "0" o.l),(sU ":"
 (Bi (.apz 3 1 8 (.tmp 20) (.tmp 21)))),(sM ";" o),(sX "5" (Cu ";")),(sU "=" (Bi (.sli 1 (.tmp 22) none (some (.tmp 24))))),(sM o "=")])) (cE .normal)))) (cT [(sM "9" o),(sM "!" "9")] (cE .ret)))))
def qo:FE:=⟨FI,[(4,none)],27⟩
def r96:CE:=(cT [(sU o.l (Nx 138 o)),(sM o.r (.c (.v .nilFunc)))] (cT [(sU ">" (Bi (.mkf (.func 146) [] [.tmp 1]))),(sM o.r ">")] (cE .ret)))
def e96:FE:=⟨r96,[(2,none)],4⟩
end
end Go.DD

/- The printed code is the program's. -/
namespace Go.DD
open Go Go.Proofs
set_option maxRecDepth 100000
theorem t35:te 35=some e35:=by kernel_rfl
theorem t94:te 94=some e94:=by kernel_rfl
theorem XV:te 144=some qo:=by kernel_rfl
theorem t96:te 96=some e96:=by kernel_rfl
end Go.DD

/- Contracts: slices.Grow of nil, slices.Concat of lists of numbers, maps.Values, the size of a tree. Conditions: those that each theorem states. -/
namespace Go.DD
open Go Go.Proofs Go.Sort
section
variable {call:Bg} {es:ES} {dst:Option Pa} {Q:ES->Prop}
theorem Cm3{t:Nat}(e1:Ad es (.t (Cq t))=Cb)(h:Q (es.putE dst (iv 0))):SW (sU dst (Bi (.cpn (.tmp t)))) call es Q:=by
 rw [sw_u,Ft]
 refine ⟨iv 0,.keep,?_,h⟩
 have f1:es.ds.ev (.tmp t)=Cb:=by rw [kT,e1];rfl
 simp only [Ba,f1]
 rfl
theorem C53{t u T e b n:Nat}(e1:Ad es (.t (Cq t))=Cb)(e2:Ad es (.t (Cq u))=iv (n:Nat))(h0:0<n)(hn:n<900000)(he:0<e)(hb:b<=65536)(h:∀ An,An.get es.nx=some (.row T [])->(∀ j,j≠es.nx->An.get j=es.hp.get j)->Q ((ES.mk es.sl An (es.nx+1)).putE dst (.ms es.nx 0 n e))):SW (sU dst (Bi (.apz T e b (.tmp t) (.tmp u)))) call es Q:=by
 rw [sw_u,Ft]
 refine ⟨.ms es.nx 0 n e,.lay (.row T []),?_,h (es.up (.lay (.row T []))).hp (by rw [Zu,get_set,Af rfl]) λj hj=>by rw [Zu,get_set,Ae hj]⟩
 have f1:es.ds.ev (.tmp t)=Cb:=by rw [kT,e1];rfl
 have f2:es.ds.ev (.tmp u)=iv (n:Nat):=by rw [kT,e2];rfl
 simp only [Ba,f1,f2]
 show (if 0<((n:Nat):Int)/\((n:Nat):Int)<=2147483648/\b<=65536/\0<e then some (DV.ms es.nx 0 ((n:Nat):Int).toNat e,Upd.lay (DObj.row T [])) else none)=_
 rw [Af ⟨by omega,by omega,hb,he⟩]
 rfl
theorem C54{t u id n:Nat}{o:DObj}(e1:Ad es (.t (Cq t))=.ms id 0 n 1)(hi:es.hp.get id=some o)(e2:Ad es (.t (Cq u))=iv 0)(h:Q (es.putE dst (.ms id 0 0 1))):SW (sU dst (Bi (.sli 1 (.tmp t) none (some (.tmp u))))) call es Q:=by
 rw [sw_u,Ft]
 refine ⟨.ms id 0 0 1,.keep,?_,h⟩
 have f1:es.ds.ev (.tmp t)=.ms id 0 n 1:=by rw [kT,e1];exact Yb hi
 have f2:es.ds.ev (.tmp u)=iv 0:=by rw [kT,e2];rfl
 have f3:Ig es.ds 0 none=some 0:=rfl
 have f4:Ig es.ds n (some (.tmp u))=some 0:=by show Ku (es.ds.ev (.tmp u))=some 0;rw [f2];rfl
 simp only [Ba,f1,f3,f4]
 rw [Af ⟨trivial,by omega,by omega,by omega⟩]
 rfl
end
section
variable (k:Nat) (hp:Tr DObj) (nx:Nat) (K:DV->Tr DObj->Nat->Prop)
theorem Cb5{H:Nat}{o:DObj}(hH:hp.get H=some o)(hd:H<nx)(hK:∀ An,An.get nx=some (.row 138 [.mp H])->(∀ j,j≠nx->An.get j=hp.get j)->K (fC nx) An (nx+1)):KW (kN (k+1)) (.fn 96) [.mp H] hp nx K:=by
 refine Es (Hl (by decide)) t96 (Ab rfl) λes e1 e2 he=>?_
 have a0:Ad es (.t .o)=.mp H:=he 0 _ rfl
 unfold r96
 subst e1 e2
 simp only [↓Au]
 refine AV (v:=.mp H) (by simp only [Ha,a0];exact iZ hH) ⟨rfl,rfl⟩ λEi Dn Dd=>?_
 simp only [bR] at Dn Dd
 simp only [As,↓Au,bP,Vk Dn]
 have hl:Cg Ei (fC es.nx)=fC es.nx:=Wm λid hid=>by
  have:id=es.nx:=by simpa [fC,DV.refs,DV.refsL] using hid
  rw [this,Dn];rfl
 show K (Cg Ei (fC es.nx)) Ei (es.nx+1)
 rw [hl]
 exact hK _ Dn Dd
theorem Cu8(n:Nat)(hn:n<900000)(hK:∀ An Bm z,Al hp nx An Bm->OL rInt An (λ_=>False) z []->(∀ j∈z.refs,nx<=j/\j<Bm)->K z An Bm):KW (kN (k+1)) (.fn 144) [Cb,iv (n:Nat)] hp nx K:=by
 refine Es (Hl (by decide)) XV (Ab rfl) λes e1 e2 he=>?_
 have a0:Ad es (.t .o)=Cb:=he 0 _ rfl
 have a1:Ad es (.t (.l .o))=iv (n:Nat):=he 1 _ rfl
 unfold FI
 subst e1 e2
 simp only [As,↓Au,bP,a0,a1,show decide ((n:Int)<0)=false from Ah (by omega)]
 refine Cm3 (by simp only [bR,bP]) ?_
 have bs:∀ m:Nat,m<900000->Dm .sub (iv (m:Nat)) (iv 0)=some (iv (m:Nat)):=λm hm=>by
  show some (DV.v (.int .i64 (IntKind.i64.wrap ((m:Int)-0))))=_
  rw [Int.sub_zero,Ej (by omega)]
 have b0:Dm .sub (iv 0) (iv 0)=some (iv 0):=bs 0 (by omega)
 have ln:Oc es.hp Cb=some (iv 0):=rfl
 by_cases h0:n=0
 .subst h0
  simp only [As,a0,ln,b0,show decide ((0:Int)<0)=false from rfl]
  exact hK _ _ Cb ⟨Ag _,λ_ _=>rfl⟩ .nil λj hj=>by cases hj
 .simp only [As,a0,ln,b0,bs n hn,Ak (show (0:Int)<(n:Int) by omega)]
  refine Cm3 (by simp only [bR,bP]) ?_
  refine E3 (R:=rInt) (p:=λ_=>False) (a:=0) (z:=0) (d:=Cb) (l:=[]) (by simp only [bR,bP]) .nil rfl rfl (λn hn=>by simp only [AG,Dc,bR,bP];rfl) (by omega) (by simp) ?_
  simp only [As,↓Au]
  refine C53 (n:=n) (by simp only [bR,bP];rfl) (by simp only [bR,bP]) (by omega) hn (by decide) (by decide) λEi Dn Dd=>?_
  simp only [bR] at Dn Dd
  simp only [As,a0,show Oc Ei Cb=some (iv 0) from rfl]
  show SW _ _ _ _
  refine C54 (id:=es.nx) (n:=n) (by simp only [bR,bP]) Dn (by simp only [bR,bP]) ?_
  simp only [As,↓Au,bP,Yb Dn]
  exact hK _ _ (.ms es.nx 0 0 1) ⟨by omega,λj hj=>Dd j (by omega)⟩ (.ms es.nx [] [] Dn rfl) λj hj=>by
   have:j=es.nx:=by simpa [DV.refs] using hj
   omega
theorem rows_iv{hp:Tr DObj}{p:Nat->Prop} : ∀ {l:List Int} {ds:List DV},Rows rInt hp p ds l↔ds=l.map iv
 | [],ds=>Dg
 | x::l,ds=>by
  constructor
  .rintro ⟨a,b,rfl,h1,h2⟩
   have:a=[iv x]:=h1
   rw [this,rows_iv.1 h2];rfl
  .intro h
   exact ⟨[iv x],l.map iv,h,rfl,rows_iv.2 rfl⟩
theorem Bc6{hp:Tr DObj}{p:Nat->Prop}{d:DV}{l:List (List Int)}(h:RL Po hp p d l){i:Nat}(hi:i<l.length):∃ a,RL rInt hp p a l[i]/\Fy hp none (Bz 1 d i)=some a/\Qu hp 1 d (.v (.int .i64 (i:Int)))=some (Bz 1 d i):=by
 obtain ⟨a,h1,h2⟩:=B85 h hi
 exact ⟨a,h1,h2,h.ia hi⟩
theorem VF{l:List (List Int)}{i:Nat}(hi:i<l.length):(l.take (i+1)).flatten=(l.take i).flatten++l[i]:=by
 rw [Ga hi,List.flatten_append];simp
theorem B35{l:List (List Int)}{i:Nat} : (l.take i).flatten.length<=l.flatten.length:=by
 have:l.flatten=(l.take i).flatten++(l.drop i).flatten:=by rw [<- List.flatten_append,Fe]
 rw [this,Ao];omega
theorem B36(n0:Nat)(d:DV)(ll:List (List Int))(hn:n0<=nx)(hd:RL Po hp (Bl n0) d ll)(hl:ll.flatten.length<900000)(RU:ll.length<900000)(hK:∀ An Bm z,Al hp nx An Bm->OL rInt An (λ_=>False) z ll.flatten->(∀ j∈z.refs,nx<=j/\j<Bm)->K z An Bm):KW (kN (k+2)) (.fn 94) [d] hp nx K:=by
 refine Es (Hl (by decide)) t94 (Ab rfl) λes e1 e2 he=>?_
 have a0:Ad es (.t .o)=d:=he 0 _ rfl
 unfold r94
 subst e1 e2
 simp only [As,↓Au,a0,hd.len]
 refine EW.up ll.length (λi Ai=>Ai.hp=es.hp/\Ai.nx=es.nx/\Ad Ai (.t .o)=d/\Ad Ai (.t (.l (.l .o)))=iv ((ll.take i).flatten.length:Nat)/\Ad Ai (.t (.l (.r (.l .o))))=d/\Ad Ai (.t (.r (.r (.l .o))))=iv ll.length/\Ad Ai (.t (.l (.l (.r .o))))=iv (i:Nat)) ?_ ⟨rfl,rfl,by simp only [bR,a0],by simp only [bR];rfl,by simp only [bR],by simp only [bR],by simp only [bR];rfl⟩ (by omega)
 rintro i Ai hi ⟨g1,g2,b0,b3,b9,b10,b11⟩
 unfold xT
 by_cases h:i<ll.length
 .have jZ:RL Po Ai.hp (Bl n0) d ll:=by rw [g1];exact hd
  obtain ⟨a,ra,la,ia⟩:=Bc6 jZ h
  have hle:=B35 (l:=ll) (i:=i+1)
  rw [VF h,Ao] at hle
  simp only [As,↓Au,b0,b3,b9,b10,b11,h,ia,la,ra.len,lW (show (ll.take i).flatten.length+ll[i].length<_ by omega),show decide ((((ll.take i).flatten.length+ll[i].length:Nat):Int)<0)=false from Ah (by omega),Hz (show i<_ by omega)]
  exact ⟨g1,g2,by rw [VF h,Ao]⟩
 .have Ic:i=ll.length:=by omega
  rw [Ic,List.take_length] at b3
  rw [<- g1,<- g2] at hK
  simp only [As,↓Au,b3,b10,b11,h]
  refine Fh (Cu8 (k:=k) _ _ _ _ hl λCw Dt z Rj oz hz=>?_)
  have Gu:=Rj.le
  have rF:RL Po Cw (Bl n0) d ll:=by
   have jZ:RL Po Ai.hp (Bl n0) d ll:=by rw [g1];exact hd
   exact jZ.ka (by omega) Rj
  simp only [As,↓Au,b0,rF.len]
  refine EW.up ll.length (λi Cd=>∃ z,Al Ai.hp Ai.nx Cd.hp Cd.nx/\OL rInt Cd.hp (λ_=>False) z (ll.take i).flatten/\(∀ j∈z.refs,Ai.nx<=j/\j<Cd.nx)/\Ad Cd (.t (.r (.r .o)))=z/\Ad Cd (.t (.l (.r (.l (.r .o)))))=d/\Ad Cd (.t (.r (.r (.l (.r .o)))))=iv ll.length/\Ad Cd (.t (.l (.l (.r (.r .o)))))=iv (i:Nat)) ?_ ⟨z,Rj,oz,hz,by simp only [bR],by simp only [bR],by simp only [bR],by simp only [bR];rfl⟩ (by omega)
  rintro i Cd hi ⟨z,g,ho,hz,c6,c25,tf,tc⟩
  unfold xS
  have hle:=g.le
  by_cases h:i<ll.length
  .have hd3:RL Po Cd.hp (Bl n0) d ll:=by
    have jZ:RL Po Ai.hp (Bl n0) d ll:=by rw [g1];exact hd
    exact jZ.ka (by omega) g
   obtain ⟨a,ra,la,ia⟩:=Bc6 hd3 h
   have qY:=B35 (l:=ll) (i:=i+1)
   rw [VF h,Ao] at qY
   simp only [As,↓Au,c6,c25,tf,tc,h,ia,la]
   refine eL (R:=rInt) (p:=λ_=>False) (p2:=λ_=>False) (d:=z) (d2:=a) (l:=(ll.take i).flatten) (m:=ll[i]) (by simp only [bR,bP]) ho (by simp only [Dc,bR,bP];exact ra.live) (by obtain ⟨ds,q1,q2⟩:=ra.srcD (es:=⟨_,Cd.hp,_⟩);exact ⟨ds,q1,rows_iv.2 (rows_iv.1 q2)⟩) rfl rfl (by omega) (by decide) λFq Fl h4=>?_
   simp only [bR] at Fl h4
   have o4:=h4 (λ_=>False) λj hj=>(hj.elim False.elim False.elim:False).elim
   simp only [As,↓Au,c25,tf,tc,h,Hz (show i<_ by omega)]
   refine ⟨_,⟨by omega,λj hj=>?_⟩,by rw [VF h];exact o4,λj hj=>?_,rfl⟩
   .rw [Fl j (by omega) λhh=>by have:=hz j hh;omega,g.same j hj]
   .obtain rfl:j=Cd.nx:=by simpa [DV.refs] using hj
    omega
  .have Ic:i=ll.length:=by omega
   rw [Ic,List.take_length] at ho
   simp only [As,↓Au,bP,c6,tf,tc,h,ho.rl.live]
   exact hK _ _ z g ho hz
def H0(S:GTree)(i:Nat):Nat:=((List.range i).map λj=>(S.chg j).length).sum
theorem yw{S:GTree}{i:Nat} : H0 S (i+1)=H0 S i+(S.chg i).length:=by
 unfold H0
 rw [Ih,Cn,List.sum_append];rfl
theorem Cu9{S:GTree}(h:S.OK)(i:Nat):(S.chg i).length<=512:=by
 unfold GTree.chg
 split
 .exact Fo _
 .have Mb:=vt (Hf [S.at' (S.sup (i+1)),S.at' (i+1)])
  have lE:(Hf [S.at' (S.sup (i+1)),S.at' (i+1)]).length<=Wg [S.at' (S.sup (i+1)),S.at' (i+1)]:=xn
  have nP:Wg [S.at' (S.sup (i+1)),S.at' (i+1)]=(S.at' (S.sup (i+1))).length+(S.at' (i+1)).length:=by simp [Wg]
  have:=(h.chk (i+1)).2.2
  have:=(h.chk (S.sup (i+1))).2.2
  omega
theorem Cm4{S:GTree}(h:S.OK):∀ i,H0 S i<=i*512
 | 0=>Ag _
 | i+1=>by
  rw [yw]
  have:=Cm4 h i
  have:=Cu9 h i
  omega
theorem B37{T H:Nat}{nd:DV}{S:GTree}(h:TreeG hp nx T H nd S)(hK:∀ An Bm,Al hp nx An Bm->K (iv (H0 S S.vers.length:Nat)) An Bm):KW (kN (k+2)) (.fn 35) [.pt T 0] hp nx K:=by
 refine Es (Hl (by decide)) t35 (Ab rfl) λes e1 e2 he=>?_
 have a0:Ad es (.t .o)=.pt T 0:=he 0 _ rfl
 unfold r35
 subst e1 e2
 obtain ⟨d,aa,z,hT,⟨_,f3,_,_⟩,⟨_,_,l3,_⟩,_⟩:=h.ld
 have r:=h.nl
 have hlen:Oc es.hp nd=some (.v (.int .i64 (S.vers.length:Int))):=by rw [r.len,S.nodes_len]
 have M9:=h.ok.n
 simp only [As,↓Au,a0]
 refine Fh (Yy k _ h ?_)
 simp only [As,↓Au,bP,a0,↓Zt,Vk hT,eJ,f3,l3,hlen]
 refine EW.up S.vers.length (λi Ai=>Al es.hp es.nx Ai.hp Ai.nx/\Ad Ai (.t (.l (.l .o)))=iv (H0 S i:Nat)/\Ad Ai (.t (.r (.l (.r .o))))=nd/\Ad Ai (.t (.l (.r (.r .o))))=iv S.vers.length/\Ad Ai (.t (.r (.r (.r .o))))=iv (i:Nat)) ?_ ⟨Al.refl _ _,by simp only [bR];rfl,by simp only [bR],by simp only [bR],by simp only [bR];rfl⟩ (by omega)
 rintro i Ai hi ⟨g,b3,Ny,Qq,b14⟩
 unfold yL
 have h1:=h.keep g
 have hle:=g.le
 by_cases Ic:i<S.vers.length
 .have r1:=h1.nl
  have Et:i<S.nodes.length:=by rw [S.nodes_len];exact Ic
  obtain ⟨a,b,ra,rb,_,_,_,_,_,aO,tA⟩:=h1.toC.ver Ic
  have hs:=Cm4 h.ok (i+1)
  rw [yw] at hs
  simp only [As,↓Au,Ny,Qq,b14,Ic,aO,tA]
  refine Rz λCw Fw Fa=>?_
  simp only [bR] at Fw Fa
  have k2:∀ j,j<Ai.nx->Cw.get j=Ai.hp.get j:=λj hj=>Fa j (by omega)
  have qQ:=ra.keep (An:=Cw) λj hj=>k2 j hj.1
  have sO:=rb.keep (An:=Cw) λj hj=>k2 j hj.1
  simp only [As,↓Au]
  refine Qx (n:=3) (id:=Ai.nx) (ds:=[a,b,bv (S.isG (i+1))]) (by simp only [bR]) Fw (by simp only [Ha,bR];exact VG (λid h=>(qQ.refs id h).2) (λid h=>(sO.refs id h).2)) rfl rfl λGn Kv Hy=>?_
  simp only [bR] at Kv Hy
  have k3:∀ j,j<Ai.nx->Gn.get j=Ai.hp.get j:=λj hj=>by rw [Hy j (by omega),k2 j hj]
  have EG:=ra.keep (An:=Gn) λj hj=>k3 j hj.1
  simp only [As,↓Au,b3,Ny,Qq,b14,iN (k:=0) Kv,show Fy Gn none (.pt Ai.nx 0)=some a from Od Kv rfl,EG.len,lW (show H0 S i+(S.chg i).length<_ by omega),Hz (show i<_ by omega)]
  exact ⟨Ic,g.new (by omega) λj hj=>k3 j (by omega),by rw [yw]⟩
 .have oN:i=S.vers.length:=by omega
  rw [oN] at b3
  simp only [As,↓Au,bP,b3,Qq,b14,Ic]
  exact hK _ _ g
end
end Go.DD

/- Maps from versions to their cells: what is found, what is put. A queue of numbers. Conditions: those that each theorem states. -/
namespace Go.DD
open Go Go.Proofs Go.Sort
def Fi(e:ME):Nat:=match e.k with
 | .int _ n=>n.toNat
 | _=>0
def MapC(hp:Tr DObj)(p:Nat->Prop)(F:Nat->List PCell)(es:List ME):Prop:=∀ e∈es,e.k=.int .i64 (Fi e:Nat)/\RL rCell hp p e.v (F (Fi e))
section
variable {hp An:Tr DObj} {p p':Nat->Prop} {F:Nat->List PCell} {es:List ME}
theorem MapC.keep(h:MapC hp p F es)(hk:∀ j,p j->An.get j=hp.get j):MapC An p F es:=λe he=>⟨(h e he).1,(h e he).2.keep hk⟩
theorem MapC.mono(h:MapC hp p F es)(hk:∀ j,p j->p' j):MapC hp p' F es:=λe he=>⟨(h e he).1,(h e he).2.mono hk⟩
theorem MapC.snoc(h:MapC hp p F es){v ck:Nat}{d:DV}(hd:RL rCell hp p d (F v)):MapC hp p F (es ++ [⟨.int .i64 (v:Nat),d,ck⟩]):=λe he=>(Ax.1 he).elim (h e) λhe=>by
 rw [Aj.1 he]
 exact ⟨rfl,hd⟩
theorem C55(a b:Nat):Oa (.p (.int .i64)) (.int .i64 (a:Int)) (.int .i64 (b:Int))=some (decide (a=b)):=by
 show (if IntKind.i64=IntKind.i64 then some ((a:Int)==(b:Int)) else none)=_
 rw [Af rfl]
 congr 1
 by_cases h:a=b
 .subst h;simp
 .have:¬ (a:Int)=(b:Int):=by omega
  simp [h,this]
theorem TM(v:Nat):∀ {es:List ME} (i:Nat),(∀ e∈es,e.k=.int .i64 (Fi e:Nat))->(v∉es.map Fi/\findD (.p (.int .i64)) (.int .i64 (v:Nat)) es i=some none)\/∃ j e,e∈es/\Fi e=v/\findD (.p (.int .i64)) (.int .i64 (v:Nat)) es i=some (some (i+j,e))
 | [],i,_=>.inl ⟨by simp,rfl⟩
 | e::es,i,h=>by
  have hf:findD (.p (.int .i64)) (.int .i64 (v:Nat)) (e::es) i=if v=Fi e then some (some (i,e)) else findD (.p (.int .i64)) (.int .i64 (v:Nat)) es (i+1):=by
   show (match Oa (.p (.int .i64)) (.int .i64 (v:Nat)) e.k with
    | some true=>some (some (i,e))
    | some false=>findD (.p (.int .i64)) (.int .i64 (v:Nat)) es (i+1)
    | none=>none)=_
   rw [h e (by simp),C55]
   by_cases hs:v=Fi e
   .rw [Ak hs,Af hs]
   .rw [Ah hs,Ae hs]
  by_cases hx:v=Fi e
  .exact .inr ⟨0,e,by simp,hx.symm,by rw [hf,Af hx];rfl⟩
  .rcases TM v (i+1) (λe he=>h e (Bh _ he)) with ⟨g1,g2⟩ | ⟨j,e',g1,g2,g3⟩
   .exact .inl ⟨by rw [Am,Ap];exact λh=>h.elim hx g1,by rw [hf,Ae hx,g2]⟩
   .exact .inr ⟨j+1,e',by simp [g1],g2,by rw [hf,Ae hx,g3,Pm,Wo 1 j]⟩
theorem HP{im ck v:Nat}{es':List ME}(h:hp.get im=some (.mapo ck es'))(hm:MapC hp p F es'):∃ d,Ql hp (.p (.int .i64)) (.slice none 0 0) (.mp im) (iv (v:Nat))=some d/\RL rCell hp p d (if v∈es'.map Fi then F v else []):=by
 have e:Ql hp (.p (.int .i64)) (.slice none 0 0) (.mp im) (iv (v:Nat))=(match findD (.p (.int .i64)) (.int .i64 (v:Nat)) es' 0 with
   | some (some p)=>some (Gm false p.2.v true)
   | some none=>some (Gm false Cb false)
   | none=>none):=by
  show (match hp.get im with
   | some (.mapo _ es)=>match findD (.p (.int .i64)) (.int .i64 (v:Nat)) es 0 with
    | some (some p)=>some (Gm false p.2.v true)
    | some none=>some (Gm false Cb false)
    | none=>none
   | _=>none)=_
  rw [h]
 rcases TM v 0 λe he=>(hm e he).1 with ⟨g1,g2⟩ | ⟨j,x,g1,g2,g3⟩
 .rw [e,g2]
  exact ⟨Cb,rfl,by rw [Ae g1];exact .nil⟩
 .rw [e,g3]
  refine ⟨x.v,rfl,?_⟩
  have:=(hm x g1).2
  rw [g2] at this
  rw [Af (Bn.2 ⟨x,g1,g2⟩)]
  exact this
section
variable {call:Bg} {es:ES} {dst:Option Pa} {q:Hold (ES->Prop)}
theorem B38{t u im ck v:Nat}{es':List ME}(e1:es.ds.ev (.tmp t)=.mp im)(hm:es.hp.get im=some (.mapo ck es'))(hk:MapC es.hp p F es')(e2:es.ds.ev (.tmp u)=iv (v:Nat))
  (h:∀ d,RL rCell es.hp p d (if v∈es'.map Fi then F v else [])->q.val (es.putE dst (.tup [d,bv (decide (v∈es'.map Fi))]))):Na (sU dst (Bi (.lkp (.p (.int .i64)) (.slice none 0 0) (.tmp t) (.tmp u) true))) call es:=by
 show SW _ _ _ _
 rw [sw_u,Ft]
 have e:Ba es.nx es.ds (.lkp (.p (.int .i64)) (.slice none 0 0) (.tmp t) (.tmp u) true)=(match findD (.p (.int .i64)) (.int .i64 (v:Nat)) es' 0 with
   | some (some p)=>some (Gm true p.2.v true,Upd.keep)
   | some none=>some (Gm true Cb false,Upd.keep)
   | none=>none):=by
  simp only [Ba,e1,e2]
  show (match es.hp.get im with
   | some (.mapo _ es)=>match findD (.p (.int .i64)) (.int .i64 (v:Nat)) es 0 with
    | some (some p)=>some (Gm true p.2.v true,Upd.keep)
    | some none=>some (Gm true Cb false,Upd.keep)
    | none=>none
   | _=>none)=_
  rw [hm]
 rcases TM v 0 λe he=>(hk e he).1 with ⟨g1,g2⟩ | ⟨j,x,g1,g2,g3⟩
 .have:=h Cb (by rw [Ae g1];exact .nil)
  rw [Ah g1] at this
  rw [e,g2]
  exact ⟨_,_,rfl,this⟩
 .have:=h x.v (by
   have:=(hk x g1).2
   rw [g2] at this
   rw [Af (Bn.2 ⟨x,g1,g2⟩)]
   exact this)
  rw [Ak (Bn.2 ⟨x,g1,g2⟩)] at this
  rw [e,g3]
  exact ⟨_,_,rfl,this⟩
theorem Cv0{t:Nat}{u w:Operand}{im ck v:Nat}{es':List ME}{d:DV}(e1:es.ds.ev (.tmp t)=.mp im)(hm:es.hp.get im=some (.mapo ck es'))(hk:MapC es.hp p F es')(e2:es.ds.ev u=iv (v:Nat))(e3:es.ds.ev w=d)(hv:v∉es'.map Fi)
  (h:∀ An,An.get im=some (.mapo (ck+1) (es' ++ [⟨.int .i64 (v:Nat),d,ck⟩]))->(∀ j,j≠im->An.get j=es.hp.get j)->q.val ((ES.mk es.sl An es.nx).putE dst .any)) :
  Na (sU dst (Bi (.mup (.p (.int .i64)) (.tmp t) u w))) call es:=by
 show SW _ _ _ _
 rw [sw_u,Ft]
 have h1:Mj (.p (.int .i64)) (.int .i64 (v:Nat)) d ck es'=some (ck+1,es' ++ [⟨.int .i64 (v:Nat),d,ck⟩]):=by
  rcases TM v 0 λe he=>(hk e he).1 with ⟨g1,g2⟩ | ⟨j,x,g1,g2,g3⟩
  .unfold Mj;rw [g2]
  .exact absurd (Bn.2 ⟨x,g1,g2⟩) hv
 obtain ⟨Cd,lM⟩:∃ Cd:List ME,Cd=es' ++ [⟨.int .i64 (v:Nat),d,ck⟩]:=⟨_,rfl⟩
 rw [<- lM] at h1
 refine ⟨.any,.wr im (.mapo (ck+1) Cd),?_,h (es.up (.wr im (.mapo (ck+1) Cd))).hp (by rw [Ld,get_set,Af rfl,lM]) λj hj=>by rw [Ld,get_set,Ae hj]⟩
 simp only [Ba,e1,e2,e3]
 show (match es.hp.get im with
  | some (.mapo ck es)=>match Mj (.p (.int .i64)) (.int .i64 (v:Nat)) d ck es with
   | some p=>some (DV.any,Upd.wr im (.mapo p.1 p.2))
   | none=>none
  | _=>none)=_
 rw [hm]
 simp only [h1]
end
end
inductive QL (hp:Tr DObj):DV->List Int->Prop
 | nil:QL hp Cb []
 | sl:QL hp (.sl [] 0) []
 | ms (id:Nat) (pre l:List Int) (h:hp.get id=some (.row rInt.T ((pre++l).map iv))):QL hp (.ms id pre.length l.length 1) l
section
variable {hp An:Tr DObj} {z:DV} {l:List Int}
theorem QL.rl(h:QL hp z l):RL rInt hp (λj=>j∈z.refs) z l:=by
 cases h with
 | nil=>exact .nil
 | sl=>exact .sl []
 | ms id pre l h=>
  refine .ms id pre.length _ l h (by simp [DV.refs]) (by show pre.length+l.length*1<=_;rw [Bp,Ao];omega) (rows_iv.2 ?_) λc hc=>?_
  .show (((pre++l).map iv).drop pre.length).take (l.length*1)=_
   rw [<- List.map_drop,List.drop_left,Bq (by rw [Bp];omega)]
  .obtain ⟨x,_,rfl⟩:=Bn.1 hc
   exact C15 5 _ _
theorem QL.keep(h:QL hp z l)(hk:∀ j∈z.refs,An.get j=hp.get j):QL An z l:=by
 cases h with
 | nil=>exact .nil
 | sl=>exact .sl
 | ms id pre l h=>exact .ms id pre l ((hk id (by simp [DV.refs])).trans h)
theorem QL.of(h:OL rInt hp (λ_=>False) z l):QL hp z l:=by
 cases h with
 | nil=>exact .nil
 | ms id fl l h hr=>
  rw [rows_iv.1 hr] at h
  exact .ms id [] l h
theorem QL.tail{x:Int}(h:QL hp z (x::l)):QL hp (lD 1 1 (x::l).length z) l:=by
 generalize hm:x::l=m at h
 cases h with
 | nil=>cases hm
 | sl=>cases hm
 | ms id pre m h=>
  subst hm
  show QL hp (if 1<(x::l).length\/1=0 then .ms id (pre.length+1*1) ((x::l).length-1) 1 else .sl [] 0) l
  by_cases hl:1<(x::l).length
  .rw [Af (.inl hl)]
   have:=QL.ms (hp:=hp) id (pre ++ [x]) l (by rw [Bv];exact h)
   rw [Ao] at this
   exact this
  .rw [Ae (by omega)]
   have:l=[]:=by cases l with
    | nil=>rfl
    | cons=>simp at hl
   rw [this]
   exact .sl
theorem WC{wc:Ko}{call:Bg}{es:ES}{R:ES->Prop}{T e b t:Nat}{u:Operand}{dst:Option Pa}{n:RE}{d2:DV}{x:Int}(e1:Ad es (.t (Cq t))=z)(hz:QL es.hp z l)(hl:l≠[])(e2:es.ds.ev u=d2)(hs:srcD es.ds rInt.T 1 d2=some ([iv x],1))(hT:T=rInt.T)(he:e=1)(hb:b<=65536)(hn:l.length<900000)
  (h:∀ An z',QL An z' (l ++ [x])->z'.refs=[es.nx]->(∀ j,j≠es.nx->j∉z.refs->An.get j=es.hp.get j)->n wc call ((ES.mk es.sl An (es.nx+1)).putE dst z') R):rA T e b (.tmp t) u dst n wc call es R:=by
 subst hT he
 cases hz with
 | nil=>exact absurd rfl hl
 | sl=>exact absurd rfl hl
 | ms id pre l hg=>
  have f1:es.ds.ev (.tmp t)=.ms id pre.length l.length 1:=by rw [kT,e1];exact Yb hg
  have hlen:((pre++l).map iv).length=pre.length+l.length:=by rw [Bp,Ao]
  have key:∀ (z':DV) (cs:List DV),(∀ An:Tr DObj,An.get es.nx=some (.row rInt.T cs)->QL An z' (l ++ [x]))->z'.refs=[es.nx]->n wc call ((ES.mk es.sl (Ka (Ka es.hp id none) es.nx (some (.row rInt.T cs))) (es.nx+1)).putE dst z') R:=λz' cs h1 h2=>h _ z' (h1 _ (by rw [get_set,Af rfl])) h2 λj hj Pj=>by
   rw [get_set,Ae hj,get_set,Ae λe=>Pj (by rw [e];simp [DV.refs])]
  by_cases h0:pre=[]
  .subst h0
   refine .inl ?_
   rw [sw_u,Ft]
   refine ⟨.ms es.nx 0 (l.length+1) 1,.mv (some id) (.row rInt.T (l.map iv ++ [iv x])),?_,?_⟩
   .simp only [Ba,f1,e2,hs]
    have:dstD es.ds rInt.T 1 (.ms id 0 l.length 1)=some (some id,l.map iv,l.length):=by
     show (match es.hp.get id with
     | some (.row T' cs)=>if T'=rInt.T/\1=1/\cs.length=l.length*1 then some (some id,cs,l.length) else none
     | _=>none)=_
     rw [hg]
     simp only []
     rw [Af ⟨trivial,trivial,by rw [hlen];show 0+_=_;omega⟩];rfl
    rw [show ([]:List Int).length=0 from rfl,this]
    simp only []
    rw [Af ⟨rfl,by omega,by omega,hb⟩]
   .refine key (.ms es.nx 0 (l.length+1) 1) _ (λAn aP=>?_) (by simp [DV.refs])
    have:=QL.ms (hp:=An) es.nx [] (l ++ [x]) (by rw [aP,By,Cn];rfl)
    rw [Ao] at this
    exact this
  .have Nr:0<pre.length:=Lu.2 h0
   have hc:(((pre++l).map iv).drop pre.length ++ [iv x])=([]++(l ++ [x])).map iv:=by
    rw [<- List.map_drop,List.drop_left,By,Cn];rfl
   have Xz:((pre++l).map iv ++ [iv x])=(pre++(l ++ [x])).map iv:=by
    rw [<- Bv,Cn (l₁:=pre++l)];rfl
   refine .inr ⟨[(.ms es.nx 0 (l.length+1) 1,.mv (some id) (.row rInt.T (((pre++l).map iv).drop pre.length ++ [iv x]))),(.ms es.nx pre.length (l.length+1) 1,.mv (some id) (.row rInt.T ((pre++l).map iv ++ [iv x])))],?_,?_⟩
   .unfold To
    simp only [f1,e2,hs]
    have Fw:es.ds.ho id=some (.row rInt.T ((pre++l).map iv)):=hg
    rw [Fw]
    simp only []
    rw [Af ⟨trivial,trivial,by omega,by rw [hlen];omega,rfl,by omega,by omega,by omega,hb⟩]
   .intro p hp
    rcases Ap.1 hp with rfl | hp
    .refine key _ _ (λAn aP=>?_) (by simp [DV.refs])
     have:=QL.ms (hp:=An) es.nx [] (l ++ [x]) (by rw [aP,hc])
     rw [Ao] at this
     exact this
    .rw [Aj.1 hp]
     refine key _ _ (λAn aP=>?_) (by simp [DV.refs])
     have:=QL.ms (hp:=An) es.nx pre (l ++ [x]) (by rw [aP,Xz])
     rw [Ao] at this
     exact this
end
end Go.DD

/- Contracts: the ancestors of a version. Conditions: those that each theorem states. -/
namespace Go.DD
open Go Go.Proofs Go.Sort
def Pq(o:List Bool):List Int->List Bool
 | []=>o
 | p::l=>Pq (o.set p.toNat true) l
theorem markL_len:∀ {l:List Int} {o:List Bool},(Pq o l).length=o.length
 | [],_=>rfl
 | _::l,_=>(markL_len (l:=l)).trans (Mg ..)
section
variable {call:Bg} {es:ES} {dst:Option Pa} {q:Hold (ES->Prop)}
theorem Cb6{x y:Operand}{n:Nat}(hx:es.ds.ev x=iv n)(hy:es.ds.ev y=iv n)(hn:n<=65536)
  (h:∀ An,An.get es.nx=some (.row 4 ((List.replicate n false).map bv))->(∀ j,j≠es.nx->An.get j=es.hp.get j)->q.val ((ES.mk es.sl An (es.nx+1)).putE dst (.ms es.nx 0 n 1))):Na (sU dst (Bi (.mks 4 1 1 [.bool false] x y))) call es:=by
 show SW _ _ _ _
 rw [sw_u,Ft]
 have e:(List.replicate n ([Value.bool false].map DV.v)).flatten=(List.replicate n false).map bv:=by
  clear h hx hy hn
  induction n with
  | zero=>rfl
  | succ n ih=>rw [Ix,List.flatten_cons,ih];rfl
 refine ⟨.ms es.nx 0 n 1,.lay (.row 4 ((List.replicate n false).map bv)),?_,?_⟩
 .simp only [Ba,hx,hy,iv,Ku]
  rw [Af ⟨by omega,by omega,by omega,by omega,rfl,by omega⟩,Ee,e]
 .exact h (es.up (.lay (.row 4 ((List.replicate n false).map bv)))).hp (by rw [Zu,get_set,Af rfl]) λj hj=>by rw [Zu,get_set,Ae hj]
end
theorem bY{hp:Tr DObj}{id n i:Nat}{o:DObj}(h:hp.get id=some o)(hi:i<n):Qu hp 1 (.ms id 0 n 1) (.v (.int .i64 (i:Int)))=some (.pt id i):=by
 have:=HZ (off:=0) (e:=1) h hi
 rw [Nat.mul_one,Df] at this
 exact this
theorem K6{hp:Tr DObj}{id i:Nat}{o:List Bool}(h:hp.get id=some (.row 4 (o.map bv)))(hi:i<o.length):Fy hp none (.pt id i)=some (bv o[i]):=Od h (by rw [Dr,Aa hi];rfl)
section
variable {hp:Tr DObj} {nx T H:Nat} {nd:DV} {S:PTree} (k:Nat) (K:DV->Tr DObj->Nat->Prop)
end
def Pu(x y:List Bool):Nat->Nat
 | 0=>0
 | v+1=>if x[v+1]?=some true/\y[v+1]?=some true then v+1 else Pu x y v
section
variable {hp:Tr DObj} {nx T H:Nat} {nd:DV} {S:PTree} (k:Nat) (K:DV->Tr DObj->Nat->Prop)
end
end Go.DD

/- Plain: a version's ancestors; the greatest common one. Conditions: those that each theorem states. -/
namespace Go.DD
open Go Go.Proofs Go.Sort
namespace GTree
def ancF(S:GTree):Nat->List Bool->List Bool
 | 0,o=>o
 | i+1,o=>ancF S i (if o[i+1]?=some true then Pq o (S.parG (i+1)) else o)
def anc(S:GTree)(v:Nat):List Bool:=S.ancF v ((List.replicate (S.vers.length+1) false).set v true)
def baseG(S:GTree)(a b:Nat):Nat:=Pu (S.anc a) (S.anc b) (min a b)
inductive Anc (S:GTree):Nat->Nat->Prop
 | refl (v:Nat):Anc S v v
 | step {v u:Nat} {q:Int} : q∈S.parG v->Anc S q.toNat u->Anc S v u
variable {S:GTree}
theorem Anc.le(hS:S.OK){v u:Nat}(h:S.Anc v u):1<=v->v<=S.vers.length->1<=u/\u<=v:=by
 induction h with
 | refl=>exact λh1 _=>⟨h1,Ag _⟩
 | step hq _ ih=>
  intro h1 h2
  have:=hS.p _ h1 h2 _ hq
  have:=ih (by omega) (by omega)
  omega
theorem ancF_len:∀ {i:Nat} {o:List Bool},(S.ancF i o).length=o.length
 | 0,_=>rfl
 | i+1,o=>(ancF_len (i:=i)).trans (by split <;> simp [markL_len])
theorem anc_len{v:Nat} : (S.anc v).length=S.vers.length+1:=ancF_len.trans (by simp)
theorem Bn5:∀ {l:List Int} {o:List Bool} {u:Nat},(∀ q∈l,q.toNat<o.length)->((Pq o l)[u]?=some true↔o[u]?=some true\/∃ q∈l,q.toNat=u)
 | [],o,u,_=>⟨.inl,λh=>h.elim id λ⟨_,h,_⟩=>nomatch h⟩
 | p::l,o,u,h=>by
  show (Pq (o.set p.toNat true) l)[u]?=some true↔_
  rw [Bn5 (l:=l) λq hq=>by rw [Mg];exact h q (by simp [hq])]
  have hp:=h p (by simp)
  constructor
  .rintro (h1 | ⟨q,hq,rfl⟩)
   .by_cases e:p.toNat=u
    .exact .inr ⟨p,by simp,e⟩
    .rw [Zy e] at h1;exact .inl h1
   .exact .inr ⟨q,by simp [hq],rfl⟩
  .rintro (h1 | ⟨q,hq,rfl⟩)
   .by_cases e:p.toNat=u
    .subst e;exact .inl (by rw [Wp hp])
    .exact .inl (by rw [Zy e];exact h1)
   .rcases Ap.1 hq with rfl | hq
    .exact .inl (by rw [Wp hp])
    .exact .inr ⟨q,hq,rfl⟩
theorem yv(hS:S.OK):∀ {i:Nat} {o:List Bool} {u:Nat},i<=S.vers.length->o.length=S.vers.length+1->((S.ancF i o)[u]?=some true↔o[u]?=some true\/∃ w,1<=w/\w<=i/\o[w]?=some true/\S.Anc w u)
 | 0,o,u,_,_=>⟨.inl,λh=>h.elim id λ⟨w,h1,h2,_⟩=>by omega⟩
 | i+1,o,u,hi,ho=>by
  show (S.ancF i (if o[i+1]?=some true then Pq o (S.parG (i+1)) else o))[u]?=some true↔_
  have aJ:∀ q∈S.parG (i+1),1<=q/\q<((i+1:Nat):Int):=hS.p (i+1) (by omega) hi
  by_cases h:o[i+1]?=some true
  .rw [Af h]
   have hm:∀ {u:Nat},(Pq o (S.parG (i+1)))[u]?=some true↔o[u]?=some true\/∃ q∈S.parG (i+1),q.toNat=u:=Bn5 λq hq=>by have:=aJ q hq;omega
   rw [yv hS (by omega) (markL_len.trans ho),hm]
   constructor
   .rintro ((h1 | ⟨q,hq,rfl⟩) | ⟨w,h1,h2,h3,h4⟩)
    .exact .inl h1
    .exact .inr ⟨i+1,by omega,Ag _,h,.step hq (.refl _)⟩
    .rcases hm.1 h3 with h3 | ⟨q,hq,rfl⟩
     .exact .inr ⟨w,h1,by omega,h3,h4⟩
     .exact .inr ⟨i+1,by omega,Ag _,h,.step hq h4⟩
   .rintro (h1 | ⟨w,h1,h2,h3,h4⟩)
    .exact .inl (.inl h1)
    .by_cases hw:w<=i
     .exact .inr ⟨w,h1,hw,hm.2 (.inl h3),h4⟩
     .obtain rfl:w=i+1:=by omega
      cases h4 with
      | refl=>exact .inl (.inl h)
      | step hq h5=>
       rename_i q
       have:=aJ q hq
       exact .inr ⟨q.toNat,by omega,by omega,hm.2 (.inr ⟨q,hq,rfl⟩),h5⟩
  .rw [Ae h,yv hS (by omega) ho]
   constructor
   .rintro (h1 | ⟨w,h1,h2,h3,h4⟩)
    .exact .inl h1
    .exact .inr ⟨w,h1,by omega,h3,h4⟩
   .rintro (h1 | ⟨w,h1,h2,h3,h4⟩)
    .exact .inl h1
    .by_cases hw:w<=i
     .exact .inr ⟨w,h1,hw,h3,h4⟩
     .obtain rfl:w=i+1:=by omega
      exact absurd h3 h
theorem Y3(hS:S.OK){v u:Nat}(h1:1<=v)(h2:v<=S.vers.length):(S.anc v)[u]?=some true↔S.Anc v u:=by
 have Iq:∀ {w:Nat},((List.replicate (S.vers.length+1) false).set v true)[w]?=some true↔w=v:=λ{w}=>by
  by_cases e:v=w
  .subst e
   rw [Wp (by simp;omega)]
   simp
  .rw [Zy e,Vo]
   constructor
   .intro h;split at h <;> cases h
   .intro h;exact absurd h.symm e
 unfold anc
 rw [yv hS h2 (by simp),Iq]
 constructor
 .rintro (rfl | ⟨w,_,_,h5,h6⟩)
  .exact .refl _
  .rw [Iq.1 h5] at h6;exact h6
 .intro h
  exact .inr ⟨v,h1,Ag _,Iq.2 rfl,h⟩
theorem Bn6{x y:List Bool} : ∀ {n:Nat},Pu x y n<=n/\(Pu x y n≠0->x[Pu x y n]?=some true/\y[Pu x y n]?=some true)/\∀ k,1<=k->k<=n->x[k]?=some true->y[k]?=some true->k<=Pu x y n
 | 0=>⟨Ag _,λh=>absurd rfl h,λk h1 h2=>by omega⟩
 | n+1=>by
  obtain ⟨a,b,c⟩:=Bn6 (x:=x) (y:=y) (n:=n)
  have e:Pu x y (n+1)=if x[n+1]?=some true/\y[n+1]?=some true then n+1 else Pu x y n:=rfl
  by_cases h:x[n+1]?=some true/\y[n+1]?=some true
  .rw [Af h] at e
   rw [e]
   exact ⟨Ag _,λ_=>h,λk _ h2 _ _=>h2⟩
  .rw [Ae h] at e
   rw [e]
   refine ⟨by omega,b,λk h1 h2 h3 h4=>?_⟩
   by_cases hk:k<=n
   .exact c k h1 hk h3 h4
   .obtain rfl:k=n+1:=by omega
    exact absurd ⟨h3,h4⟩ h
structure OKB (S:GTree):Prop where
 r:∀ v,2<=v->v<=S.vers.length->S.parG v≠[]
 b:∀ v w,1<=v->v<=S.vers.length->1<=w->w<=S.vers.length->S.isG v=false->S.isG w=false->S.isG (S.baseG v w)=false
theorem B39(hS:S.OK)(hr:∀ v,2<=v->v<=S.vers.length->S.parG v≠[]){v:Nat} : 1<=v->v<=S.vers.length->S.Anc v 1:=by
 induction v using Nat.strongRecOn with
 | _ v ih=>
  intro h1 h2
  by_cases h:v=1
  .subst h;exact .refl _
  .cases hp:S.parG v with
   | nil=>exact absurd hp (hr v (by omega) h2)
   | cons q l=>
    have hq:q∈S.parG v:=by rw [hp];simp
    have:=hS.p v h1 h2 q hq
    exact .step hq (ih q.toNat (by omega) (by omega) (by omega))
theorem base_spec(hS:S.OK)(hr:∀ v,2<=v->v<=S.vers.length->S.parG v≠[]){v w:Nat}(hv:1<=v/\v<=S.vers.length)(hw:1<=w/\w<=S.vers.length):(1<=S.baseG v w/\S.baseG v w<=v/\S.baseG v w<=w)/\S.Anc v (S.baseG v w)/\S.Anc w (S.baseG v w)/\∀ k,S.Anc v k->S.Anc w k->k<=S.baseG v w:=by
 obtain ⟨h1,h2,h3⟩:=Bn6 (x:=S.anc v) (y:=S.anc w) (n:=min v w)
 have one:=h3 1 (Ag _) (by omega) ((Y3 hS hv.1 hv.2).2 (B39 hS hr hv.1 hv.2)) ((Y3 hS hw.1 hw.2).2 (B39 hS hr hw.1 hw.2))
 have A0:S.baseG v w<=min v w:=h1
 have bd:1<=S.baseG v w:=one
 obtain ⟨a,b⟩:=h2 (by omega)
 refine ⟨⟨bd,by omega,by omega⟩,(Y3 hS hv.1 hv.2).1 a,(Y3 hS hw.1 hw.2).1 b,λk ha hb=>?_⟩
 have ka:=ha.le hS hv.1 hv.2
 have kb:=hb.le hS hw.1 hw.2
 exact h3 k ka.1 (by omega) ((Y3 hS hv.1 hv.2).2 ha) ((Y3 hS hw.1 hw.2).2 hb)
theorem base_self(hS:S.OK)(hr:∀ v,2<=v->v<=S.vers.length->S.parG v≠[]){v:Nat}(hv:1<=v/\v<=S.vers.length):S.baseG v v=v:=by
 obtain ⟨⟨_,h1,_⟩,_,_,h2⟩:=base_spec hS hr hv hv
 have:=h2 v (.refl _) (.refl _)
 omega
theorem base_comm(hS:S.OK)(hr:∀ v,2<=v->v<=S.vers.length->S.parG v≠[]){v w:Nat}(hv:1<=v/\v<=S.vers.length)(hw:1<=w/\w<=S.vers.length):S.baseG v w=S.baseG w v:=by
 obtain ⟨_,a1,a2,a3⟩:=base_spec hS hr hv hw
 obtain ⟨_,b1,b2,b3⟩:=base_spec hS hr hw hv
 have:=a3 _ b2 b1
 have:=b3 _ a2 a1
 omega
end GTree
end Go.DD

/- Plain: bases stay where a version is added; contracts of ancestors and base. Conditions: those that each theorem states. -/
namespace Go.DD
open Go Go.Proofs Go.Sort
namespace GTree
variable {S:GTree}
theorem base_uniq(hS:S.OK)(hr:∀ v,2<=v->v<=S.vers.length->S.parG v≠[]){v w k:Nat}(hv:1<=v/\v<=S.vers.length)(hw:1<=w/\w<=S.vers.length)(h1:S.Anc v k)(h2:S.Anc w k)(h3:∀ j,S.Anc v j->S.Anc w j->j<=k):S.baseG v w=k:=by
 obtain ⟨_,a1,a2,a3⟩:=base_spec hS hr hv hw
 have:=a3 _ h1 h2
 have:=h3 _ a1 a2
 omega
end GTree
section
variable {hp:Tr DObj} {nx T H:Nat} {nd:DV} {S:GTree} (k:Nat) (K:DV->Tr DObj->Nat->Prop)
theorem Cm5(v:Nat)(h:TreeG hp nx T H nd S)(hv:1<=v/\v<=S.vers.length)(hK:∀ An,Al hp nx An (nx+1)->An.get nx=some (.row 4 ((S.anc v).map bv))->K (.ms nx 0 (S.vers.length+1) 1) An (nx+1)):KW (kN (k+2)) (.fn 143) [.pt T 0,iv (v:Nat)] hp nx K:=by
 refine Es (Hl (by decide)) XX (Ab rfl) λes e1 e2 he=>?_
 have a0:Ad es (.t .o)=.pt T 0:=he 0 _ rfl
 have a1:Ad es (.t (.l .o))=iv (v:Nat):=he 1 _ rfl
 unfold FJ
 subst e1 e2
 obtain ⟨d,a,z,hT,⟨_,f3,_,_⟩,⟨_,_,l3,_⟩,_⟩:=h.ld
 have r:=h.nl
 have hlen:Oc es.hp nd=some (.v (.int .i64 (S.vers.length:Int))):=by rw [r.len,S.nodes_len]
 have M9:=h.ok.n
 simp only [As,↓Au,bP,a0,↓Zt,Vk hT,eJ,f3,l3,hlen,Hz (show S.vers.length<_ by omega),↓Cj2]
 refine Cb6 (n:=S.vers.length+1) (by simp only [Dc,bR,bP,Sa]) (by simp only [Dc,bR,bP,Sa]) (by omega) λEi Dn Dd=>?_
 simp only [bR] at Dn Dd
 simp only [As,↓Au,a1,bY Dn (show v<S.vers.length+1 by omega)]
 refine lS (id:=es.nx) (off:=v) (v:=bv true) (by simp only [bR]) Dn (by rfl) ⟨rfl,rfl⟩ (by rw [Bp,List.length_replicate];omega) λCw Fw Fa=>?_
 simp only [bR] at Fw Fa
 rw [<- List.map_set] at Fw
 have Rj:Al es.hp es.nx Cw (es.nx+1):=⟨by omega,λj hj=>by rw [Fa j (by omega),Dd j (by omega)]⟩
 simp only [As,↓Au,a1]
 refine EW.up v (λj Ai=>∃ o:List Bool,o.length=S.vers.length+1/\S.ancF (v-j) o=S.anc v/\Al es.hp es.nx Ai.hp Ai.nx/\Ai.nx=es.nx+1/\Ai.hp.get es.nx=some (.row 4 (o.map bv))/\Ad Ai (.t .o)=.pt T 0/\Ad Ai (.t (.l (.r .o)))=.ms es.nx 0 (S.vers.length+1) 1/\Ad Ai (.t (.r (.r .o)))=iv ((v-j:Nat):Int)) ?_ ⟨_,by simp,rfl,Rj,rfl,Fw,by simp only [bR,a0],by simp only [bR],by simp only [bR];rfl⟩ (by omega)
 rintro j Ai hj ⟨o,ho,hf,g,gn,gr,b0,b5,b6⟩
 unfold Cl6
 obtain ⟨i,hi⟩:∃ i,i=v-j:=⟨_,rfl⟩
 rw [<- hi] at hf b6
 have h1:=h.keep g
 have h2:=h.keep (An:=Ai.hp) (Bm:=es.nx) ⟨Ag _,g.same⟩
 cases i with
 | zero=>
  simp only [As,↓Au,bP,b5,b6,show decide ((0:Int)<0)=false from rfl,Yb gr]
  have e:=hK Ai.hp (gn ▸ g) (by rw [gr,<- hf];rfl)
  rw [gn]
  exact e
 | succ i=>
  have Ic:i+1<S.vers.length+1:=by omega
  have jk:i+1<o.length:=by omega
  have ia:=bY (i:=i+1) gr Ic
  have ld:=K6 gr jk
  by_cases hb:o[i+1]=true
  .rw [hb] at ld
   simp only [As,↓Au,b0,b5,b6,show decide ((0:Int)<((i+1:Nat):Int))=true from Ak (by omega),ia,ld]
   refine Fh (wz k _ (i+1) h1 ⟨by omega,by omega⟩ ?_)
   obtain ⟨a',b',_,rb,⟨lv,nc⟩,⟨_,f1,_⟩,_,l1,_⟩:=h2.ver (v:=i+1) ⟨by omega,by omega⟩
   have qU:∀ q∈S.parG (i+1),1<=q/\q<=(i:Nat):=λq hq=>by
    have:=h.ok.p (i+1) (by omega) (by omega) q hq
    omega
   have M5:(S.parG (i+1)).length<10:=by
    show (match S.vers[i]? with
     | some x=>x.par
     | none=>[]).length<10
    cases hx:S.vers[i]? with
    | none=>exact Nat.zero_lt_succ _
    | some x=>exact h.ok.l x (Aw hx)
   obtain ⟨ps,aJ⟩:∃ ps,S.parG (i+1)=ps:=⟨_,rfl⟩
   rw [aJ] at rb qU M5
   simp only [As,↓Au,bP,↓Zt,lv,nc,f1,l1,rb.len]
   refine EW.up ps.length (λt Cd=>∃ o2:List Bool,o2.length=S.vers.length+1/\Pq o2 (ps.drop t)=Pq o ps/\Al es.hp es.nx Cd.hp Cd.nx/\Cd.nx=es.nx+1/\Cd.hp.get es.nx=some (.row 4 (o2.map bv))/\RL rInt Cd.hp (λj=>j<es.nx) b' ps/\Ad Cd (.t .o)=.pt T 0/\Ad Cd (.t (.l (.r .o)))=.ms es.nx 0 (S.vers.length+1) 1/\Ad Cd (.t (.r (.r .o)))=iv ((i+1:Nat):Int)/\Ad Cd (.t (.l (.r (.l (.l (.l .o))))))=b'/\Ad Cd (.t (.r (.r (.l (.l (.l .o))))))=iv (ps.length:Nat)/\Ad Cd (.t (.l (.l (.r (.l (.l .o))))))=iv (t:Nat)) ?_ ⟨o,ho,rfl,g,gn,gr,rb.mono λj hj=>hj.1,by simp only [bR,b0],by simp only [bR,b5],by simp only [bR,b6],by simp only [bR],by simp only [bR],by simp only [bR];rfl⟩ (by omega)
   rintro t Cd ht ⟨o2,gY,lL,g2,gn2,nh,sO,c0,c5,c6,c33,ta,sy⟩
   unfold Cl5
   by_cases bC:t<ps.length
   .obtain ⟨n,hn⟩:=Vt (show 0<=ps[t] by have:=qU _ (Be bC);omega)
    have Xh:=qU _ (Be bC)
    have hd:ps.drop t=(n:Int)::ps.drop (t+1):=by rw [Bb bC,hn]
    have ia2:Qu Cd.hp 1 b' (.v (.int .i64 (t:Int)))=some (Bz 1 b' t):=sO.ia bC
    have li2:=ints_at sO bC
    rw [hn] at li2 Xh
    simp only [As,↓Au,c5,c33,ta,sy,bC,ia2,li2,bY nh (show n<S.vers.length+1 by omega)]
    refine lS (id:=es.nx) (off:=n) (v:=bv true) (by simp only [bR]) nh (by rfl) ⟨rfl,rfl⟩ (by rw [Bp];omega) λGn Kv Hy=>?_
    simp only [bR] at Kv Hy
    rw [<- List.map_set] at Kv
    simp only [As,↓Au,c0,c5,c6,c33,ta,sy,Hz (show t<_ by omega)]
    exact ⟨bC,o2.set n true,by simp [gY],by rw [<- lL,hd];rfl,⟨g2.le,λj hj=>by rw [Hy j (by omega),g2.same j hj]⟩,gn2,Kv,sO.keep λj hj=>Hy j (by omega)⟩
   .have LH:o2=Pq o ps:=by
     rw [<- lL,Bc (by omega)];rfl
    simp only [As,↓Au,c0,c5,c6,ta,sy,bC,D8 (i+1) (by omega) (by omega)]
    refine ⟨by omega,o2,gY,?_,g2,gn2,nh,by rw [show i+1-1=v-(j+1) by omega]⟩
    rw [show v-(j+1)=i by omega,<- hf,LH,<- aJ]
    show _=S.ancF i (if o[i+1]?=some true then Pq o (S.parG (i+1)) else o)
    rw [Aa jk,hb,Af rfl]
  .have hbf:o[i+1]=false:=by simpa using hb
   rw [hbf] at ld
   simp only [As,↓Au,b0,b5,b6,show decide ((0:Int)<((i+1:Nat):Int))=true from Ak (by omega),ia,ld,D8 (i+1) (by omega) (by omega)]
   refine ⟨by omega,o,ho,?_,g,gn,gr,by rw [show i+1-1=v-(j+1) by omega]⟩
   rw [show v-(j+1)=i by omega,<- hf]
   show _=S.ancF i (if o[i+1]?=some true then Pq o (S.parG (i+1)) else o)
   rw [Aa jk,hbf,Ae (by simp)]
end
section
variable {hp:Tr DObj} {nx T H:Nat} {nd:DV} {S:GTree} (k:Nat) (K:DV->Tr DObj->Nat->Prop)
theorem Cv1(a b:Nat)(h:TreeG hp nx T H nd S)(ha:1<=a/\a<=S.vers.length)(hb:1<=b/\b<=S.vers.length)(hz:S.baseG a b≠0)(hK:∀ An Bm,Al hp nx An Bm->K (iv (S.baseG a b:Nat)) An Bm):KW (kN (k+3)) (.fn 87) [.pt T 0,iv (a:Nat),iv (b:Nat)] hp nx K:=by
 refine Es (Hl (by decide)) t87 (Ab rfl) λes e1 e2 he=>?_
 have a0:Ad es (.t .o)=.pt T 0:=he 0 _ rfl
 have a1:Ad es (.t (.l .o))=iv (a:Nat):=he 1 _ rfl
 have a2:Ad es (.t (.r .o))=iv (b:Nat):=he 2 _ rfl
 unfold r87
 subst e1 e2
 have M9:=h.ok.n
 simp only [As,↓Au,a0,a1]
 refine Fh (Cm5 k _ a h ha λEi Zs g1=>?_)
 simp only [As,↓Au,a0,a2]
 refine Fh (Cm5 k _ b (h.keep Zs) hb λCw Rj g2=>?_)
 have g12:=(Rj.same es.nx (by omega)).trans g1
 simp only [As,↓Au,bP,a1,a2,Cg6]
 refine EW.up (min a b) (λj Ai=>Al es.hp es.nx Ai.hp Ai.nx/\Ai.hp.get es.nx=some (.row 4 ((S.anc a).map bv))/\Ai.hp.get (es.nx+1)=some (.row 4 ((S.anc b).map bv))/\Pu (S.anc a) (S.anc b) (min a b-j)=S.baseG a b/\Ad Ai (.t (.l (.l (.l .o))))=.ms es.nx 0 (S.vers.length+1) 1/\Ad Ai (.t (.r (.l (.l .o))))=.ms (es.nx+1) 0 (S.vers.length+1) 1/\Ad Ai (.t (.l (.r (.l .o))))=iv ((min a b-j:Nat):Int)) ?_ ⟨Zs.trans Rj,g12,g2,rfl,by simp only [bR],by simp only [bR],by simp only [bR];show DV.v _=DV.v _;congr 2;omega⟩ (by omega)
 rintro j Ai hj ⟨g,r1,r2,LR,b7,b8,b9⟩
 unfold xU
 obtain ⟨i,hi⟩:∃ i,i=min a b-j:=⟨_,rfl⟩
 rw [<- hi] at LR b9
 cases i with
 | zero=>exact absurd LR.symm hz
 | succ i=>
  have l1:i+1<(S.anc a).length:=by rw [GTree.anc_len];omega
  have l2:i+1<(S.anc b).length:=by rw [GTree.anc_len];omega
  have i1:=bY (n:=S.vers.length+1) (i:=i+1) r1 (by omega)
  have i2:=bY (n:=S.vers.length+1) (i:=i+1) r2 (by omega)
  have d1:=K6 r1 l1
  have d2:=K6 r2 l2
  have hF:Pu (S.anc a) (S.anc b) (i+1)=if (S.anc a)[i+1]?=some true/\(S.anc b)[i+1]?=some true then i+1 else Pu (S.anc a) (S.anc b) i:=rfl
  rw [Aa l1,Aa l2] at hF
  cases c1:(S.anc a)[i+1] with
  | true=>
   rw [c1] at d1 hF
   cases c2:(S.anc b)[i+1] with
   | true=>
    rw [c2] at d2 hF
    rw [Af ⟨rfl,rfl⟩] at hF
    simp only [As,↓Au,bP,b7,b8,b9,i1,i2,d1,d2]
    rw [LR.symm.trans hF] at hK
    exact hK _ _ g
   | false=>
    rw [c2] at d2 hF
    rw [Ae (by simp)] at hF
    simp only [As,↓Au,b7,b8,b9,i1,i2,d1,d2,D8 (i+1) (by omega) (by omega)]
    refine ⟨by omega,g,r1,r2,?_,by rw [show i+1-1=min a b-(j+1) by omega]⟩
    rw [show min a b-(j+1)=i by omega,<- hF,LR]
  | false=>
   rw [c1] at d1 hF
   rw [Ae (by simp)] at hF
   simp only [As,↓Au,b7,b8,b9,i1,d1,D8 (i+1) (by omega) (by omega)]
   refine ⟨by omega,g,r1,r2,?_,by rw [show i+1-1=min a b-(j+1) by omega]⟩
   rw [show min a b-(j+1)=i by omega,<- hF,LR]
end
end Go.DD

/- Plain: versions are marked as gone; the trees of one branch. Conditions: those that each theorem states. -/
namespace Go.DD
open Go Go.Proofs Go.Sort
namespace GTree
variable {S:GTree} {P Q:Nat->Bool}
def mark(S:GTree)(P:Nat->Bool):GTree:={ S with vers:=S.vers.mapIdx λi x=>⟨x.cells,x.par,x.gone||P (i+1)⟩ }
theorem mark_len:(S.mark P).vers.length=S.vers.length:=List.length_mapIdx
theorem uT(v:Nat):(S.mark P).vers[v]?=(S.vers[v]?).map λx=>⟨x.cells,x.par,x.gone||P (v+1)⟩:=List.getElem?_mapIdx
theorem mark_at{v:Nat} : (S.mark P).at' v=S.at' v/\(S.mark P).parG v=S.parG v:=by
 cases v with
 | zero=>exact ⟨rfl,rfl⟩
 | succ v=>
  have e:=uT (S:=S) (P:=P) v
  constructor
  .show (match (S.mark P).vers[v]? with
    | some x=>x.cells
    | none=>[])=match S.vers[v]? with
    | some x=>x.cells
    | none=>[]
   rw [e]
   cases S.vers[v]? <;> rfl
  .show (match (S.mark P).vers[v]? with
    | some x=>x.par
    | none=>[])=match S.vers[v]? with
    | some x=>x.par
    | none=>[]
   rw [e]
   cases S.vers[v]? <;> rfl
theorem mark_is{v:Nat}(h1:1<=v)(h2:v<=S.vers.length):(S.mark P).isG v=(S.isG v||P v):=by
 obtain ⟨v,rfl⟩:∃ w,v=w+1:=⟨v-1,by omega⟩
 have e:=uT (S:=S) (P:=P) v
 show (match (S.mark P).vers[v]? with
  | some x=>x.gone
  | none=>false)=((match S.vers[v]? with
  | some x=>x.gone
  | none=>false)||P (v+1))
 rw [e,Aa (by omega:v<S.vers.length)];rfl
theorem vers_ext{A B:GTree}(h1:A.dims=B.dims)(h2:A.attrs=B.attrs)(h3:A.heads=B.heads)(h:A.vers=B.vers):A=B:=by
 cases A;cases B
 cases h1;cases h2;cases h3;cases h;rfl
theorem mark_congr(h:∀ v,1<=v->v<=S.vers.length->S.isG v=false->P v=Q v):S.mark P=S.mark Q:=by
 have:(S.mark P).vers=(S.mark Q).vers:=Ik λv=>by
  rw [uT,uT]
  cases hx:S.vers[v]? with
  | none=>rfl
  | some x=>
   have hl:=(Aq.1 hx).1
   have hg:S.isG (v+1)=x.gone:=by
    show (match S.vers[v]? with
     | some x=>x.gone
     | none=>false)=_
    rw [hx]
   have hh:=h (v+1) (by omega) (by omega)
   rw [hg] at hh
   show some (⟨x.cells,x.par,x.gone||P (v+1)⟩:GVer)=some ⟨x.cells,x.par,x.gone||Q (v+1)⟩
   cases hgo:x.gone with
   | true=>rfl
   | false=>rw [hh hgo]
 exact vers_ext rfl rfl rfl this
theorem mark_none(h:∀ v,1<=v->v<=S.vers.length->S.isG v=false->P v=false):S.mark P=S:=by
 rw [mark_congr (Q:=λ_=>false) h]
 have:(S.mark λ_=>false).vers=S.vers:=Ik λv=>by
  rw [uT]
  cases S.vers[v]? with
  | none=>rfl
  | some x=>show some (⟨x.cells,x.par,x.gone||false⟩:GVer)=some x;rw [Bool.or_false]
 exact vers_ext rfl rfl rfl this
theorem mark_mark:(S.mark P).mark Q=S.mark λv=>P v||Q v:=by
 have:((S.mark P).mark Q).vers=(S.mark λv=>P v||Q v).vers:=Ik λv=>by
  rw [uT,uT,uT]
  cases S.vers[v]? with
  | none=>rfl
  | some x=>show some (⟨x.cells,x.par,(x.gone||P (v+1))||Q (v+1)⟩:GVer)=some ⟨x.cells,x.par,x.gone||(P (v+1)||Q (v+1))⟩;rw [Bool.or_assoc]
 exact vers_ext rfl rfl rfl this
theorem mark_ok(h:S.OK)(hP:∀ x∈S.heads,P x.2.toNat=false):(S.mark P).OK:=by
 have mem:∀ x∈(S.mark P).vers,∃ y∈S.vers,x.cells=y.cells/\x.par=y.par:=λx hx=>by
  obtain ⟨i,hi,rfl⟩:=Em hx
  have Wj:i<S.vers.length:=by rw [mark_len] at hi;exact hi
  have e:=uT (S:=S) (P:=P) i
  rw [Aa hi,Aa Wj] at e
  have e':=Hc e
  exact ⟨_,Be Wj,by rw [e'],by rw [e']⟩
 refine ⟨λx hx=>?_,h.z,λv h1 h2 q hq=>?_,by rw [mark_len];exact h.n,λx hx=>?_,λx hx=>?_⟩
 .obtain ⟨y,hy,e,_⟩:=mem x hx
  rw [e];exact h.c y hy
 .rw [mark_len] at h2
  rw [mark_at.2] at hq
  exact h.p v h1 h2 q hq
 .obtain ⟨y,hy,_,e⟩:=mem x hx
  rw [e];exact h.l y hy
 .obtain ⟨a,b,c⟩:=h.h x hx
  refine ⟨a,by rw [mark_len];exact b,?_⟩
  rw [mark_is (by omega) (by omega),c,hP x hx];rfl
def newG(S:GTree)(P:Nat->Bool)(i:Nat):Nat:=((List.range i).filter λj=>P (j+1) && !S.isG (j+1)).length
theorem newG_succ{i:Nat} : S.newG P (i+1)=S.newG P i+if (P (i+1) && !S.isG (i+1))=true then 1 else 0:=by
 unfold newG
 rw [Ih,Jn,Ao]
 congr 1
 cases h:(P (i+1) && !S.isG (i+1)) with
 | true=>rw [Af rfl,Pe,Af h];rfl
 | false=>rw [Ae (by simp),Pe,Ae (by rw [h];simp)];rfl
theorem newG_le{i:Nat} : S.newG P i<=i:=by
 unfold newG
 exact Dz (Ot _ _) (by rw [Ep];exact Ag _)
end GTree
end Go.DD

/- A node's cells are written. Conditions: those that each theorem states. -/
namespace Go.DD
open Go Go.Proofs Go.Sort
theorem yu{α:Type}{R:Rep α}{hp:Tr DObj}{p:Nat->Prop}{k:Nat}{a:DV}{y:α}(hk:k<R.e):∀ {l:List α} {fl:List DV} {i:Nat} (hi:i<l.length),Rows R hp p fl l->(∀ ds,R.rd hp p ds l[i]->R.rd hp p (ds.set k a) y)->Rows R hp p (fl.set (i*R.e+k) a) (l.set i y)
 | [],_,i,hi,_,_=>absurd hi (Gh i)
 | x::l,fl,0,_,⟨ds,b,e,h1,h2⟩,hy=>by
  subst e
  refine ⟨ds.set k a,b,?_,hy ds h1,h2⟩
  rw [Nat.zero_mul,Df,List.set_append_left _ _ (by rw [R.len h1];exact hk)]
 | x::l,fl,i+1,hi,⟨ds,b,e,h1,h2⟩,hy=>by
  subst e
  refine ⟨ds,b.set (i*R.e+k) a,?_,h1,yu hk (Nat.lt_of_succ_lt_succ hi) h2 hy⟩
  rw [List.set_append_right _ _ (by rw [R.len h1,Dq];omega),R.len h1]
  congr 2
  rw [Dq];omega
section
variable {hp:Tr DObj} {B:Nat->Prop} {T H:Nat} {nd:DV} {S:GTree} {ch:Nat->List PCell}
theorem TreeC.row(h:TreeC hp B T H nd S ch)(hn:0<S.vers.length):∃ id fl,nd=.ms id 0 S.vers.length 3/\hp.get id=some (.row 136 fl)/\fl.length=S.vers.length*3/\B id/\id≠T/\id≠H/\Rows rNode hp (λj=>B j/\j≠T/\j≠H/\j∉nd.refs) fl ((List.range S.vers.length).map λi=>⟨ch i,S.parG (i+1),S.isG (i+1)⟩):=by
 have hh:=h.n
 have hr:=h.nr
 generalize hl:(List.range S.vers.length).map (λi=>(⟨ch i,S.parG (i+1),S.isG (i+1)⟩:PNode))=l at hh
 have e:l.length=S.vers.length:=by rw [<- hl,Bp,Ep]
 generalize Nr:(λj=>B j/\j≠T/\j≠H/\j∉nd.refs)=p at hh
 cases hh with
 | nil=>rw [<- e] at hn;cases hn
 | ms id fl l hg hR=>
  have hlen:=hR.len
  rw [e] at hlen
  obtain ⟨a,b,c⟩:=hr id (by simp [DV.refs])
  subst Nr
  exact ⟨id,fl,by rw [e];rfl,hg,hlen,a,b,c,by rw [<- hl] at hR;rw [<- hl];exact hR⟩
theorem TreeC.set0(h:TreeC hp B T H nd S ch){i:Nat}(hi:i<S.vers.length){a:DV}{c:List PCell}(ha:RL rChange hp (λj=>B j/\j≠T/\j≠H/\j∉nd.refs) a c){id:Nat}{fl:List DV}(e1:nd=.ms id 0 S.vers.length 3)(hg:hp.get id=some (.row 136 fl)){An:Tr DObj}(h1:An.get id=some (.row 136 (fl.set (i*3) a)))(h2:∀ j,j≠id->An.get j=hp.get j):TreeC An B T H nd S (λj=>if j=i then c else ch j):=by
 obtain ⟨Vy,fl',kJ,aP,hlen,k1,k2,k3,hR⟩:=h.row (by omega)
 have:Vy=id:=by
  rw [e1] at kJ
  injection kJ with q1
  exact q1.symm
 subst this
 rw [hg] at aP
 injection aP with q
 injection q with _ q
 subst q
 have kp:∀ j,(B j/\j≠T/\j≠H/\j∉nd.refs)->An.get j=hp.get j:=λj hj=>h2 j λe=>hj.2.2.2 (by rw [e1,e];simp [DV.refs])
 obtain ⟨d,aa,z,r1,r2,r3,r4⟩:=h.r
 obtain ⟨ck,es,m1,m2⟩:=h.m
 refine ⟨h.th,⟨d,aa,z,(h2 _ (Eo k2)).trans r1,r2.keep kp,r3.keep kp,r4.keep kp⟩,⟨ck,es,(h2 _ (Eo k3)).trans m1,m2⟩,?_,h.nr,h.ok⟩
 have hl:((List.range S.vers.length).map λi=>(⟨ch i,S.parG (i+1),S.isG (i+1)⟩:PNode)).length=S.vers.length:=by rw [Bp,Ep]
 have:=yu (R:=rNode) (k:=0) (a:=a) (y:=⟨c,S.parG (i+1),S.isG (i+1)⟩) (by decide) (by rw [hl];exact hi) hR λds hd=>by
  rw [Ey,Ht] at hd
  obtain ⟨x,y,rfl,q1,q2⟩:=rNode_rd.1 hd
  exact rNode_rd.2 ⟨a,y,rfl,ha,q2⟩
 have e3:((List.range S.vers.length).map λi=>(⟨ch i,S.parG (i+1),S.isG (i+1)⟩:PNode)).set i ⟨c,S.parG (i+1),S.isG (i+1)⟩=(List.range S.vers.length).map λj=>(⟨if j=i then c else ch j,S.parG (j+1),S.isG (j+1)⟩:PNode):=by
  refine Iy (by simp) λn n1 n2=>?_
  rw [Pd,Ey,Ey,Ht]
  by_cases bD:i=n
  .subst bD;rw [Af rfl,Af rfl]
  .rw [Ae bD,Ae (Eo bD)]
 rw [e3] at this
 have h3:An.get Vy=some (.row rNode.T (fl.set (i*3) a)):=h1
 have:=OL.ms (R:=rNode) Vy _ _ h3 (this.keep kp)
 rw [Bp,Ep] at this
 rw [e1]
 rw [e1] at this
 exact this
theorem TreeC.set2(h:TreeC hp B T H nd S ch){i:Nat}(hi:i<S.vers.length)(Ph:(S.mark λv=>v==i+1).OK){id:Nat}{fl:List DV}(e1:nd=.ms id 0 S.vers.length 3)(hg:hp.get id=some (.row 136 fl)){An:Tr DObj}(h1:An.get id=some (.row 136 (fl.set (i*3+2) (bv true))))(h2:∀ j,j≠id->An.get j=hp.get j):TreeC An B T H nd (S.mark λv=>v==i+1) ch:=by
 obtain ⟨Vy,fl',kJ,aP,hlen,k1,k2,k3,hR⟩:=h.row (by omega)
 have:Vy=id:=by
  rw [e1] at kJ
  injection kJ with q1
  exact q1.symm
 subst this
 rw [hg] at aP
 injection aP with q
 injection q with _ q
 subst q
 have kp:∀ j,(B j/\j≠T/\j≠H/\j∉nd.refs)->An.get j=hp.get j:=λj hj=>h2 j λe=>hj.2.2.2 (by rw [e1,e];simp [DV.refs])
 obtain ⟨d,aa,z,r1,r2,r3,r4⟩:=h.r
 obtain ⟨ck,es,m1,m2⟩:=h.m
 refine ⟨h.th,⟨d,aa,z,(h2 _ (Eo k2)).trans r1,r2.keep kp,r3.keep kp,r4.keep kp⟩,⟨ck,es,(h2 _ (Eo k3)).trans m1,m2⟩,?_,h.nr,Ph⟩
 have hl:((List.range S.vers.length).map λi=>(⟨ch i,S.parG (i+1),S.isG (i+1)⟩:PNode)).length=S.vers.length:=by rw [Bp,Ep]
 have:=yu (R:=rNode) (k:=2) (a:=bv true) (y:=⟨ch i,S.parG (i+1),true⟩) (by decide) (by rw [hl];exact hi) hR λds hd=>by
  rw [Ey,Ht] at hd
  obtain ⟨x,y,rfl,q1,q2⟩:=rNode_rd.1 hd
  exact rNode_rd.2 ⟨x,y,rfl,q1,q2⟩
 have e3:((List.range S.vers.length).map λi=>(⟨ch i,S.parG (i+1),S.isG (i+1)⟩:PNode)).set i ⟨ch i,S.parG (i+1),true⟩=(List.range (S.mark λv=>v==i+1).vers.length).map λj=>(⟨ch j,(S.mark λv=>v==i+1).parG (j+1),(S.mark λv=>v==i+1).isG (j+1)⟩:PNode):=by
  refine Iy (by simp [GTree.mark_len]) λn n1 n2=>?_
  have hn:n<S.vers.length:=by simpa using n1
  rw [Pd,Ey,Ey,Ht,Ht,GTree.mark_at.2,GTree.mark_is (by omega) (by omega)]
  by_cases bD:i=n
  .subst bD;rw [Af rfl];simp
  .rw [Ae bD]
   have:((n+1==i+1):Bool)=false:=by simp;omega
   rw [this,Bool.or_false]
 rw [e3] at this
 have h3:An.get Vy=some (.row rNode.T (fl.set (i*3+2) (bv true))):=h1
 have:=OL.ms (R:=rNode) Vy _ _ h3 (this.keep kp)
 rw [Bp,Ep,GTree.mark_len] at this
 rw [e1]
 rw [e1] at this
 show OL rNode An _ _ ((List.range (S.mark λv=>v==i+1).vers.length).map λj=>(⟨ch j,(S.mark λv=>v==i+1).parG (j+1),(S.mark λv=>v==i+1).isG (j+1)⟩:PNode))
 rw [GTree.mark_len]
 exact this
end
end Go.DD

/- The code of functions with more than one outcome: printed by a program out of the translation. -/
namespace Go.DD
noncomputable section
open Pa
instance NI : Coe Pa EO := ⟨EO.t⟩
instance NH : Coe Pa (Nat -> XP) := ⟨λp _ es => some (Ad es (.t p))⟩
open Go
set_option maxRecDepth 100000
def Cm6:CE:=(cT [(sX "<" (Ar .lss "9" "="))] (cS (cC "<" (cE .normal) (cE (.exit 0))) (cS (cB 1 (cT [(sX "?" (Fg 1 "5" "9")),(sX "@" (Cf none "?")),(sM ")" "@")] (cT [(sM "A" o),(sM "B" ")"),(Bj 84 ["A","B"] "C"),(sM "(" "C")] (cT [(sM "D" "("),(sX "F" (Ar
 .neq "D" (0:Int)))] (cC "F" (cT [(sM "G" "("),(sM "!" (0:Int)),(sM "&" "G")] (cE .ret)) (cE .normal)))))) (cN (sL [(sX "I" (Ar .add "9" (1:Int))),(sM "9" "I")])))))
def wy:CE:=(cT [(sX "am" (Ar .lss "p" "w"))] (cS (cC "am" (cE .normal) (cE (.exit 6))) (cS (cB 7 (cT [(sM "r" "p"),(sM "4" "r")] (cT [(sM "ac" "*"),(sM "ad" "4"),(sX "ae" (Ar .add "ad" (1:Int))),(sU "m" (Bi (.lkp (.p (.int .i64)) (.slice none 0 0)
 (.tmp 89) (.tmp 91) true))),(sM "ab" "m"),(sX "x" (Gd "ab" 0)),(sX "af" (Gd "ab" 1)),(sM "2" "x"),(sM "7" "af")] (cT [(sM "ag" "7"),(sX "ah" (Nz .not "ag")),(sM "n" "ah"),(sG "n" true "as" (sM "as" o)),(sG "n" true "an"
 (sU "an" (Bi (.nck (.tmp 98))))),(sG "n" true "ao" (sX "ao" (Ea 3 "an"))),(sG "n" true "ap" (sX "ap" (Cf none "ao"))),(sG "n" true "aq" (sM "aq" "4")),(sG "n" true "at" (sX "at" (Fg 3 "ap" "aq"))),(sG "n" true "ai"
 (sX "ai" (Ea 2 "at"))),(sG "n" true "aj" (sX "aj" (Cf none "ai"))),(sG "n" true "ar" (sX "ar" (Nz .not "aj"))),(sX "aD" (Co "n" "ar" false))] (cC "aD" (cS (cN (Gk 16 (dL [(dP [] 0 "au" o),(Bx [0] ["au"] (Ch 1 [0] false false
 "av" (Fu (Bi (.nck (.tmp 108)))) ["au"])),(dX [1,0] ["av"] 2 "ay" (Ea 3 "av")),(dY [2,1,0] ["ay"] 3 "aB" (Cf none "ay")),(dP [] 4 "aP" "4"),(dP [] 5 "aE" o),(Bx [5] ["aE"] (Ch 6 [5] false false "aw" (Fu (Bi (.nck (.tmp 113)))) ["aE"])),(dX [6,5] ["aw"]
 7 "az" (Ea 3 "aw")),(dY [7,6,5] ["az"] 8 "ax" (Cf none "az")),(Bx [] ["4"] (Ch 9 [] true false "aF" ("4":Pa) ["4"])),(dX [3,4,0,1,2,8,7,6,5] ["aB","aP"] 10 "aG" (Fg 3 "aB" "aP")),(dX [10,0,1,2,3,4,8,7,6,5] ["aG"] 11 "aH" (Ea 2 "aG")),(Bx [11,0,1,2,3,4,8,10,7,6,5]
 ["aH"] (Cx 12 [11,0,1,2,3,4,8,10,7,6,5] (sU none (Is 1 "aH" true)))),(dX [8,9,0,1,2,3,4,5,6,7,10,11,12] ["ax","aF"] 13 "aI" (Fg 3 "ax" "aF")),(dX [13,0,1,2,3,4,5,6,7,8,9,10,11,12] ["aI"] 14 "aJ" (Ea 0 "aI")),(Bx [14,12,0,1,2,3,4,5,6,7,8,9,10,11,13] ["aJ"] (Cx 15 [14,12,0,1,2,3,4,5,6,7,8,9,10,11,13]
 (sU none (Is 1 "aJ" (.c (.v (.slice none 0 0)))))))]))) (cN (sL [(sM "aA" "3"),(sX "aK" (Ar .add "aA" (1:Int))),(sM "3" "aK")]))) (cE .normal)))))) (cN (sL [(sX "aL" (Ar .add "p" (1:Int))),(sM "p" "aL")])))))
def wx:WE:=(wS (wN (rN false (.tmp 63) "b" (rS (sX "i" (Gd "b" 0)) rE))) (wS (wD (cC "i" (cE .normal) (cE (.exit 4)))) (wB 5 (wS (wN (rN true (.tmp 63) "]" (rS (sX "g" (Gd "]" 0)) (rS (sM "1" "g") rE)))) (wN (rS (sM "o" "$") (rS (sM "j" o) (rS (sM "l" ",") (rS (sM "q"
 "1") (rS (Bj 87 ["j","l","q"] "t") (rS (sU "k" (Bi (.bsl 3 1 1 [.int .i64 0] [(0,1,.tmp 72)]))) (rA 3 1 8 (.tmp 68) (.tmp 73) "u" (rS (sM "$" "u") rE)))))))))))))
def wu:WE:=(wS (wD (cT [(sM "R" "$"),(sX "T" (Cu "R")),(sX "S" (Ar .gtr "T" (0:Int)))] (cC "S" (cE .normal) (cE (.exit 2))))) (wS (wB 3 (wS (wD (cN (sL [(sM "Y" "$"),(sX "c" (Fg 1 "Y" (0:Int))),(sX "W" (Cf none "c")),(sM "," "W")]))) (wS (wD (cT [(sM "d"
 "*"),(sM "h" ","),(sU "Z" (Bi (.lkp (.p (.int .i64)) (.slice none 0 0) (.tmp 56) (.tmp 57) true))),(sM "^" "Z"),(sX "X" (Gd "^" 0)),(sX "e" (Gd "^" 1)),(sM "." "X"),(sM "+" "e")] (cT [(sM "a" "+")] (cC "a" (cE (.exit 3)) (cE .normal))))) (wS (wS (wD (cN (sL [(sM "_" "*"),(sU
 "f" (Bi (.rgm (.tmp 62))))]))) (wB 4 (wL wx))) (wD (cN (sL [(sM "z" "*"),(sM "v" ","),(sM "|" o),(sM "y" ","),(Bj 97 ["|","y"] "~"),(sU none (Bi (.mup (.p (.int .i64)) (.tmp 75) (.tmp 76) (.tmp 79))))]))))))) (wD (cN (sL [(sM "V" "$"),(sU "U" (Bi (.sli 1 (.tmp 50) (some (.const
 (.int .i64 1))) none))),(sM "$" "U")])))))
def wq:WE:=(wS (wN (rN false (.tmp 126) "aN" (rS (sX "aO" (Gd "aN" 0)) rE))) (wS (wD (cC "aO" (cE .normal) (cE (.exit 8)))) (wB 9 (wS (wN (rN true (.tmp 126) "aR" (rS (sX "aW" (Gd "aR" 0)) (rS (sX "a5" (Gd "aR" 1)) (rS (sM "8" "aW") (rS (sM "6" "a5") rE))))))
 (wD (cN (sL [(sM "aX" o),(sM "bg" "8"),(Bj 99 ["aX","bg"] "bh"),(sM "bi" "*"),(sM "a6" o),(sM "aY" "8"),(Bj 98 ["a6","aY"] "a7"),(sU "aZ" (Bi (.lkp (.p (.int .i64)) (.slice none 0 0) (.tmp 135) (.tmp 138) false))),(sM "aS" "6"),(Bj
 81 ["aZ","aS"] "a0"),(sU "a1" (Bi (.nck (.tmp 134)))),(sX "a2" (Ea 0 "a1")),(sU none (Is 1 "a2" "a0"))])))))))
def w36:WE:=(wS (wD (cN (sL [(sM "!" (0:Int)),(sM "&" (0:Int))]))) (wS (wD (cT [(sM "0" o),(Bj 82 ["0"] ":"),(sX ";" (Nz .not ":"))] (cC ";" (cT [(sM "!" (0:Int)),(sM "&" (1:Int))] (cE .ret)) (cE .normal)))) (wS (wD (cT [(sM "5" o.l),(sX "=" (Cu "5")),(sM "9" (.c
 (.v (.int .i64 0))))] (cB 0 (cL 1000000 Cm6)))) (wS (wN (rS (sM "O" o.l) (rS (sM "N" o) (rS (sU "E" (Bi (.nck (.tmp 38)))) (rS (sX "H" (Ea 4 "E")) (rS (sX "J" (Cf none "H")) (rS (Bj 96 ["J"] "K") (rW 95 ["K"] "L" (rS (sU "P" (Bi (.bsl 36 2 1 [.slice none 0 0] [(0,1,.tmp 37),(1,1,.tmp 43)]))) (rS
 (Bj 94 ["P"] "Q") (rS (sM "$" "Q") rE))))))))))) (wS (wD (cN (sL [(sU "M" (Bi (.mkm))),(sM "*" "M")]))) (wS (wB 2 (wL wu)) (wS (wD (cN (sL [(sM "3" (0:Int))]))) (wS (wD (cT [(sM "ak" o),(sU "s" (Bi (.nck (.tmp 80)))),(sX "al" (Ea 3 "s")),(sX "[" (Cf none "al")),(sX
 "w" (Cu "[")),(sM "p" (0:Int))] (cB 6 (cL 1000000 wy)))) (wS (wS (wD (cN (sL [(sM "aU" "*"),(sU "aV" (Bi (.rgm (.tmp 125))))]))) (wB 8 (wL wq))) (wD (cT [(sM "a3" "3"),(sM "!" "a3"),(sM "&" (0:Int))] (cE .ret))))))))))))
end
end Go.DD

/- The printed code is the program's. -/
namespace Go.DD
open Go Go.Proofs
set_option maxRecDepth 100000
theorem WR:Tryz.prog.funcs[36]?=some Tryz.f36:=by kernel_rfl
theorem WO:Uc Tryz.prog 36=true:=by kernel_rfl
def d36:DF:=(Yp Tryz.prog Tryz.f36).getD default
theorem WM:Yp Tryz.prog Tryz.f36=some d36:=by kernel_rfl
theorem WI:d36.res=[(4,none),(5,none)]:=by kernel_rfl
theorem WK:d36.nt=145:=by kernel_rfl
theorem C56:(λwc call=>Ir wc (λf=>Nat.beq f 95||Nat.beq f 999999) call false 1000000 d36.nt d36.code)=w36:=by kernel_rfl
end Go.DD

/- Contracts: Reclaim's inner loop: the bases with all versions that were met. Conditions: those that each theorem states. -/
namespace Go.DD
open Go Go.Proofs Go.Sort
def kP(S:GTree)(v:Nat):Prop:=1<=v/\v<=S.vers.length/\S.isG v=false
theorem A06{ck:Nat}{es' W:List ME}(Ib:StO ck es')(pJ:W.Nodup)(kF:∀ e∈W,e∈es')(Ju:∀ e∈es',e.b∈W.map ME.b):W.Perm es':=
 zu pJ (yh Ib.2) λx=>⟨kF x,λhx=>by
  obtain ⟨y,hy,hb⟩:=Bn.1 (Ju x hx)
  have:y=x:=by
   obtain ⟨i1,h1,e1⟩:=Em (kF y hy)
   obtain ⟨i2,h2,e2⟩:=Em hx
   have Gt:∀ i j,(hi:i<es'.length)->(hj:j<es'.length)->i<j->es'[i].b≠es'[j].b:=λi j hi hj Nu=>by
    have:=Db.1 Ib.2 i j (by rw [Bp];exact hi) (by rw [Bp];exact hj) Nu
    simpa using this
   rcases Nat.lt_trichotomy i1 i2 with Et | Et | Et
   .exact absurd (by rw [e1,e2,hb]) (Gt i1 i2 h1 h2 Et)
   .subst Et;rw [<- e1,<- e2]
   .exact absurd (by rw [e1,e2,hb]) (Gt i2 i1 h2 h1 Et)
  rw [<- this];exact hy⟩
def Mz(S:GTree)(v:Nat)(W:List ME):List Int:=W.map λe=>((S.baseG v (Fi e):Nat):Int)
theorem Cb7{wc:Ko}{k:Nat}{es:ES}{Q:Exit->ES->Prop}{n1 T H im ck v I:Nat}{nd z:DV}{S:GTree}{ls:List Int}{met:List ME}(hB:S.OKB)(h:TreeG es.hp n1 T H nd S)(oI:n1<=I/\I<es.nx)(hI:es.hp.get I=some (.miter (.mp im) ck [] ck))(hq:QL es.hp z ls)(hz:∀ j∈z.refs,n1<=j/\j<es.nx/\j≠I/\j≠im)(KA:ls≠[])(hlen:ls.length+met.length<900000)(hm:es.hp.get im=some (.mapo ck met))(Ib:StO ck met)(Ty:n1<=im/\im<es.nx/\im≠I)(Ke:∀ e∈met,e.k=.int .i64 (Fi e:Nat)/\kP S (Fi e))(hv:kP S v)
  (a0:Ad es (.t .o)=.pt T 0) (a9:Ad es (.t (.l (.r (.l .o))))=z) (uJ:Ad es (.t (.r (.r (.l .o))))=.mp im) (a11:Ad es (.t (.l (.l (.r .o))))=iv (v:Nat)) (a63:Ad es (.t (.l (.l (.l (.l (.l (.l .o)))))))=.pt I 0)
  (hK:∀ Ai W z',W.Perm met->es.nx<=Ai.nx->(∀ j,j<es.nx->j≠I->j∉z.refs->Ai.hp.get j=es.hp.get j)->QL Ai.hp z' (ls++Mz S v W)->(∀ j∈z'.refs,j∈z.refs\/(es.nx<=j/\j<Ai.nx))->Ad Ai (.t .o)=.pt T 0->Ad Ai (.t (.l (.r (.l .o))))=z'->Ad Ai (.t (.r (.r (.l .o))))=.mp im->Ad Ai (.t (.l (.l (.r .o))))=iv (v:Nat)->Q .normal Ai) :
  wL wx wc (kN (k+3)) es (Ms 4 Q):=by
 have KK:∀ W:List ME,W.Nodup->(∀ e∈W,e∈met)->W.length<=met.length:=λW h1 h2=>Ja h1 h2
 refine QJ (λm Ai=>∃ W z',m=met.length-W.length/\W.Nodup/\(∀ e∈W,e∈met)/\es.nx<=Ai.nx/\(∀ j,j<es.nx->j≠I->j∉z.refs->Ai.hp.get j=es.hp.get j)/\Ai.hp.get I=some (.miter (.mp im) ck (W.map ME.b) ck)/\QL Ai.hp z' (ls++Mz S v W)/\(∀ j∈z'.refs,j∈z.refs\/(es.nx<=j/\j<Ai.nx))/\Ad Ai (.t .o)=.pt T 0/\Ad Ai (.t (.l (.r (.l .o))))=z'/\Ad Ai (.t (.r (.r (.l .o))))=.mp im/\Ad Ai (.t (.l (.l (.r .o))))=iv (v:Nat)/\Ad Ai (.t (.l (.l (.l (.l (.l (.l .o)))))))=.pt I 0) met.length ⟨[],z,rfl,.nil,λe h=>(by cases h),Ag _,λ_ _ _ _=>rfl,hI,by unfold Mz;rw [Az,Da];exact hq,λj hj=>.inl hj,a0,a9,uJ,a11,a63⟩ ?_
 rintro m Ai ⟨W,z',rfl,pJ,kF,hle,Cy,pL,RP,V1,b0,b9,b10,b11,tm⟩
 have zI:Ai.hp.get im=some (.mapo ck met):=(Cy im Ty.2.1 Ty.2.2 λhh=>(hz im hh).2.2.2 rfl).trans hm
 unfold wx
 rw [Qs,sC]
 refine G3 (id:=I) (im:=im) (ck:=ck) (es':=met) (seen:=W.map ME.b) (by simp only [Dc,bP,tm,Vk pL]) pL zI Ib.1 (λJu=>?_) λe Xy Gt Cw Fw Fa=>?_
 .have x0:∀ {An:Tr DObj},Fb An (.tup [.v (.bool false)]) 0=some (bv false):=rfl
  simp only [As,↓Au,↓Pf,↓Uf,↓Qs,↓Rk,x0]
  refine hK _ W z' (A06 Ib pJ kF Ju) hle Cy RP V1 ?_ ?_ ?_ ?_
  all_goals simp only [bR,b0,b9,b10,b11]
 .have x0:∀ {An:Tr DObj},Fb An (.tup [.v (.bool true),Qf e.k,e.v]) 0=some (bv true):=rfl
  have oJ:=(Fa im Ty.2.2).trans zI
  have P3:e∉W:=λh=>Gt (Bn.2 ⟨e,h,rfl⟩)
  simp only [As,↓Au,↓Pf,↓Uf,↓Qs,↓Rk,↓sD,↓sC,x0]
  refine G4 (e:=e) (s0:=W.map ME.b) (id:=I) (im:=im) (ck:=ck) (es':=met) (by simp only [Dc,bR,bP,tm,Vk Fw]) (by simp only [];exact Fw) (by simp only [];exact oJ) Xy Ib.2 ?_
  obtain ⟨ek,ev⟩:=Ke e Xy
  have x1:∀ {An:Tr DObj},Fb An (.tup [Qf e.k,e.v]) 0=some (iv (Fi e:Nat)):=λ{An}=>by rw [ek];rfl
  have hq2:=RP.keep (An:=Cw) λj hj=>Fa j (by rcases V1 j hj with h | h;exact (hz j h).2.2.1;omega)
  simp only [As,↓Au,↓Pf,↓Uf,x1,b0,b11]
  have h2:TreeG Cw Ai.nx T H nd S:=h.keep ⟨by omega,λj hj=>by rw [Fa j (by omega),Cy j (by omega) (by omega) λhh=>by have:=(hz j hh).1;omega]⟩
  refine Fh (Cv1 _ _ v (Fi e) h2 ⟨hv.1,hv.2.1⟩ ⟨ev.1,ev.2.1⟩ ?_ λGn Dy Ub=>?_)
  .have:=(GTree.base_spec h.ok hB.r ⟨hv.1,hv.2.1⟩ ⟨ev.1,ev.2.1⟩).1.1
   omega
  .have Iw:=Ub.le
   simp only [As,↓Au,↓Pf]
   refine eK (fl:=[iv (S.baseG v (Fi e):Nat)]) rfl (by simp only [Am,Az,Dc,bR,bP,Sa];rfl) λFq Kf Fl=>?_
   simp only [bR] at Kf Fl
   have tC:∀ j∈z'.refs,j<Ai.nx/\j≠I/\j≠im/\n1<=j:=λj hj=>by
    rcases V1 j hj with h | h
    .have:=hz j h
     exact ⟨by omega,this.2.2.1,this.2.2.2,this.1⟩
    .exact ⟨by omega,by omega,by omega,by omega⟩
   have hq4:=hq2.keep (An:=Fq) λj hj=>by
    have:=tC j hj
    rw [Fl j (by omega),Ub.same j (by omega)]
   have lE:=KK (W ++ [e]) (Ij.2 ⟨pJ,by simp,λa ha b hb=>by rw [Aj.1 hb];exact λh=>P3 (h ▸ ha)⟩) λx hx=>(Ax.1 hx).elim (kF x) λh=>by rw [Aj.1 h];exact Xy
   rw [Ao,Bk] at lE
   have Mb:(Mz S v W).length=W.length:=Bp ..
   simp only [As]
   refine WC (z:=z') (l:=ls++Mz S v W) (d2:=.ms Dy 0 1 1) (x:=((S.baseG v (Fi e):Nat):Int)) (by simp only [bR,bP,b9]) hq4 (λhh=>KA (List.append_eq_nil_iff.1 hh).1) (by simp only [Dc,bR,bP];exact Yb Kf) (UE (R:=rInt) (p:=λ_=>False) (x:=((S.baseG v (Fi e):Nat):Int)) Kf rfl) rfl rfl (by decide) (by rw [Ao];omega) λGr z5 gf qR Jd=>?_
   simp only [bR] at qR Jd
   simp only [As,↓Au,↓Pf,↓Uf,b0,b9,b10,b11,tm]
   have hI5:Gr.get I=Cw.get I:=by
    rw [Jd I (by omega) λhh=>(tC I hh).2.1 rfl,Fl I (by omega),Ub.same I (by omega)]
   refine ⟨met.length-(W ++ [e]).length,by rw [Ao,Bk];omega,W ++ [e],z5,rfl,Ij.2 ⟨pJ,by simp,λa ha b hb=>by rw [Aj.1 hb];exact λh=>P3 (h ▸ ha)⟩,λx hx=>(Ax.1 hx).elim (kF x) λh=>by rw [Aj.1 h];exact Xy,by omega,λj h1 h2 h3=>?_,?_,?_,λj hj=>?_,rfl⟩
   .have:j∉z'.refs:=λhh=>(V1 j hh).elim h3 λh=>by omega
    rw [Jd j (by omega) this,Fl j (by omega),Ub.same j (by omega),Fa j h2,Cy j h1 h2 h3]
   .rw [hI5,Fw,Cn];rfl
   .have e9:Mz S v (W ++ [e])=Mz S v W ++ [((S.baseG v (Fi e):Nat):Int)]:=by unfold Mz;rw [Cn];rfl
    rw [e9,<- Bv];exact gf
   .rw [qR,Aj] at hj
    exact .inr (by omega)
end Go.DD

/- Contracts: Reclaim's queue: which versions stay, with their cells. Conditions: those that each theorem states. -/
namespace Go.DD
open Go Go.Proofs Go.Sort
def Clo(S:GTree)(init:List Int)(P:Nat->Prop):Prop:=(∀ x∈init,P x.toNat)/\∀ v w,kP S v->kP S w->P v->P w->P (S.baseG v w)
def PC(n1 T H nx im:Nat)(nd z:DV)(j:Nat):Prop:=(j<n1/\j≠T/\j≠H/\j∉nd.refs)\/(n1<=j/\j<nx/\j≠im/\j∉z.refs)
structure RcM (S:GTree) (init:List Int) (Nr:Tr DObj) (n1 T H im:Nat) (nd z:DV) (ls:List Int) (met:List ME) (hp:Tr DObj) (nx:Nat):Prop where
 al:Al Nr n1 hp nx
 q:QL hp z ls
 zr:∀ j∈z.refs,n1<=j/\j<nx/\j≠im
 i:n1<=im/\im<nx
 m:∃ ck,hp.get im=some (.mapo ck met)/\StO ck met
 c:MapC hp (PC n1 T H nx im nd z) S.at' met
 nu:(met.map Fi).Nodup
 mv:∀ v∈met.map Fi,kP S v
 lv:∀ x∈ls,∃ v:Nat,x=(v:Nat)/\kP S v
 mn:∀ P,Clo S init P->(∀ v∈met.map Fi,P v)/\∀ x∈ls,P x.toNat
 it:∀ x∈init,x.toNat∈met.map Fi\/x∈ls
 cl:∀ v w,v∈met.map Fi->w∈met.map Fi->S.baseG v w∈met.map Fi\/((S.baseG v w:Nat):Int)∈ls
 sz:ls.length<=1000+met.length*200
theorem Bg2{n:Nat}{l:List Nat}(h:l.Nodup)(hl:∀ v∈l,1<=v/\v<=n):l.length<=n:=by
 have:=Ja h (l₂:=List.range' 1 n) λv hv=>List.mem_range'_1.2 (by have:=hl v hv;omega)
 rwa [List.length_range'] at this
section
variable {S:GTree} {init:List Int} {Nr hp:Tr DObj} {n1 T H im nx:Nat} {nd z:DV} {ls:List Int} {met:List ME}
theorem RcM.len(h:RcM S init Nr n1 T H im nd z ls met hp nx):met.length<=S.vers.length:=by
 have:=Bg2 h.nu λv hv=>⟨(h.mv v hv).1,(h.mv v hv).2.1⟩
 rwa [Bp] at this
theorem Cb8{ck:Nat}{k:Value}{d:DV}(h:StO ck met):StO (ck+1) (met ++ [⟨k,d,ck⟩]):=by
 refine ⟨λx hx=>?_,?_⟩
 .rcases Ax.1 hx with hx | hx
  .have:=h.1 x hx;omega
  .rw [Aj.1 hx];exact Ex ck
 .rw [Cn]
  refine Ij.2 ⟨h.2,by simp,λa ha b hb=>?_⟩
  obtain ⟨x,hx,rfl⟩:=Bn.1 ha
  have Gz:b=ck:=by simpa using hb
  have:=h.1 x hx
  omega
theorem RcM.tail{v:Nat}{rest:List Int}(h:RcM S init Nr n1 T H im nd z ((v:Nat)::rest) met hp nx)(hv:v∈met.map Fi):RcM S init Nr n1 T H im nd (lD 1 1 (((v:Nat):Int)::rest).length z) rest met hp nx:=by
 have sr:=B82 1 1 (((v:Nat):Int)::rest).length z
 refine ⟨h.al,h.q.tail,λj hj=>h.zr j (sr j hj),h.i,h.m,h.c.mono λj hj=>hj.imp id λh=>⟨h.1,h.2.1,h.2.2.1,λhh=>h.2.2.2 (sr j hh)⟩,h.nu,h.mv,λx hx=>h.lv x (Bh _ hx),λP hP=>⟨(h.mn P hP).1,λx hx=>(h.mn P hP).2 x (Bh _ hx)⟩,λx hx=>?_,λa b ha hb=>?_,?_⟩
 .rcases h.it x hx with h1 | h1
  .exact .inl h1
  .rcases Ap.1 h1 with rfl | h1
   .exact .inl hv
   .exact .inr h1
 .rcases h.cl a b ha hb with h1 | h1
  .exact .inl h1
  .rcases Ap.1 h1 with h1 | h1
   .exact .inl (by rw [show S.baseG a b=v by omega];exact hv)
   .exact .inr h1
 .have:=h.sz
  rw [Ec] at this
  omega
theorem RcM.push{v ck Bm:Nat}{d z':DV}{rest:List Int}{W:List ME}{An:Tr DObj}(hS:S.OK)(hB:S.OKB)(h:RcM S init Nr n1 T H im nd z ((v:Nat)::rest) met hp nx)(hv:v∉met.map Fi)(hW:W.Perm met)(Ib:StO ck met)(al:Al Nr n1 An Bm)(hq:QL An z' (((v:Nat):Int)::rest++Mz S v W))(hz:∀ j∈z'.refs,n1<=j/\j<Bm/\j≠im)(hle:nx<=Bm)(hm:An.get im=some (.mapo (ck+1) (met ++ [⟨.int .i64 (v:Nat),d,ck⟩])))(hk:∀ j,PC n1 T H nx im nd z j->PC n1 T H Bm im nd z' j/\An.get j=hp.get j)(hd:RL rCell An (PC n1 T H Bm im nd z') d (S.at' v)):RcM S init Nr n1 T H im nd z' (((v:Nat):Int)::rest++Mz S v W) (met ++ [⟨.int .i64 (v:Nat),d,ck⟩]) An Bm:=by
 have vv:kP S v:=by
  obtain ⟨w,e,hw⟩:=h.lv _ (Ct ..)
  rw [show v=w by omega];exact hw
 have ek:(met ++ [(⟨.int .i64 (v:Nat),d,ck⟩:ME)]).map Fi=met.map Fi ++ [v]:=by rw [Cn];rfl
 have Lw:∀ w,w∈met.map Fi->((S.baseG v w:Nat):Int)∈Mz S v W:=λw hw=>by
  obtain ⟨e,he,rfl⟩:=Bn.1 hw
  exact Bn.2 ⟨e,hW.mem_iff.2 he,rfl⟩
 have LQ:∀ x∈Mz S v W,∃ w,w∈met.map Fi/\x=((S.baseG v w:Nat):Int):=λx hx=>by
  obtain ⟨e,he,rfl⟩:=Bn.1 hx
  exact ⟨Fi e,Bn.2 ⟨e,hW.mem_iff.1 he,rfl⟩,rfl⟩
 have Yj:=h.len
 have hn:=hS.n
 have mv':∀ w∈met.map Fi ++ [v],kP S w:=λw hw=>(Ax.1 hw).elim (h.mv w) λhw=>by rw [Aj.1 hw];exact vv
 refine ⟨al,hq,hz,⟨h.i.1,by have:=h.i.2;omega⟩,⟨ck+1,hm,Cb8 Ib⟩,((h.c.keep λj hj=>(hk j hj).2).mono λj hj=>(hk j hj).1).snoc hd,?_,?_,λx hx=>?_,λP hP=>⟨?_,λx hx=>?_⟩,λx hx=>?_,?_,?_⟩
 .rw [ek]
  exact Ij.2 ⟨h.nu,by simp,λa ha b hb=>by rw [Aj.1 hb];exact λe=>hv (e ▸ ha)⟩
 .rw [ek];exact mv'
 .rcases Ax.1 hx with hx | hx
  .exact h.lv x hx
  .obtain ⟨w,hw,rfl⟩:=LQ x hx
   have ww:=h.mv w hw
   obtain ⟨⟨b1,b2,b3⟩,_⟩:=GTree.base_spec hS hB.r ⟨vv.1,vv.2.1⟩ ⟨ww.1,ww.2.1⟩
   exact ⟨_,rfl,b1,by have:=vv.2.1;omega,hB.b v w vv.1 vv.2.1 ww.1 ww.2.1 vv.2.2 ww.2.2⟩
 .obtain ⟨p1,p2⟩:=h.mn P hP
  rw [ek]
  exact λw hw=>(Ax.1 hw).elim (p1 w) λhw=>by rw [Aj.1 hw];exact p2 _ (Ct ..)
 .obtain ⟨p1,p2⟩:=h.mn P hP
  rcases Ax.1 hx with hx | hx
  .exact p2 x hx
  .obtain ⟨w,hw,rfl⟩:=LQ x hx
   exact hP.2 v w vv (h.mv w hw) (p2 _ (Ct ..)) (p1 w hw)
 .rw [ek]
  exact (h.it x hx).imp (Cj _) (Cj _)
 .rw [ek]
  intro a b ha hb
  rcases Ax.1 ha with ha | ha
  .rcases Ax.1 hb with hb | hb
   .exact (h.cl a b ha hb).imp (Cj _) (Cj _)
   .rw [Aj.1 hb]
    have aa:=h.mv a ha
    rw [GTree.base_comm hS hB.r ⟨aa.1,aa.2.1⟩ ⟨vv.1,vv.2.1⟩]
    exact .inr (Ce _ (Lw a ha))
  .rw [Aj.1 ha]
   rcases Ax.1 hb with hb | hb
   .exact .inr (Ce _ (Lw b hb))
   .rw [Aj.1 hb,GTree.base_self hS hB.r ⟨vv.1,vv.2.1⟩]
    exact .inl (by simp)
 .have h1:=h.sz
  have h2:(Mz S v W).length=met.length:=by unfold Mz;rw [Bp];exact hW.length_eq
  rw [Ao,h2,Ao,Bk,Dq]
  omega
theorem Cb9{wc:Ko}{k:Nat}{es:ES}{Q:Exit->ES->Prop}(hB:S.OKB)(h:TreeG Nr n1 T H nd S)(h0:RcM S init Nr n1 T H im nd z ls [] es.hp es.nx)
  (a0:Ad es (.t .o)=.pt T 0) (a9:Ad es (.t (.l (.r (.l .o))))=z) (uJ:Ad es (.t (.r (.r (.l .o))))=.mp im)
  (hK:∀ Ai z met,RcM S init Nr n1 T H im nd z [] met Ai.hp Ai.nx->Ad Ai (.t .o)=.pt T 0->Ad Ai (.t (.r (.r (.l .o))))=.mp im->Q .normal Ai) :
  wL wu wc (kN (k+208)) es (Ms 2 Q):=by
 refine QJ (λm Ai=>∃ z ls met,m=ls.length+(200-met.length)*400/\RcM S init Nr n1 T H im nd z ls met Ai.hp Ai.nx/\Ad Ai (.t .o)=.pt T 0/\Ad Ai (.t (.l (.r (.l .o))))=z/\Ad Ai (.t (.r (.r (.l .o))))=.mp im) _ ⟨z,ls,[],rfl,h0,a0,a9,uJ⟩ ?_
 rintro m Ai ⟨z,ls,met,rfl,g,b0,b9,b10⟩
 unfold wu
 have hn:=h.ok.n
 have Yj:=g.len
 cases ls with
 | nil=>
  rw [Qs,Rk]
  simp only [As,↓Au,b9,g.q.rl.len,Mh,show decide ((0:Int)<0)=false from rfl]
  exact hK _ _ _ g (by simp only [bR,b0]) (by simp only [bR,b10])
 | cons x rest=>
  obtain ⟨v,rfl,hv⟩:=g.lv x (by simp)
  have hlen:0<((v:Int)::rest).length:=by simp
  rw [Qs,Rk]
  obtain ⟨ck,gm,gst⟩:=g.m
  simp only [As,↓Au,b9,g.q.rl.len,show decide ((0:Int)<((((v:Int)::rest).length:Nat):Int))=true from Ak (by omega),↓Qs,↓Rk,↓sD,yx g.q.rl hlen,ints_at g.q.rl hlen,Hm,b10,↓mD]
  refine B38 (im:=im) (ck:=ck) (es':=met) (v:=v) (by simp only [Dc,bR,bP,iZ gm]) gm g.c (by simp only [Dc,bR,bP,Sa]) λdd cX=>?_
  have hgT:TreeG Ai.hp Ai.nx T H nd S:=h.keep g.al
  have gz:=g.zr
  have gi:=g.i
  have gle:=g.al.le
  have x0:∀ {b:Bool},Fb Ai.hp (.tup [dd,bv b]) 0=some dd:=λ{b}=>E4 λid hid=>(cX.refs id (by simpa [DV.refs,DV.refsL,bv] using hid)).2
  have x1:∀ {b:Bool},Fb Ai.hp (.tup [dd,bv b]) 1=some (bv b):=rfl
  by_cases yU:v∈met.map Fi
  .rw [Ak yU]
   simp only [As,↓Au,b9,x0,x1,↓Rk]
   refine E3 (R:=rInt) (p:=λj=>j∈z.refs) (a:=1) (z:=((v:Int)::rest).length) (d:=z) (l:=(v:Int)::rest) (by simp only [bR,bP]) g.q.rl rfl rfl (λn hn=>by rw [hn];rfl) (by omega) (by omega) ?_
   simp only [As,↓Au,b0,b10]
   refine ⟨_,?_,_,rest,met,rfl,g.tail yU,rfl⟩
   rw [Ec];omega
  .rw [Ah yU]
   simp only [As,↓Au,b10,x0,x1,↓Qs,↓Rk,↓sD]
   refine vh (im:=im) (ck:=ck) (es':=met) (by simp only [Dc,bR,bP,iZ gm]) gm λCw Fw Fa=>?_
   simp only [bR] at Fw Fa
   have k2:∀ j,j<Ai.nx->Cw.get j=Ai.hp.get j:=λj hj=>Fa j (by omega)
   simp only [As]
   refine Cb7 (k:=k+205) (T:=T) (H:=H) (nd:=nd) (n1:=n1) (S:=S) (im:=im) (ck:=ck) (v:=v) (I:=Ai.nx) (z:=z) (ls:=(v:Int)::rest) (met:=met) hB (h.keep ⟨Ag _,λj hj=>(k2 j (by omega)).trans (g.al.same j hj)⟩) ⟨gle,by show Ai.nx<Ai.nx+1;omega⟩ Fw (g.q.keep λj hj=>k2 j (gz j hj).2.1) (λj hj=>⟨(gz j hj).1,by show j<Ai.nx+1;have:=(gz j hj).2.1;omega,by have:=(gz j hj).2.1;omega,(gz j hj).2.2⟩) (by simp) (by have:=g.sz;omega) ((k2 im gi.2).trans gm) gst ⟨gi.1,by show im<Ai.nx+1;omega,by omega⟩ (λe he=>⟨(g.c e he).1,g.mv _ (Bn.2 ⟨e,he,rfl⟩)⟩) hv ?_ ?_ ?_ ?_ ?_ λKj W z3 hW Iw aQ hq3 hz3 d0 d9 d10 d11=>?_
   .simp only [bR,b0]
   .simp only [bR,b9]
   .simp only [bR,b10]
   .simp only [bR]
   .simp only [bR]
   .have aCt:Ai.nx+1<=Kj.nx:=Iw
    have k3:∀ j,j<Ai.nx->j∉z.refs->Kj.hp.get j=Ai.hp.get j:=λj h1 h2=>(aQ j (by show j<Ai.nx+1;omega) (by omega) h2).trans (k2 j h1)
    simp only [↓Au,d0,d11]
    have jL:∀ j∈z3.refs,n1<=j/\j<Kj.nx/\j≠im/\(j∈z.refs\/Ai.nx<j):=λj hj=>by
     rcases hz3 j hj with h | h
     .have:=gz j h
      exact ⟨this.1,by omega,this.2.2,.inl h⟩
     .have h1:Ai.nx+1<=j:=h.1
      exact ⟨by omega,h.2,by omega,.inr (by omega)⟩
    have kz:∀ j,j<n1->Kj.hp.get j=Nr.get j:=λj hj=>(k3 j (by omega) λhh=>by have:=(gz j hh).1;omega).trans (g.al.same j hj)
    refine Fh (zw (n1:=n1) 200 k v _ _ _ (by have:=hv.2.1;omega) hv.2.1 hv.2.2 (by omega) (h.keep ⟨Ag _,kz⟩) λFq Ma d Xu rd rdb=>?_)
    have aM:=Xu.le
    simp only [As,↓Au,d0,d10,d11]
    have R0:Fq.get im=some (.mapo ck met):=(Xu.same im (by omega)).trans ((k3 im gi.2 λhh=>(gz im hh).2.2 rfl).trans gm)
    have gc4:MapC Fq (PC n1 T H Ai.nx im nd z) S.at' met:=g.c.keep λj hj=>by
     have:j<Ai.nx/\j∉z.refs:=by
      rcases hj with hj | hj
      .exact ⟨by omega,λhh=>by have:=(gz j hh).1;omega⟩
      .exact ⟨hj.2.1,hj.2.2.2⟩
     rw [Xu.same j (by omega),k3 j this.1 this.2]
    refine Cv0 (im:=im) (ck:=ck) (es':=met) (v:=v) (d:=d) (by simp only [Dc,bR,bP,iZ R0]) R0 gc4 (by simp only [Dc,bR,bP,Sa]) (by simp only [Dc,bR,bP];exact rd.live) yU λGr Qw Jd=>?_
    simp only [bR] at Qw Jd
    have gf:QL Gr z3 ((v:Int)::rest++Mz S v W):=hq3.keep λj hj=>by
     have:=jL j hj
     rw [Jd j this.2.2.1,Xu.same j this.2.1]
    have gp:RcM S init Nr n1 T H im nd z3 ((v:Int)::rest++Mz S v W) (met ++ [⟨.int .i64 (v:Nat),d,ck⟩]) Gr Ma:=by
     refine g.push h.ok hB yU hW gst ⟨by omega,λj hj=>?_⟩ gf (λj hj=>⟨(jL j hj).1,by have:=(jL j hj).2.1;omega,(jL j hj).2.2.1⟩) (by omega) Qw (λj hj=>?_) ((rd.keep λj hj=>?_).mono λj hj=>?_)
     .rw [Jd j (by omega),Xu.same j (by omega),kz j hj]
     .have Tx:j<Ai.nx/\j∉z.refs/\j≠im:=by
       rcases hj with hj | hj
       .exact ⟨by omega,λhh=>by have:=(gz j hh).1;omega,by omega⟩
       .exact ⟨hj.2.1,hj.2.2.2,hj.2.2.1⟩
      refine ⟨hj.imp id λhj=>⟨hj.1,by omega,hj.2.2.1,λhh=>(jL j hh).2.2.2.elim hj.2.2.2 λh=>by omega⟩,?_⟩
      rw [Jd j Tx.2.2,Xu.same j (by omega),k3 j Tx.1 Tx.2.1]
     .refine Jd j ?_
      rcases hj with hj | hj <;> omega
     .refine hj.imp id λhj=>⟨by omega,hj.2,by omega,λhh=>?_⟩
      have:=(jL j hh).2.1
      omega
    simp only [As,↓Au,d9,↓Rk]
    refine E3 (R:=rInt) (p:=λj=>j∈z3.refs) (a:=1) (z:=((v:Int)::(rest++Mz S v W)).length) (d:=z3) (l:=(v:Int)::(rest++Mz S v W)) (by simp only [bR,bP]) gp.q.rl rfl rfl (λn hn=>by rw [hn];rfl) (by rw [Ec];omega) (by omega) ?_
    have gt:=RcM.tail (rest:=rest++Mz S v W) gp (by rw [Cn];exact Ce _ (by simp [Fi]))
    simp only [As,↓Au,d0,d10]
    refine ⟨_,?_,_,rest++Mz S v W,met ++ [⟨.int .i64 (v:Nat),d,ck⟩],rfl,gt,rfl⟩
    have h2:(Mz S v W).length=met.length:=by unfold Mz;rw [Bp];exact hW.length_eq
    have h3:=gt.len
    rw [Ao,Bk] at h3
    rw [Ao,Ao,Bk,Ec,h2]
    omega
end
end Go.DD

/- Contracts: Reclaim marks what does not stay. Conditions: those that each theorem states. -/
namespace Go.DD
open Go Go.Proofs Go.Sort
def Hw(met:List ME)(v:Nat):Bool:=!(met.map Fi).contains v
def iP(S:GTree)(met:List ME)(i j:Nat):List PCell:=if j<i/\(Hw met (j+1) && !S.isG (j+1))=true then [] else S.chg j
section
variable {S:GTree} {n1 T H im ck:Nat} {nd:DV} {met:List ME} {p:Nat->Prop}
theorem Cc0{k:Nat}{es:ES}{Q:Exit->ES->Prop}(h:TreeG es.hp n1 T H nd S)(oI:n1<=es.nx)(hm:es.hp.get im=some (.mapo ck met))(Ty:im<es.nx/\im∉nd.refs)(hc:MapC es.hp p S.at' met)(hp:∀ j,p j->j∉nd.refs)(hh:∀ x∈S.heads,Hw met x.2.toNat=false)
  (a0:Ad es (.t .o)=.pt T 0) (uJ:Ad es (.t (.r (.r (.l .o))))=.mp im) (a15:Ad es (.t (.l (.l (.l (.l .o)))))=iv 0) (a83:Ad es (.t (.l (.l (.r (.l (.r (.l .o)))))))=nd) (a84:Ad es (.t (.r (.l (.r (.l (.r (.l .o)))))))=iv S.vers.length) (a85:Ad es (.t (.l (.r (.r (.l (.r (.l .o)))))))=iv 0)
  (hK:∀ Ai,es.nx<=Ai.nx->TreeC Ai.hp (Bl n1) T H nd (S.mark (Hw met)) (iP S met S.vers.length)->(∀ j,j∉nd.refs->Ai.hp.get j=es.hp.get j)->Ad Ai (.t .o)=.pt T 0->Ad Ai (.t (.r (.r (.l .o))))=.mp im->Ad Ai (.t (.l (.l (.l (.l .o)))))=iv (S.newG (Hw met) S.vers.length:Nat)->Q .normal Ai) :
  EW (cL 1000000 wy) (kN k) es (Ms 6 Q):=by
 have hn:=h.ok.n
 refine EW.up S.vers.length (λi Ai=>es.nx<=Ai.nx/\TreeC Ai.hp (Bl n1) T H nd (S.mark λv=>decide (v<=i)&&Hw met v) (iP S met i)/\(∀ j,j∉nd.refs->Ai.hp.get j=es.hp.get j)/\Ad Ai (.t .o)=.pt T 0/\Ad Ai (.t (.r (.r (.l .o))))=.mp im/\Ad Ai (.t (.l (.l (.l (.l .o)))))=iv (S.newG (Hw met) i:Nat)/\Ad Ai (.t (.l (.l (.r (.l (.r (.l .o)))))))=nd/\Ad Ai (.t (.r (.l (.r (.l (.r (.l .o)))))))=iv S.vers.length/\Ad Ai (.t (.l (.r (.r (.l (.r (.l .o)))))))=iv (i:Nat)) ?_ ⟨Ag _,?_,λ_ _=>rfl,a0,uJ,a15,a83,a84,a85⟩ (by omega)
 .rintro i Ai hi ⟨hle,ht,Cy,b0,b10,b15,TJ,X9,X8⟩
  unfold wy
  by_cases Ic:i<S.vers.length
  .have Yj:(S.mark λv=>decide (v<=i)&&Hw met v).vers.length=S.vers.length:=GTree.mark_len
   obtain ⟨a,b,ra,rb,⟨lv,nc⟩,⟨f0,_,f2⟩,l0,_,l2,aO,_⟩:=ht.ver (i:=i) (by rw [Yj];exact Ic)
   obtain ⟨d,aa,z,hT,_⟩:=ht.r
   have zI:Ai.hp.get im=some (.mapo ck met):=(Cy im Ty.2).trans hm
   have lO:MapC Ai.hp p S.at' met:=hc.keep λj hj=>Cy j (hp j hj)
   have jX:(S.mark λv=>decide (v<=i)&&Hw met v).isG (i+1)=S.isG (i+1):=by
    rw [GTree.mark_is (by omega) (by omega),show decide (i+1<=i)=false from Ah (by omega),Sd,Bool.or_false]
   rw [jX] at l2
   have keep:(Hw met (i+1) && !S.isG (i+1))=false->i<S.vers.length/\es.nx<=Ai.nx/\TreeC Ai.hp (Bl n1) T H nd (S.mark λv=>decide (v<=i+1)&&Hw met v) (iP S met (i+1))/\(∀ j,¬ j∈nd.refs->Ai.hp.get j=es.hp.get j)/\iv (S.newG (Hw met) i:Nat)=iv (S.newG (Hw met) (i+1):Nat):=λhx=>by
    have e1:(S.mark λv=>decide (v<=i+1)&&Hw met v)=S.mark λv=>decide (v<=i)&&Hw met v:=GTree.mark_congr λv h1 h2 h3=>by
     by_cases hv:v=i+1
     .subst hv
      rw [h3,Bool.not_false,Bool.and_true] at hx
      rw [hx,Se,Se]
     .rw [show decide (v<=i+1)=decide (v<=i) by simp;omega]
    have e2:iP S met (i+1)=iP S met i:=funext λj=>by
     unfold iP
     by_cases hj:j=i
     .subst hj
      rw [hx,Ae (by simp),Ae (by simp)]
     .by_cases Pj:j<i/\(Hw met (j+1) && !S.isG (j+1))=true
      .rw [Af Pj,Af ⟨by omega,Pj.2⟩]
      .rw [Ae Pj,Ae λh=>Pj ⟨by omega,h.2⟩]
    rw [e1,e2,GTree.newG_succ,hx,Ae (by simp)]
    exact ⟨Ic,hle,ht,Cy,rfl⟩
   simp only [As,↓Au,b10,X9,X8,Ic,Hz (show i<_ by omega),↓mD]
   refine B38 (im:=im) (ck:=ck) (es':=met) (v:=i+1) (by simp only [Dc,bR,bP,iZ zI]) zI lO (by simp only [Dc,bR,bP,Sa]) λdd cX=>?_
   have x0:∀ {b:Bool},Fb Ai.hp (.tup [dd,bv b]) 0=some dd:=λ{b}=>E4 λid hid=>(cX.refs id (by simpa [DV.refs,DV.refsL,bv] using hid)).2
   have x1:∀ {b:Bool},Fb Ai.hp (.tup [dd,bv b]) 1=some (bv b):=rfl
   by_cases Lw:i+1∈met.map Fi
   .rw [Ak Lw]
    simp only [As,↓Au,x0,x1,b0,b10,b15,TJ,X9,X8,Hz (show i<_ by omega)]
    exact keep (by unfold Hw;rw [Ov.2 Lw];rfl)
   .rw [Ah Lw]
    have Lj:Hw met (i+1)=true:=by
     unfold Hw
     rw [show (met.map Fi).contains (i+1)=false from Gc.2 λhh=>Lw (Ov.1 hh)];rfl
    cases hg:S.isG (i+1) with
    | true=>
     rw [hg] at l2
     simp only [As,↓Au,bP,x0,x1,b0,b10,b15,TJ,X9,X8,Hz (show i<_ by omega),↓Zt,Vk hT,eJ,iN (k:=3) hT,show Fy Ai.hp none (.pt T 3)=some nd from Od hT rfl,aO,f2,l2]
     exact keep (by rw [hg,Bool.not_true,Se])
    | false=>
     rw [hg] at l2
     have r:=ht.nl
     have b3:∀ j,(Bl n1 j/\j≠T/\j≠H)->j<Ai.nx:=λj hj=>Bs hj.1 (by omega)
     have hTn:T<n1:=ht.th.2.1
     have l3:Fy Ai.hp none (.pt T 3)=some nd:=Od hT rfl
     simp only [As,↓Au,bP,x0,x1,b0,b10,b15,TJ,X9,X8,Hz (show i<_ by omega),↓Zt,Vk hT,eJ,iN (k:=3) hT,l3,aO,f2,l2,↓AM,Lp (n0:=Ai.nx) (m:=16) hT (show T<Ai.nx by omega),xj r b3,xi r b3,jA r b3]
     obtain ⟨id,fl,e1,KZ,zT,_⟩:=ht.row (by omega)
     rw [Yj] at e1 zT
     have SQ:∀ k,Fx (Bz 3 nd i) k=.pt id (i*3+k):=λk=>by
      rw [e1]
      show DV.pt id (0+i*3+k)=_
      rw [Df]
     refine Ly rfl (lS (id:=id) (off:=i*3+2) (by simp only [bR];exact SQ 2) KZ rfl ⟨rfl,rfl⟩ (by omega) λCw Fw Fa=>?_)
     simp only [bR] at Fw Fa
     have gq:((S.mark λv=>decide (v<=i)&&Hw met v).mark λv=>v==i+1).OK:=GTree.mark_ok ht.ok λx hx=>by
      have:=hh x hx
      refine Gc.2 λhe=>?_
      rw [eq_of_beq he,Lj] at this
      cases this
     have bC:=ht.set2 (by rw [Yj];exact Ic) gq (by rw [Yj];exact e1) KZ Fw Fa
     obtain ⟨_,_,_,_,_,⟨f0',_,_⟩,_,_,_,jm,_⟩:=bC.ver (i:=i) (by rw [GTree.mark_len,Yj];exact Ic)
     have r2:=bC.nl
     have IU:∀ {Gn:Tr DObj},Gn.get id=some (.row 136 ((fl.set (i*3+2) (bv true)).set (i*3) Cb))->(∀ j,j≠id->Gn.get j=Cw.get j)->TreeC Gn (Bl n1) T H nd ((S.mark λv=>decide (v<=i)&&Hw met v).mark λv=>v==i+1) (λj=>if j=i then [] else iP S met i j):=λh1 h2=>bC.set0 (by rw [GTree.mark_len,Yj];exact Ic) (a:=Cb) (c:=[]) .nil (by rw [GTree.mark_len,Yj];exact e1) Fw h1 h2
     have lnd:Cg Cw nd=nd:=r2.live
     simp only [As,↓Au,jm,f0',xj r2 b3,xi r2 b3,jA r2 b3]
     refine Ly rfl (lS (id:=id) (off:=i*3) (by simp only [bR];exact SQ 0) Fw rfl ⟨rfl,rfl⟩ (by rw [Mg];omega) λGn Kv Hy=>?_)
     simp only [bR] at Kv Hy
     have IT:=IU Kv Hy
     have e5:((S.mark λv=>decide (v<=i)&&Hw met v).mark λv=>v==i+1)=S.mark λv=>decide (v<=i+1)&&Hw met v:=by
      rw [GTree.mark_mark]
      refine GTree.mark_congr λv h1 h2 h3=>?_
      by_cases hv:v=i+1
      .subst hv
       simp [Lj]
      .have:((v==i+1):Bool)=false:=by simpa using hv
       rw [this,Bool.or_false,show decide (v<=i+1)=decide (v<=i) by simp;omega]
     have e6:(λj=>if j=i then [] else iP S met i j)=iP S met (i+1):=funext λj=>by
      unfold iP
      by_cases hj:j=i
      .subst hj
       rw [Af rfl,Af ⟨Ex _,by rw [Lj,hg];rfl⟩]
      .rw [Ae hj]
       by_cases Pj:j<i/\(Hw met (j+1) && !S.isG (j+1))=true
       .rw [Af Pj,Af ⟨by omega,Pj.2⟩]
       .rw [Ae Pj,Ae λh=>Pj ⟨by omega,h.2⟩]
     rw [e5,e6] at IT
     have gZ:(Hw met (i+1) && !S.isG (i+1))=true:=by rw [Lj,hg];rfl
     have V9:=S.newG_succ (P:=Hw met) (i:=i)
     rw [gZ,Af rfl] at V9
     have oG:=S.newG_le (P:=Hw met) (i:=i)
     simp only [As,↓Au,b0,b10,b15,TJ,X9,X8,Hz (show S.newG (Hw met) i<_ by omega),Hz (show i<_ by omega)]
     refine ⟨Ic,by omega,IT,λj hj=>?_,by rw [V9]⟩
     have Nt:j≠id:=λe=>hj (by rw [e1,e];simp [DV.refs])
     rw [Hy j Nt,Fa j Nt,Cy j hj]
  .have oN:i=S.vers.length:=by omega
   subst oN
   simp only [As,↓Au,X9,X8,Ic]
   refine hK _ hle ?_ Cy (by simp only [bR,b0]) (by simp only [bR,b10]) (by simp only [bR,b15])
   have e1:(S.mark λv=>decide (v<=S.vers.length)&&Hw met v)=S.mark (Hw met):=GTree.mark_congr λv h1 h2 h3=>by
    rw [Ak h2,Im]
   rw [e1] at ht
   exact ht
 .have e1:(S.mark λv=>decide (v<=0)&&Hw met v)=S:=GTree.mark_none λv h1 h2 h3=>by
   rw [Ah (by omega),Sd]
  rw [e1]
  have e2:iP S met 0=S.chg:=funext λj=>by
   unfold iP
   rw [Ae λh=>absurd h.1 (Gh j)]
  rw [e2]
  exact h.toC
end
end Go.DD

/- Contracts: Reclaim stores what stays. Conditions: those that each theorem states. -/
namespace Go.DD
open Go Go.Proofs Go.Sort
def uG(S:GTree)(ch:Nat->List PCell)(W:List ME)(j:Nat):List PCell:=if j+1∈W.map Fi then S.chg j else ch j
section
variable {S:GTree} {n1 T H im ck I:Nat} {nd:DV} {met:List ME} {p:Nat->Prop} {ch:Nat->List PCell}
theorem Cc1{wc:Ko}{k:Nat}{es:ES}{Q:Exit->ES->Prop}(h:TreeC es.hp (λj=>j<es.nx/\j≠I) T H nd S ch)(hI:es.hp.get I=some (.miter (.mp im) ck [] ck))(hI2:I<es.nx/\I∉nd.refs/\I≠T/\I≠H)(hm:es.hp.get im=some (.mapo ck met))(Ib:StO ck met)(Ty:im<es.nx/\im∉nd.refs/\im≠I)(hc:MapC es.hp p S.at' met)(hp:∀ j,p j->j<es.nx/\j∉nd.refs/\j≠I)(hv:∀ v∈met.map Fi,kP S v)(IN:∀ v,kP S v->v∈met.map Fi)(Xm:∀ j,j<S.vers.length->j+1∉met.map Fi->ch j=S.chg j)
  (a0:Ad es (.t .o)=.pt T 0) (uJ:Ad es (.t (.r (.r (.l .o))))=.mp im) (tw:Ad es (.t (.r (.r (.r (.r (.r (.r .o)))))))=.pt I 0)
  (hK:∀ Ai,es.nx<=Ai.nx->TreeG Ai.hp Ai.nx T H nd S->(∀ j,j<es.nx->j≠I->j∉nd.refs->Ai.hp.get j=es.hp.get j)->Ad Ai (.t (.l (.l (.l (.l .o)))))=Ad es (.t (.l (.l (.l (.l .o)))))->Q .normal Ai) :
  wL wq wc (kN (k+6)) es (Ms 8 Q):=by
 have KK:∀ W:List ME,W.Nodup->(∀ e∈W,e∈met)->W.length<=met.length:=λW h1 h2=>Ja h1 h2
 refine QJ (λm Ai=>∃ W,m=met.length-W.length/\W.Nodup/\(∀ e∈W,e∈met)/\es.nx<=Ai.nx/\TreeC Ai.hp (λj=>j<Ai.nx/\j≠I) T H nd S (uG S ch W)/\(∀ j,j<es.nx->j≠I->j∉nd.refs->Ai.hp.get j=es.hp.get j)/\Ai.hp.get I=some (.miter (.mp im) ck (W.map ME.b) ck)/\Ad Ai (.t .o)=.pt T 0/\Ad Ai (.t (.r (.r (.l .o))))=.mp im/\Ad Ai (.t (.r (.r (.r (.r (.r (.r .o)))))))=.pt I 0/\Ad Ai (.t (.l (.l (.l (.l .o)))))=Ad es (.t (.l (.l (.l (.l .o)))))) met.length ⟨[],rfl,.nil,λe h=>(by cases h),Ag _,?_,λ_ _ _ _=>rfl,hI,a0,uJ,tw,rfl⟩ ?_
 .have:uG S ch []=ch:=funext λj=>by
   unfold uG
   rw [Ae (by simp)]
  rw [this];exact h
 rintro m Ai ⟨W,rfl,pJ,kF,hle,ht,Cy,pL,b0,b10,S3,b15⟩
 have zI:Ai.hp.get im=some (.mapo ck met):=(Cy im Ty.1 Ty.2.2 Ty.2.1).trans hm
 unfold wq
 rw [Qs,sC]
 refine G3 (id:=I) (im:=im) (ck:=ck) (es':=met) (seen:=W.map ME.b) (by simp only [Dc,bP,S3,Vk pL]) pL zI Ib.1 (λJu=>?_) λe Xy Gt Cw Fw Fa=>?_
 .have x0:∀ {An:Tr DObj},Fb An (.tup [.v (.bool false)]) 0=some (bv false):=rfl
  simp only [As,↓Au,↓Pf,↓Uf,↓Qs,↓Rk,x0]
  have hW:=A06 Ib pJ kF Ju
  refine hK _ hle ((ht.keep (B':=Bl Ai.nx) (λ_ _=>rfl) λj hj=>hj.1).toG λi hi=>?_) Cy (by simp only [bR,b15])
  unfold uG
  by_cases Ic:i+1∈W.map Fi
  .rw [Af Ic]
  .rw [Ae Ic]
   exact Xm i hi λhh=>Ic ((hW.map Fi).mem_iff.2 hh)
 .have x0:∀ {An:Tr DObj},Fb An (.tup [.v (.bool true),Qf e.k,e.v]) 0=some (bv true):=rfl
  have oJ:=(Fa im Ty.2.2).trans zI
  have P3:e∉W:=λh=>Gt (Bn.2 ⟨e,h,rfl⟩)
  simp only [As,↓Au,↓Pf,↓Uf,↓Qs,↓Rk,↓sD,↓sC,x0]
  refine G4 (e:=e) (s0:=W.map ME.b) (id:=I) (im:=im) (ck:=ck) (es':=met) (by simp only [Dc,bR,bP,S3,Vk Fw]) (by simp only [];exact Fw) (by simp only [];exact oJ) Xy Ib.2 ?_
  have k2:∀ j,p j->Cw.get j=es.hp.get j:=λj hj=>by
   have:=hp j hj
   rw [Fa j this.2.2,Cy j this.1 this.2.2 this.2.1]
  have Xz:MapC Cw p S.at' met:=hc.keep k2
  obtain ⟨ek,er⟩:=Xz e Xy
  have ev:=hv _ (Bn.2 ⟨e,Xy,rfl⟩)
  generalize hve:Fi e=v at ek er ev
  have x1:∀ {An:Tr DObj},Fb An (.tup [Qf e.k,e.v]) 0=some (iv (v:Nat)):=λ{An}=>by rw [ek];rfl
  have x2:Fb Cw (.tup [Qf e.k,e.v]) 1=some e.v:=E4 λid hid=>by
   rw [ek] at hid
   exact (er.refs id (by simpa [DV.refs,DV.refsL,Qf] using hid)).2
  have bC:TreeC Cw (λj=>j<Ai.nx/\j≠I) T H nd S (uG S ch W):=ht.keep (λj hj=>Fa j hj.2) λ_ h=>h
  simp only [As,↓Au,↓Pf,↓Uf,x1,x2,b0]
  refine Fh (OJ (k+5) _ v bC ⟨ev.1,ev.2.1⟩ ?_)
  simp only [As,↓Au,b0,b10]
  refine Fh (A27 (k+4) _ v bC ⟨ev.1,ev.2.1⟩ ?_)
  obtain ⟨dd,hl,rd⟩:=HP (v:=S.sup v) oJ Xz
  have IX:=GTree.sup_lt h.ok ev.1 ev.2.1
  have LU:(if S.sup v∈met.map Fi then S.at' (S.sup v) else [])=S.at' (S.sup v):=by
   by_cases hz:S.sup v=0
   .rw [hz]
    split <;> rfl
   .rw [Af (IN _ ⟨by omega,by have:=ev.2.1;omega,IX.2⟩)]
  rw [LU] at rd
  simp only [As,↓Au,b0,show Cq 135=(.l (.l (.l (.r (.l (.l (.l .o))))))) from rfl,show Cq 138=(.r (.r (.l (.r (.l (.l (.l .o))))))) from rfl,iZ oJ,hl]
  have tL:∀ j,p j->Bl Ai.nx j:=λj hj=>by
   have:=(hp j hj).1
   show j<Ai.nx
   omega
  obtain ⟨sc,so,sl⟩:=h.ok.chk (S.sup v)
  obtain ⟨xc,xo,xl⟩:=h.ok.chk v
  refine Fh (yj k Ai.nx _ _ _ dd e.v (S.at' (S.sup v)) (S.at' v) (Ag _) (rd.mono tL) (er.mono tL) (by omega) (λc he=>?_) λGn Dy z3 Ub mO=>?_)
  .rcases he with he | he
   .exact ⟨AE sc c he,(so.e c he).1,F6 sc c he,(so.e c he).2.1⟩
   .exact ⟨AE xc c he,(xo.e c he).1,F6 xc c he,(xo.e c he).2.1⟩
  have Iw:=Ub.le
  have IU:TreeC Gn (λj=>j<Dy/\j≠I) T H nd S (uG S ch W):=bC.keep (λj hj=>Ub.same j hj.1) λj hj=>⟨by omega,hj.2⟩
  obtain ⟨_,_,⟨lv,nc⟩,⟨f0,_,_⟩,_,_,_⟩:=IU.verV (v:=v) ⟨ev.1,ev.2.1⟩
  obtain ⟨id,fl,e1,KZ,zT,hid,aU3,aU4,_⟩:=IU.row (by have:=ev.1;have:=ev.2.1;omega)
  have ev1:=ev.1
  have ev2:=ev.2.1
  have SQ:Fx (Bz 3 nd (v-1)) 0=.pt id ((v-1)*3):=by
   rw [e1]
   show DV.pt id (0+(v-1)*3+0)=_
   rw [Df,Lb]
  simp only [As,↓Au,b0,↓Zt,show Cq 134=(.r (.r (.r (.l (.l (.l (.l .o))))))) from rfl,lv,nc,f0]
  refine lS (id:=id) (off:=(v-1)*3) (by simp only [bR];exact SQ) KZ (by simp only [Ha,bR];exact mO.live) mO.ok (by omega) λFq Kf Fl=>?_
  simp only [bR] at Kf Fl
  have IT:=IU.set0 (i:=v-1) (by omega) (a:=z3) (c:=S.chg (v-1)) (by
   have e9:S.chg (v-1)=Rw (Hf [S.at' (S.sup v),S.at' v]):=by
    unfold GTree.chg
    rw [show v-1+1=v by omega,ev.2.2,Ae (by simp)]
   rw [e9]
   refine mO.mono λj hj=>?_
   have h1:Ai.nx<=j:=hj.1
   have h2:=bC.th
   exact ⟨⟨hj.2,by omega⟩,by have:=h2.2.1.1;omega,by have:=h2.2.2.1;omega,λhh=>by have:=(bC.nr j hh).1.1;omega⟩) e1 KZ Kf Fl
  simp only [As,↓Au,b0,b10,b15,S3]
  have Xh:(W ++ [e]).Nodup:=Ij.2 ⟨pJ,by simp,λa ha b hb=>by rw [Aj.1 hb];exact λh=>P3 (h ▸ ha)⟩
  have Uj:∀ x∈W ++ [e],x∈met:=λx hx=>(Ax.1 hx).elim (kF x) λh=>by rw [Aj.1 h];exact Xy
  have hlen:=KK (W ++ [e]) Xh Uj
  rw [Ao,Bk] at hlen
  have e10:(λj=>if j=v-1 then S.chg (v-1) else uG S ch W j)=uG S ch (W ++ [e]):=funext λj=>by
   have em:(W ++ [e]).map Fi=W.map Fi ++ [v]:=by rw [Cn,<- hve];rfl
   unfold uG
   rw [em]
   by_cases hj:j=v-1
   .subst hj
    rw [Af rfl,Af (Ce _ (by rw [Aj];omega))]
   .rw [Ae hj]
    by_cases Pj:j+1∈W.map Fi
    .rw [Af Pj,Af (Cj _ Pj)]
    .rw [Ae Pj,Ae λhh=>(Ax.1 hh).elim Pj λh=>by rw [Aj] at h;omega]
  rw [e10] at IT
  have JT:∀ j,j∉nd.refs->j≠id:=λj hj h=>hj (by rw [e1,h];simp [DV.refs])
  refine ⟨met.length-(W ++ [e]).length,by rw [Ao,Bk];omega,W ++ [e],rfl,Xh,Uj,by omega,IT,λj h1 h2 h3=>?_,?_⟩
  .rw [Fl j (JT j h3),Ub.same j (by omega),Fa j h2,Cy j h1 h2 h3]
  .rw [Fl I (JT I hI2.2.1),Ub.same I (by have:=hI2.1;omega),Fw,Cn];rfl
end
end Go.DD

/- Contracts: Reclaim. Conditions: those that each theorem states. -/
namespace Go.DD
open Go Go.Proofs Go.Sort
def cwR(k:Nat):Ko:=Rl Tryz.prog 1000000 (sk k) (λf=>Nat.beq f 95||Nat.beq f 999999) false (kN k)
theorem C57{k:Nat} : S5 Tryz.prog (cwR k):=PD (Z7 (n:=1000000) mixed Wt OR k) C52 mixed
structure RecM (S:GTree) (init:List Int) (ms:List Nat):Prop where
 nu:ms.Nodup
 mv:∀ v∈ms,kP S v
 mn:∀ P,Clo S init P->∀ v∈ms,P v
 it:∀ x∈init,x.toNat∈ms
 cl:∀ v w,v∈ms->w∈ms->S.baseG v w∈ms
def Qi(ms:List Nat)(v:Nat):Bool:=!ms.contains v
theorem RcM.fin{S:GTree}{init:List Int}{Nr hp:Tr DObj}{n1 T H im nx:Nat}{nd z:DV}{met:List ME}(h:RcM S init Nr n1 T H im nd z [] met hp nx):RecM S init (met.map Fi):=
 ⟨h.nu,h.mv,λP hP=>(h.mn P hP).1,λx hx=>(h.it x hx).elim id λh=>(by cases h),λv w hv hw=>(h.cl v w hv hw).elim id λh=>(by cases h)⟩
section
variable {S:GTree} {T H:Nat} {nd dk:DV} {ks:List Int}
theorem Bq9{k:Nat}{hp:Tr DObj}{nx:Nat}{K:DV->Tr DObj->Nat->Prop}(h:TreeG hp nx T H nd S)(hB:S.OKB)(hk:RL rInt hp (Bl nx) dk ks)(W3:ks.length<=100)(hhl:S.heads.length<=100)(zL:∀ x∈ks,1<=x/\x<=(S.vers.length:Nat))
  (hE:∀ An Bm,Al hp nx An Bm->(∃ x∈ks,S.isG x.toNat=true)->K (.tup [iv 0,iv 23]) An Bm)
  (hK:∀ An Bm ms,nx<=Bm->(∀ j,j<nx->j∉nd.refs->An.get j=hp.get j)->RecM S (ks++S.heads.map λx=>x.2) ms->TreeG An Bm T H nd (S.mark (Qi ms))->K (.tup [iv (S.newG (Qi ms) S.vers.length:Nat),iv 0]) An Bm):cwR (k+208) 36 [.pt T 0,dk] hp nx K:=by
 refine Cu5 WR WO WM WI C56 (bU WK rfl) λes e1 e2 he=>?_
 have a0:Ad es (.t .o)=.pt T 0:=he 0 _ rfl
 have a1:Ad es (.t (.l .o))=dk:=he 1 _ rfl
 subst e1 e2
 have hn:=h.ok.n
 unfold w36
 rw [Qs,Rk]
 simp only [As,↓Au,a0,↓Qs,↓Rk]
 refine Fh (Yy (k+207) _ h ?_)
 simp only [As,↓Au,a1,↓Qs,↓Rk,hk.len]
 refine EW.up ks.length (λi Ai=>Ai.hp=es.hp/\Ai.nx=es.nx/\Ad Ai (.t .o)=.pt T 0/\Ad Ai (.t (.l .o))=dk/\Ad Ai (.t (.r (.l (.l (.r .o)))))=dk/\Ad Ai (.t (.l (.r (.l (.r .o)))))=iv ks.length/\Ad Ai (.t (.r (.r (.l (.r .o)))))=iv (i:Nat)/\∀ j,(hj:j<ks.length)->j<i->S.isG (ks[j]).toNat=false) ?_ ⟨rfl,rfl,by simp only [bR,a0],by simp only [bR,a1],by simp only [bR],by simp only [bR],by simp only [bR];rfl,λj _ hj=>absurd hj (Gh j)⟩ (by omega)
 rintro i Ai hi ⟨g1,g2,b0,b1,Y0,qD,lQ,Ju⟩
 unfold Cm6
 have h1:TreeG Ai.hp Ai.nx T H nd S:=by rw [g1,g2];exact h
 have Dd:RL rInt Ai.hp (Bl Ai.nx) dk ks:=by rw [g1,g2];exact hk
 rw [<- g1,<- g2] at hE hK
 by_cases Ic:i<ks.length
 .have h0:=zL _ (Be Ic)
  obtain ⟨v,hv⟩:∃ v:Nat,ks[i]=(v:Int):=⟨ks[i].toNat,by omega⟩
  have hvr:1<=v/\v<=S.vers.length:=by
   have:=zL _ (Be Ic)
   omega
  simp only [As,↓Au,b0,Y0,qD,lQ,Ic,kS Dd Ic,ints_at Dd Ic,hv]
  refine Fh (yi (k+206) _ v h1 hvr ?_)
  cases hg:S.isG v with
  | true=>
   rw [Af rfl]
   simp only [As,↓Au,bP,b0,b1,Y0,qD,lQ]
   simp only [As,show decide (¬ (23:Int)=0)=true from rfl]
   exact hE _ _ (Al.refl _ _) ⟨_,Be Ic,by rw [hv];exact hg⟩
  | false=>
   rw [Ae (by simp)]
   simp only [As,↓Au,b0,b1,Y0,qD,lQ,Hz (show i<_ by omega)]
   refine ⟨Ic,g1,g2,λj hj Nt=>?_⟩
   by_cases Pj:j=i
   .subst Pj
    rw [hv];exact hg
   .exact Ju j hj (by omega)
 .have oN:i=ks.length:=by omega
  subst oN
  have jN:∀ x∈ks,S.isG x.toNat=false:=λx hx=>by
   obtain ⟨j,hj,rfl⟩:=Em hx
   exact Ju j hj hj
  obtain ⟨d,aa,zz,hT,⟨_,f3,f4,_⟩,⟨_,_,l3,l4⟩,_⟩:=h1.ld
  obtain ⟨ck,X6,hH,hM,mh⟩:=h1.m
  have hth:=h1.th
  simp only [As,↓Au,bP,b0,b1,qD,lQ,Ic,↓Qs,↓sC,↓Pf,↓Zt,Vk hT,eJ,f4,l4]
  refine Fh (Cb5 (k+207) _ _ _ hH hth.2.2 λCw Fw Fa=>?_)
  have k2:∀ j,j<Ai.nx->Cw.get j=Ai.hp.get j:=λj hj=>Fa j (by omega)
  simp only [As,↓Au,bP,↓Qs,↓Rk]
  refine G2 ?_
  simp only [Am,Az,bR]
  have lb:X6.length=S.heads.length:=by
   have:=congrArg List.length hM
   rwa [Bp,Bp] at this
  refine Bq8 (k+207) ⟨Ex _,by omega⟩ Fw ((k2 H hth.2.2).trans hH) hM mh (by omega) λGn Dy z l Ub rz Ze=>?_
  have Iw:=Ub.le
  simp only [↓Au,↓Pf]
  have k3:∀ j,j<Ai.nx->Gn.get j=Ai.hp.get j:=λj hj=>(Ub.same j (by omega)).trans (k2 j hj)
  have Hy:RL rInt Gn (Bl Ai.nx) dk ks:=Dd.keep k3
  refine eK (fl:=[dk,z]) rfl (by simp only [Am,Az,Dc,bR,bP,Hy.live,rz.live];exact Cj3 Hy.ok rz.ok) λFq Kf Fl=>?_
  simp only [bR] at Kf Fl
  have k4:∀ j,j<Dy->Fq.get j=Gn.get j:=λj hj=>Fl j (by omega)
  have tQ:RL rInt Fq (Bl (Dy+1)) dk ks:=(Hy.keep λj (hj:j<Ai.nx)=>k4 j (by omega)).mono λj (hj:j<Ai.nx)=>by show j<Dy+1;omega
  have DL:RL rInt Fq (Bl (Dy+1)) z l:=(rz.keep λj hj=>k4 j hj.2).mono λj hj=>by
   have:=hj.2
   show j<Dy+1
   omega
  have rr:RL Po Fq (Bl (Dy+1)) (.ms Dy 0 2 1) [ks,l]:=.ms Dy 0 [dk,z] [ks,l] Kf (Ex _) (Ag _) ⟨[dk],[z],rfl,⟨dk,rfl,tQ⟩,[z],[],rfl,⟨z,rfl,DL⟩,rfl⟩ λc hc=>by
   simp only [Ap,Cm,or_false] at hc
   rcases hc with rfl | rfl
   .exact Hy.same (by decide)
   .exact rz.same (by decide)
  have RU:l.length=S.heads.length:=by
   have:=Ze.length_eq
   rwa [Bp] at this
  have qY:[ks,l].flatten=ks++l:=by simp
  have kh:[ks,l].flatten.length<900000:=by rw [qY,Ao];omega
  simp only [As,↓Au,↓Pf]
  refine Fh (B36 (k+206) _ _ _ (Dy+1) (.ms Dy 0 2 1) [ks,l] (Ag _) rr kh (by show 2<900000;decide) λGr Ia q bI oq hq=>?_)
  rw [qY] at oq
  have Oi:=bI.le
  simp only [As,↓Au,↓Pf,↓Uf]
  refine Bx4 λIv cQ Ve=>?_
  simp only [bR] at cQ Ve
  have k6:∀ j,j<Ia->Iv.get j=Gr.get j:=λj hj=>Ve j (by omega)
  have Zr:Al Ai.hp Ai.nx Iv (Ia+1):=⟨by omega,λj hj=>by rw [k6 j (by omega),bI.same j (by omega),k4 j (by omega),k3 j hj]⟩
  have h6:TreeG Iv (Ia+1) T H nd S:=h1.keep Zr
  simp only [As,↓Au,bP,↓Qs,↓Rk,↓sD]
  have Vf:∀ x∈ks++l,∃ v:Nat,x=(v:Nat)/\kP S v:=λx hx=>by
   rcases Ax.1 hx with hx | hx
   .have:=zL x hx
    exact ⟨x.toNat,by omega,by omega,by omega,jN x hx⟩
   .obtain ⟨y,hy,rfl⟩:=Bn.1 (Ze.mem_iff.1 hx)
    have:=h.ok.h y hy
    exact ⟨y.2.toNat,by omega,by omega,by omega,this.2.2⟩
  have g0:RcM S (ks++l) Ai.hp Ai.nx T H Ia nd q (ks++l) [] Iv (Ia+1):=by
   refine ⟨Zr,(QL.of oq).keep λj hj=>k6 j (hq j hj).2,λj hj=>?_,⟨by omega,Ex _⟩,⟨0,cQ,λe he=>(by cases he),.nil⟩,λe he=>(by cases he),.nil,λv hv=>(by cases hv),Vf,λP hP=>⟨λv hv=>(by cases hv),hP.1⟩,λx hx=>.inr hx,λv w hv=>(by cases hv),?_⟩
   .have:=hq j hj
    exact ⟨by omega,by omega,by omega⟩
   .rw [Ao];omega
  refine Cb9 (k:=k) hB h1 g0 (by simp only [bR,b0]) (by simp only [bR]) (by simp only [bR]) λpU z7 met g7 c0 c10=>?_
  have k7:∀ j,j<Ai.nx->pU.hp.get j=Ai.hp.get j:=g7.al.same
  have h7:TreeG pU.hp Ai.nx T H nd S:=h1.keep ⟨Ag _,k7⟩
  obtain ⟨_,_,_,hT7,⟨_,f37,_,_⟩,⟨_,_,l37,_⟩,_⟩:=h7.ld
  obtain ⟨TG,gm7,ng⟩:=g7.m
  have KG:Oc pU.hp nd=some (.v (.int .i64 (S.vers.length:Int))):=by rw [h7.nl.len,S.nodes_len]
  have qW:=h1.nr
  have g7i:=g7.i
  have tL:∀ j,PC Ai.nx T H pU.nx Ia nd z7 j->j∉nd.refs/\j<pU.nx:=λj hj=>by
   rcases hj with hj | hj
   .exact ⟨hj.2.2.2,by omega⟩
   .exact ⟨λhh=>by have:=(qW j hh).1;omega,hj.2.1⟩
  have Ke:∀ v,v∈met.map Fi↔Hw met v=false:=λv=>by
   unfold Hw
   rw [Bool.not_eq_false',Ov]
  have O0:∀ x∈S.heads,Hw met x.2.toNat=false:=λx hx=>(Ke _).1 (g7.fin.it x.2 (Ce _ (Ze.mem_iff.2 (Bn.2 ⟨x,hx,rfl⟩))))
  simp only [As,↓Au,bP,c0,↓Zt,Vk hT7,eJ,f37,l37,KG]
  refine Cc0 (k:=k+208) (n1:=Ai.nx) (im:=Ia) (ck:=TG) (met:=met) h7 (by show Ai.nx<=pU.nx;exact g7.al.le) gm7 ⟨g7i.2,λhh=>by have:=(qW _ hh).1;omega⟩ g7.c (λj hj=>(tL j hj).1) O0 (by simp only [bR,c0]) (by simp only [bR,c10]) (by simp only [bR]) (by simp only [bR]) (by simp only [bR]) (by simp only [bR]) λfW aL RK LF d0 d10 d15=>?_
  have aCs:pU.nx<=fW.nx:=aL
  have zS:∀ j,j∉nd.refs->fW.hp.get j=pU.hp.get j:=LF
  simp only [As,↓Au,bP,d10,↓Qs,↓Rk,↓sD]
  have ni:fW.hp.get Ia=some (.mapo TG met):=(LF Ia λhh=>by have:=(qW _ hh).1;omega).trans gm7
  refine vh (im:=Ia) (ck:=TG) (es':=met) (by simp only [Dc,bR,show Cq 125=(.l (.r (.r (.r (.r (.r .o)))))) from rfl,iZ ni]) ni λLi Qv Ps=>?_
  simp only [bR] at Qv Ps
  have k9:∀ j,j<fW.nx->Li.get j=fW.hp.get j:=λj hj=>Ps j (by omega)
  have jU:=g7.al.le
  have k89:∀ j,PC Ai.nx T H pU.nx Ia nd z7 j->Li.get j=pU.hp.get j:=λj hj=>by
   have:=tL j hj
   rw [k9 j (by omega),zS j this.1]
  have LU:(S.mark (Hw met)).at'=S.at':=funext λv=>GTree.mark_at.1
  have yU:∀ v,kP (S.mark (Hw met)) v↔v∈met.map Fi:=λv=>by
   constructor
   .rintro ⟨q1,q2,q3⟩
    rw [GTree.mark_len] at q2
    rw [GTree.mark_is q1 q2,Kr] at q3
    exact (Ke v).2 q3.2
   .intro hv
    have:=g7.mv v hv
    refine ⟨this.1,by rw [GTree.mark_len];exact this.2.1,?_⟩
    rw [GTree.mark_is this.1 this.2.1,this.2.2,(Ke v).1 hv];rfl
  refine Cc1 (k:=k+202) (S:=S.mark (Hw met)) (ch:=iP S met S.vers.length) (p:=PC Ai.nx T H pU.nx Ia nd z7) (I:=fW.nx) (im:=Ia) (ck:=TG) (met:=met) (T:=T) (H:=H) (nd:=nd) (RK.keep (λj (hj:j<Ai.nx)=>k9 j (by omega)) λj (hj:j<Ai.nx)=>⟨by show j<fW.nx+1;omega,by omega⟩) Qv ⟨Ex _,λhh=>by have:=(qW _ hh).1;omega,by omega,by omega⟩ ((k9 Ia (by omega)).trans ni) ng ⟨by show Ia<fW.nx+1;omega,λhh=>by have:=(qW _ hh).1;omega,by omega⟩ (by rw [LU];exact g7.c.keep k89) (λj hj=>by have:=tL j hj;exact ⟨by show j<fW.nx+1;omega,this.1,by omega⟩) (λv hv=>(yU v).2 hv) (λv hv=>(yU v).1 hv) (λj hj KO=>?_) (by simp only [bR,d0]) (by simp only [bR,d10]) (by simp only [bR]) λesA jc hA jz e15=>?_
  .rw [GTree.mark_len] at hj
   have ho:Hw met (j+1)=true:=by
    cases hx:Hw met (j+1) with
    | true=>rfl
    | false=>exact absurd ((Ke _).2 hx) KO
   have e1:(S.mark (Hw met)).chg j=[]:=by
    unfold GTree.chg
    rw [GTree.mark_is (by omega) (by omega),ho,Bool.or_true,Af rfl]
   rw [e1]
   unfold iP
   cases hg:S.isG (j+1) with
   | false=>rw [Af ⟨hj,by rw [ho];rfl⟩]
   | true=>
    rw [Ae λh=>by rw [Bool.not_true,Se] at h;exact absurd h.2 (by simp)]
    unfold GTree.chg
    rw [hg,Af rfl]
  .have aCr:fW.nx+1<=esA.nx:=jc
   simp only [bR,d15] at e15
   simp only [As,↓Au,e15]
   refine hK _ _ (met.map Fi) (by omega) (λj h1 h2=>?_) ?_ hA
   .rw [jz j (by show j<fW.nx+1;omega) (by omega) h2]
    show Li.get j=_
    rw [k9 j (by omega),zS j h2,k7 j h1]
   .have hm:=g7.fin
    have lJ:∀ x,x∈ks++l↔x∈ks++S.heads.map λx=>x.2:=λx=>by
     rw [Ax,Ax,Ze.mem_iff]
    exact ⟨hm.nu,hm.mv,λP hP=>hm.mn P ⟨λx hx=>hP.1 x ((lJ x).1 hx),hP.2⟩,λx hx=>hm.it x ((lJ x).2 hx),hm.cl⟩
end
end Go.DD

/- Plain: Apply has one answer; a branch of versions as a tree; what Reclaim leaves of it. Arrays in a row. Conditions: those that each theorem states. -/
namespace Go.DD
open Go Go.Proofs Go.Sort
theorem Bn7:∀ {l m:List PCell},Ky l->Ky m->l.Perm m->l=m
 | [],m,_,_,h=>(List.nil_perm.1 h).symm
 | a::l,[],_,_,h=>absurd h.length_eq (by simp)
 | a::l,b::m,h1,h2,h=>by
  obtain ⟨p1,p2⟩:=Eg.1 h1
  obtain ⟨q1,q2⟩:=Eg.1 h2
  have iL:a=b:=by
   rcases Ap.1 (h.mem_iff.1 (Ct ..)) with h3 | h3
   .exact h3
   .rcases Ap.1 (h.mem_iff.2 (Ct ..)) with h4 | h4
    .exact h4.symm
    .exact absurd rfl (gQ (mC (q1 a h3) (p1 b h4)))
  subst iL
  rw [Bn7 p2 q2 (List.Perm.cons_inv h)]
theorem yr{x r r':PArr}{l:List PCell}{e e':Int}(h:uO x l e r)(h':uO x l e' r'):e=e'/\r=r':=by
 rcases h with ⟨a1,a2,a3⟩ | ⟨a1,a2,a3,a4⟩ | ⟨a1,a2,a3,a4,a5⟩ | ⟨a1,a2,a3,a4,m,a5,a6,a7⟩ <;> rcases h' with ⟨b1,b2,b3⟩ | ⟨b1,b2,b3,b4⟩ | ⟨b1,b2,b3,b4,b5⟩ | ⟨b1,b2,b3,b4,m',b5,b6,b7⟩
 all_goals first | exact absurd a1 b1 | exact absurd b1 a1 | exact absurd a2 b2 | exact absurd b2 a2 | exact absurd a3 b3 | exact absurd b3 a3 | skip
 .exact ⟨a2.trans b2.symm,a3.trans b3.symm⟩
 .exact ⟨a3.trans b3.symm,a4.trans b4.symm⟩
 .exact ⟨a4.trans b4.symm,a5.trans b5.symm⟩
 .exact ⟨a4.trans b4.symm,by rw [a7,b7,Bn7 a6 b6 (a5.trans b5.symm)]⟩
def Tn:ByteArray:=bs [109,97,105,110]
def Eh(x:PArr)(cs:List (List PCell)):GTree:=⟨x.dims,x.attrs,cs.mapIdx λi c=>⟨c,if i=0 then [] else [(i:Int)],false⟩,[(Tn,(cs.length:Int))]⟩
section
variable {x:PArr} {cs:List (List PCell)}
theorem mB:(Eh x cs).vers.length=cs.length:=List.length_mapIdx
theorem B44(c:List PCell)(h:cs≠[]):(Eh x cs).add Tn c [((cs.length:Nat):Int)]=Eh x (cs ++ [c]):=by
 have h0:0<cs.length:=Lu.2 h
 refine GTree.vers_ext rfl rfl ?_ ?_
 .show Pv [(Tn,(cs.length:Int))] Tn (((Eh x cs).vers.length+1:Nat):Int)=[(Tn,(((cs ++ [c]).length:Nat):Int))]
  rw [mB,Ao]
  unfold Pv
  rw [Af rfl];rfl
 .show (cs.mapIdx λi c=>(⟨c,if i=0 then [] else [(i:Int)],false⟩:GVer)) ++ [⟨c,[((cs.length:Nat):Int)],false⟩]=(cs ++ [c]).mapIdx λi c=>(⟨c,if i=0 then [] else [(i:Int)],false⟩:GVer)
  rw [List.mapIdx_append]
  congr 1
  simp only [List.mapIdx_cons,List.mapIdx_nil,Df]
  rw [Ae (by omega)]
theorem B45{i:Nat}(h:i<cs.length):(Eh x cs).vers[i]?=some ⟨cs[i],if i=0 then [] else [(i:Int)],false⟩:=by
 show (cs.mapIdx _)[i]?=_
 rw [List.getElem?_mapIdx,Aa h];rfl
theorem Z3{i:Nat}(h:i<cs.length):(Eh x cs).at' (i+1)=cs[i]/\(Eh x cs).parG (i+1)=(if i=0 then [] else [(i:Int)])/\(Eh x cs).isG (i+1)=false:=by
 have e:=B45 (x:=x) h
 refine ⟨?_,?_,?_⟩
 .show (match (Eh x cs).vers[i]? with
   | some x=>x.cells
   | none=>[])=_
  rw [e]
 .show (match (Eh x cs).vers[i]? with
   | some x=>x.par
   | none=>[])=_
  rw [e]
 .show (match (Eh x cs).vers[i]? with
   | some x=>x.gone
   | none=>false)=_
  rw [e]
theorem PB{v:Nat}(h1:1<=v)(h2:v<=cs.length):(Eh x cs).isG v=false:=by
 obtain ⟨i,rfl⟩:∃ i,v=i+1:=⟨v-1,by omega⟩
 exact (Z3 (by omega)).2.2
theorem zt:∀ {v u:Nat},1<=u->u<=v->v<=cs.length->(Eh x cs).Anc v u
 | 0,u,h1,h2,_=>by omega
 | v+1,u,h1,h2,h3=>by
  by_cases h:u=v+1
  .subst h;exact .refl _
  .have e:=(Z3 (x:=x) (i:=v) h3).2.1
   rw [Ae (by omega)] at e
   exact .step (q:=(v:Int)) (by rw [e];simp) (zt (v:=v) h1 (by omega) (by omega))
theorem B46:∀ v,2<=v->v<=(Eh x cs).vers.length->(Eh x cs).parG v≠[]:=λv h1 h2=>by
 rw [mB] at h2
 obtain ⟨i,rfl⟩:∃ i,v=i+1:=⟨v-1,by omega⟩
 rw [(Z3 (by omega)).2.1,Ae (by omega)]
 simp
theorem A29(hS:(Eh x cs).OK){v w:Nat}(h1:1<=v)(h2:v<=cs.length)(h3:1<=w)(h4:w<=cs.length):(Eh x cs).baseG v w=min v w:=
 GTree.base_uniq hS B46 ⟨h1,by rw [mB];exact h2⟩ ⟨h3,by rw [mB];exact h4⟩ (zt (by omega) (by omega) h2) (zt (by omega) (by omega) h4) λj ha hb=>by
  have:=ha.le hS h1 (by rw [mB];exact h2)
  have:=hb.le hS h3 (by rw [mB];exact h4)
  omega
theorem B47(hS:(Eh x cs).OK):(Eh x cs).OKB:=⟨B46,λv w h1 h2 h3 h4 _ _=>by
 rw [mB] at h2 h4
 rw [A29 hS h1 h2 h3 h4]
 exact PB (by omega) (by omega)⟩
theorem B48(hS:(Eh x cs).OK){ks:List Int}{ms:List Nat}(h:RecM (Eh x cs) (ks++(Eh x cs).heads.map λx=>x.2) ms)(hk:∀ y∈ks,1<=y/\y<=(cs.length:Nat))(v:Nat):v∈ms↔((v:Int)∈ks\/v=cs.length):=by
 have hi:(ks++(Eh x cs).heads.map λx=>x.2)=ks ++ [((cs.length:Nat):Int)]:=rfl
 rw [hi] at h
 constructor
 .intro hv
  refine h.mn (λv=>(v:Int)∈ks\/v=cs.length) ⟨λy hy=>?_,λa b ha hb pa pb=>?_⟩ v hv
  .rcases Ax.1 hy with hy | hy
   .have:=hk y hy
    exact .inl (by rw [Int.toNat_of_nonneg (by omega)];exact hy)
   .rw [Aj.1 hy]
    exact .inr (Ee _)
  .have a2:=ha.2.1
   have b2:=hb.2.1
   rw [mB] at a2 b2
   rw [A29 hS ha.1 a2 hb.1 b2]
   rcases Nat.le_total a b with iL | iL
   .rw [Nat.min_eq_left iL];exact pa
   .rw [Nat.min_eq_right iL];exact pb
 .rintro (hv | rfl)
  .have:=h.it _ (Cj _ hv)
   rwa [Ee] at this
  .have:=h.it ((cs.length:Nat):Int) (Ce _ (by simp))
   rwa [Ee] at this
end
def Lg(P:Nat->Bool)(i:Nat):Nat:=((List.range i).filter λj=>!P (j+1)).length
theorem A30{P:Nat->Bool}{i:Nat} : Lg P (i+1)=Lg P i+if P (i+1)=true then 0 else 1:=by
 unfold Lg
 rw [Ih,Jn,Ao]
 congr 1
 cases h:P (i+1) with
 | true=>rw [Af rfl,Pe,Ae (by rw [h];simp)];rfl
 | false=>rw [Ae (by simp),Pe,Af (by rw [h];rfl)];rfl
theorem Bn8{S:GTree}{P:Nat->Bool} : ∀ {i:Nat},i<=S.vers.length->(∀ v,1<=v->v<=S.vers.length->S.isG v=false)->S.newG P i+Lg P i=i/\(Ng (S.mark P) i).length=Lg P i
 | 0,_,_=>⟨rfl,rfl⟩
 | i+1,hi,h=>by
  obtain ⟨a,b⟩:=Bn8 (i:=i) (by omega) h
  have hg:=h (i+1) (by omega) hi
  rw [GTree.newG_succ,A30,A28,Ao,b,GTree.mark_is (by omega) hi,hg]
  cases hp:P (i+1) with
  | true=>simp;omega
  | false=>simp;omega
theorem Bn9{S:GTree}{P:Nat->Bool} : ∀ {i:Nat},S.newG P i=0->∀ v,1<=v->v<=i->S.isG v=false->P v=false
 | 0,_,v,h1,h2,_=>by omega
 | i+1,h,v,h1,h2,hg=>by
  rw [GTree.newG_succ] at h
  by_cases hv:v=i+1
  .subst hv
   rw [hg,Bool.not_false,Bool.and_true] at h
   cases hp:P (i+1) with
   | true=>rw [hp,Af rfl] at h;omega
   | false=>rfl
  .exact Bn9 (i:=i) (by omega) v h1 (by omega) hg
theorem B49{k':IntKind}{a c:Nat}(hc:c<16):Dm .shr (.v (.int .u16 (a:Int))) (.v (.int k' (c:Int)))=some (.v (.int .u16 ((a / 2 ^ c:Nat):Int))):=by
 have e:qO .shr .u16 (a:Int) (c:Int)=some (.int .u16 ((a / 2 ^ c:Nat):Int)):=by
  unfold qO
  rw [Ae (by omega)]
  simp only [Ee,IntKind.bits]
  rw [show min c 16=c by omega]
  have:(a:Int).fdiv (2 ^ c)=((a / 2 ^ c:Nat):Int):=by
   rw [Int.fdiv_eq_ediv_of_nonneg _ (Int.pow_nonneg (by decide))]
   push_cast;rfl
  rw [this]
 simp [Dm,Nv,Qm,e]
theorem vg{hp:Tr DObj}{p:Nat->Prop}{d:DV}{l:List (List PCell)}(h:RL rChs hp p d l){i:Nat}(hi:i<l.length):∃ a,RL rChange hp p a l[i]/\Fy hp none (Bz 1 d i)=some a/\Qu hp 1 d (.v (.int .i64 (i:Int)))=some (Bz 1 d i):=by
 obtain ⟨ds,hr,_,h0,_⟩:=h.at hi
 obtain ⟨a,rfl,h3⟩:=hr
 exact ⟨a,h3,h0 _ rfl,h.ia hi⟩
section
variable {hp:Tr DObj} {nx T H:Nat} {nd:DV} {S:GTree} (k:Nat) (K:DV->Tr DObj->Nat->Prop)
theorem Cv2(v:Nat)(h:TreeG hp nx T H nd S)(hv:1<=v/\v<=S.vers.length)(hg:S.isG v=true)
  (hK:∀ An Bm,Al hp nx An Bm->K (.tup [.agg [Cb,Cb,Cb],iv 23]) An Bm):KW (kN (k+3)) (.fn 31) [.pt T 0,iv (v:Nat)] hp nx K:=by
 refine bW (Hl (by decide)) t31 (Ab rfl) λes e1 e2 he=>?_
 have a0:Ad es (.t .o)=.pt T 0:=he 0 _ rfl
 have a1:Ad es (.t (.l .o))=iv (v:Nat):=he 1 _ rfl
 unfold ZC
 subst e1 e2
 simp only [↓Au]
 refine Rz λEi Dn Dd=>?_
 simp only [bR] at Dn Dd
 have Zs:Al es.hp es.nx Ei (es.nx+1):=⟨by omega,λj hj=>Dd j (by omega)⟩
 have h1:=h.keep Zs
 simp only [As,↓Au,a0]
 refine Fh (Yy (k+1) _ h1 ?_)
 simp only [As,↓Au,a0,a1]
 refine Fh (yi k _ v h1 hv ?_)
 rw [hg,Af rfl]
 simp only [As,↓Au,show decide (¬ (23:Int)=0)=true from rfl]
 refine OS (cs:=[Cb,Cb,Cb]) rfl ?_
 simp only [As,↓Au]
 refine Qx (n:=3) (id:=es.nx) (ds:=[Cb,Cb,Cb]) (by simp only [bR]) Dn (by simp only [Ha,bR];exact Wm λid hid=>by simp [DV.refs,DV.refsL,Cb] at hid) rfl rfl λKl Pt Lr=>?_
 simp only [bR] at Pt Lr
 simp only [As,↓Au]
 exact ⟨_,_,uL (by simp only [bR,bP]) Pt rfl,by rw [S8];simp only [bR,bP,Sa],hK _ _ ⟨by omega,λj hj=>(Lr j (by omega)).trans (Zs.same j hj)⟩⟩
end
end Go.DD

/- Chapter 08: the result of Apply is written. Conditions: those that each theorem states. -/
namespace Go.DD
open Go Go.Proofs
end Go.DD

/- Chapter 08: VersionApplies returns true: as a contract. Conditions: none. -/
namespace Go.DD
open Go Go.Proofs
end Go.DD
