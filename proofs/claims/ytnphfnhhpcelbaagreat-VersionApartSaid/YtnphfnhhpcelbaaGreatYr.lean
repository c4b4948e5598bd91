/- A part. -/
import Derived.Test.YtnphfnhhpcelbaaGreatYq
import Derived.Test.YtnphfnhhpcelbaaGreatYm
set_option linter.unusedSectionVars false
set_option linter.unusedVariables false
namespace Go.DD
open Go Go.Proofs Go.Sort
theorem B01(z:Int):∃ y:Nat,y<18446744073709551616/\IntKind.u64.wrap z=(y:Int):=by
 refine ⟨(z % 18446744073709551616).toNat,by omega,?_⟩
 have h:IntKind.u64.wrap z=z % 18446744073709551616:=by
  simp [IntKind.wrap,IntKind.bits,IntKind.signed]
 rw [h];omega
theorem FJ(x c:Nat):∃ y:Nat,y<18446744073709551616/\Cl .shl (.v (.int .u64 (x:Int))) (.v (.int .u64 (c:Int)))=some (.v (.int .u64 (y:Int))):=by
 obtain ⟨y,h1,h2⟩:=B01 ((x:Int)*2 ^ (min c 64))
 refine ⟨y,h1,?_⟩
 have e:nB .shl .u64 (x:Int) (c:Int)=some (.int .u64 (y:Int)):=by
  unfold nB
  rw [Ae (by omega)]
  simp only [Fy,IntKind.bits]
  rw [h2]
 simp [Cl,Lw,Nh,e]
theorem ej(x c:Nat)(hx:x<18446744073709551616):∃ y:Nat,y<18446744073709551616/\Cl .shr (.v (.int .u64 (x:Int))) (.v (.int .u64 (c:Int)))=some (.v (.int .u64 (y:Int))):=by
 refine ⟨x / 2 ^ (min c 64),Nat.lt_of_le_of_lt (Xp _ _) hx,?_⟩
 have e:nB .shr .u64 (x:Int) (c:Int)=some (.int .u64 ((x / 2 ^ (min c 64):Nat):Int)):=by
  unfold nB
  rw [Ae (by omega)]
  simp only [Fy,IntKind.bits]
  have h:(x:Int).fdiv (2 ^ (min c 64))=((x / 2 ^ (min c 64):Nat):Int):=by
   rw [Int.fdiv_eq_ediv_of_nonneg _ (Int.le_of_lt (Int.pow_pos (by decide)))]
   push_cast;rfl
  rw [h]
 simp [Cl,Lw,Nh,e]
theorem oA(x y:Nat):∃ z:Nat,z<18446744073709551616/\Cl .xor (.v (.int .u64 (x:Int))) (.v (.int .u64 (y:Int)))=some (.v (.int .u64 (z:Int))):=by
 obtain ⟨z,h1,h2⟩:=B01 (((BitVec.ofInt 64 (x:Int) ^^^ BitVec.ofInt 64 (y:Int)).toNat:Nat):Int)
 refine ⟨z,h1,?_⟩
 show some (DV.v (.int .u64 (IntKind.u64.wrap (((BitVec.ofInt 64 (x:Int) ^^^ BitVec.ofInt 64 (y:Int)).toNat:Nat):Int))))=_
 rw [h2]
theorem QZ(x m:Nat)(hm:m<18446744073709551616):∃ z:Nat,z<=m/\Cl .and (.v (.int .u64 (x:Int))) (.v (.int .u64 (m:Int)))=some (.v (.int .u64 (z:Int))):=by
 have h:(BitVec.ofInt 64 (x:Int) &&& BitVec.ofInt 64 (m:Int)).toNat<=m:=by
  rw [BitVec.toNat_and,BitVec.ofInt_natCast,BitVec.ofInt_natCast,BitVec.toNat_ofNat,BitVec.toNat_ofNat,Nat.mod_eq_of_lt hm]
  exact Nat.and_le_right
 refine ⟨_,h,?_⟩
 show some (DV.v (.int .u64 (IntKind.u64.wrap (((BitVec.ofInt 64 (x:Int) &&& BitVec.ofInt 64 (m:Int)).toNat:Nat):Int))))=_
 rw [IntWalk.u64_in _ (by omega)]
set_option maxRecDepth 100000
def fU:List UInt8:=[0,1,2,2,3,3,3,3,4,4,4,4,4,4,4,4,5,5,5,5,5,5,5,5,5,5,5,5,5,5,5,5,6,6,6,6,6,6,6,6,6,6,6,6,6,6,6,6,6,6,6,6,6,6,6,6,6,6,6,6,6,6,6,6,7,7,7,7,7,7,7,7,7,7,7,7,7,7,7,7,7,7,7,7,7,7,7,7,7,7,7,7,7,7,7,7,7,7,7,7,7,7,7,7,7,7,7,7,7,7,7,7,7,7,7,7,7,7,7,7,7,7,7,7,7,7,7,7,8,8,8,8,8,8,8,8,8,8,8,8,8,8,8,8,8,8,8,8,8,8,8,8,8,8,8,8,8,8,8,8,8,8,8,8,8,8,8,8,8,8,8,8,8,8,8,8,8,8,8,8,8,8,8,8,8,8,8,8,8,8,8,8,8,8,8,8,8,8,8,8,8,8,8,8,8,8,8,8,8,8,8,8,8,8,8,8,8,8,8,8,8,8,8,8,8,8,8,8,8,8,8,8,8,8,8,8,8,8,8,8,8,8,8,8,8,8,8,8,8,8,8,8,8,8,8,8]
theorem Cp5:∀ x,(h:x<256)->(fU[x]'(by simpa [fU] using h)).toNat=bitsLen x:=by decide +kernel
theorem sw_kix{dst:Option Pa}{v:Value}{y:Operand}{call:Bf}{es:ES}{Q:ES->Prop} : SW (sU dst (Bc (.ixs (.const v) y))) call es Q↔XW (Qq (aC v) (es.ds.ev y)) λd=>Q (es.putE dst d):=Zz (zX (.const v) y)
theorem Cp6{x:Nat}{d:DV}(hx:x<256)(hd:d=ub x){K:DV->Prop}(h:K (ub (bitsLen x))):XW (Qq (aC (.string (bs [0,1,2,2,3,3,3,3,4,4,4,4,4,4,4,4,5,5,5,5,5,5,5,5,5,5,5,5,5,5,5,5,6,6,6,6,6,6,6,6,6,6,6,6,6,6,6,6,6,6,6,6,6,6,6,6,6,6,6,6,6,6,6,6,7,7,7,7,7,7,7,7,7,7,7,7,7,7,7,7,7,7,7,7,7,7,7,7,7,7,7,7,7,7,7,7,7,7,7,7,7,7,7,7,7,7,7,7,7,7,7,7,7,7,7,7,7,7,7,7,7,7,7,7,7,7,7,7,8,8,8,8,8,8,8,8,8,8,8,8,8,8,8,8,8,8,8,8,8,8,8,8,8,8,8,8,8,8,8,8,8,8,8,8,8,8,8,8,8,8,8,8,8,8,8,8,8,8,8,8,8,8,8,8,8,8,8,8,8,8,8,8,8,8,8,8,8,8,8,8,8,8,8,8,8,8,8,8,8,8,8,8,8,8,8,8,8,8,8,8,8,8,8,8,8,8,8,8,8,8,8,8,8,8,8,8,8,8,8,8,8,8,8,8,8,8,8,8,8,8,8,8,8,8,8,8]))) d) K:=by
 subst hd
 have hl:x<(bs fU).data.toList.length:=by rw [show (bs fU).data.toList.length=256 from rfl];exact hx
 have e:=Cw6 (s:=bs fU) (k:=.u8) hl
 have e2:((bs fU).data.toList[x]'hl).toNat=bitsLen x:=Cp5 x hx
 rw [e2] at e
 show XW (Qq (.v (.string (bs fU))) (.v (.int .u8 (x:Int)))) K
 rw [e]
 exact ⟨_,rfl,h⟩
theorem A00{x:Nat}(h:x<256):bitsLen x<9:=by
 have:=(bitsLen_le_iff x 8).2 h
 omega
section
variable (k n0:Nat) (hp:Tr DObj) (nx:Nat) (K:DV->Tr DObj->Nat->Prop)
theorem B87(x:Nat)(hx:x<256)(hK:K (iv (bitsLen x:Nat)) hp nx):KW (kN (k+1)) (.fn 201) [.v (.int .u64 (x:Int))] hp nx K:=by
 refine Ds (Gb (by decide)) bf (Ab rfl) λes e1 e2 he=>?_
 have a0:Ac es (.t .o)=.v (.int .u64 (x:Int)):=he 0 _ rfl
 unfold GZ
 subst e1 e2
 have h9:=A00 hx
 simp only [Am,↓An,bP,a0,show ¬ (4294967296:Int)<=(x:Int) by omega,show ¬ (65536:Int)<=(x:Int) by omega,show ¬ (256:Int)<=(x:Int) by omega,Cv8 hx]
 refine sw_kix.2 (Cp6 hx (by simp only [ub,Dh,bP,bR];rfl) ?_)
 simp only [ub]
 simp only [Am,Be0 (k:=.u8) (show bitsLen x<_ by omega)]
 have e:Cl .add (.v (.int .i64 0)) (.v (.int .i64 ((bitsLen x:Nat):Int)))=some (.v (.int .i64 ((bitsLen x:Nat):Int))):=by
  rw [show (DV.v (.int .i64 0))=.v (.int .i64 ((0:Nat):Int)) from rfl,Wg (by omega),Er]
 simp only [Am,e]
 exact hK
theorem B02(x:Nat)(hx:x<256)(hK:K (iv (bitsLen x:Nat)) hp nx):KW (kN (k+2)) (.fn 176) [.v (.int .u64 (x:Int))] hp nx K:=by
 refine Ds (Gb (by decide)) bu (Ab rfl) λes e1 e2 he=>?_
 have a0:Ac es (.t .o)=.v (.int .u64 (x:Int)):=he 0 _ rfl
 unfold HI
 subst e1 e2
 simp only [Am,↓An,a0]
 refine Dt (B87 k _ _ _ x hx ?_)
 simp only [Am,↓An,bP]
 exact hK
theorem Cp7(x:Nat)(hx:x<256)(hK:K (.v (.int .u64 ((2 ^ bitsLen x:Nat):Int))) hp nx):KW (kN (k+3)) (.fn 218) [iv x] hp nx K:=by
 refine Ds (Gb (by decide)) ah (Ab rfl) λes e1 e2 he=>?_
 have a0:Ac es (.t .o)=iv x:=he 0 _ rfl
 unfold GN
 subst e1 e2
 simp only [Am,↓An,bP,a0,Be1 (k:=.i64) (show x<_ by omega)]
 refine Dt (B02 k _ _ _ x hx ?_)
 have h9:=A00 hx
 have e:Cl .shl (.v (.int .u64 1)) (.v (.int .i64 ((bitsLen x:Nat):Int)))=some (.v (.int .u64 ((2 ^ bitsLen x:Nat):Int))):=by
  generalize bitsLen x=y at h9 ⊢
  have:y=0\/y=1\/y=2\/y=3\/y=4\/y=5\/y=6\/y=7\/y=8:=by omega
  rcases this with h | h | h | h | h | h | h | h | h <;> subst h <;> rfl
 simp only [Am,↓An,bP,e]
 exact hK
def XB(hp:Tr DObj)(c:Nat)(s:Nat):Prop:=hp.get c=some (.row 267 [.v (.int .u64 (s:Int))])
theorem Cp8(c s:Nat)(hc:c<nx)(_:s<18446744073709551616)(hg:XB hp c s)(hK:∀ Ap Ba s',s'<18446744073709551616->Fr hp nx c Ap Ba->XB Ap c s'->K (.v (.int .u64 (s':Int))) Ap Ba):KW (kN (k+1)) (.fn 219) [.pt c 0] hp nx K:=by
 refine Ds (Gb (by decide)) ag (Ab rfl) λes e1 e2 he=>?_
 have a0:Ac es (.t .o)=.pt c 0:=he 0 _ rfl
 unfold GL
 subst e1 e2
 obtain ⟨y1,_,ey1⟩:=FJ s 13
 obtain ⟨z1,mb,ez1⟩:=oA s y1
 obtain ⟨y2,_,ey2⟩:=ej z1 7 mb
 obtain ⟨z2,A2,ez2⟩:=oA z1 y2
 obtain ⟨y3,_,ey3⟩:=FJ z2 17
 obtain ⟨z3,ma,ez3⟩:=oA z2 y3
 have ux:Cl .shl (.v (.int .u64 (s:Int))) (.v (.int .u64 13))=some (.v (.int .u64 (y1:Int))):=ey1
 have uw:Cl .shr (.v (.int .u64 (z1:Int))) (.v (.int .u64 7))=some (.v (.int .u64 (y2:Int))):=ey2
 have uv:Cl .shl (.v (.int .u64 (z2:Int))) (.v (.int .u64 17))=some (.v (.int .u64 (y3:Int))):=ey3
 unfold XB at hg
 simp only [Am,↓An,bP,a0,↓vZ,Qv hg,Zs,Of hg,Il (n0:=es.nx) (m:=10) hg hc,ux,ez1]
 refine Ge rfl (Pt (id:=c) (off:=0) (by simp only [bR]) hg (by simp only [Di,bR];rfl) ⟨rfl,rfl⟩ (by simp) λDv Dc Cr=>?_)
 simp only [bR] at Dc Cr
 simp only [Am,↓An,bP,a0,↓vZ,Qv Dc,Zs,Of Dc,Il (n0:=es.nx+10) (m:=10) Dc (show c<_ by omega),uw,ez2]
 refine Ge rfl (Pt (id:=c) (off:=0) (by simp only [bR]) Dc (by simp only [Di,bR];rfl) ⟨rfl,rfl⟩ (by simp) λDb Gv Fj=>?_)
 simp only [bR] at Gv Fj
 simp only [Am,↓An,bP,a0,↓vZ,Qv Gv,Zs,Of Gv,Il (n0:=es.nx+10+10) (m:=10) Gv (show c<_ by omega),uv,ez3]
 refine Ge rfl (Pt (id:=c) (off:=0) (by simp only [bR]) Gv (by simp only [Di,bR];rfl) ⟨rfl,rfl⟩ (by simp) λHe Lx Jh=>?_)
 simp only [bR] at Lx Jh
 simp only [Am,↓An,bP,a0,Qv Lx,↓fI,Zs,Of Lx]
 exact hK _ _ z3 ma ⟨by omega,λj hj NG=>by rw [Jh j NG,Fj j NG,Cr j NG]⟩ Lx
theorem B03{a:Nat}(h:a<4000000000000000000):Cl .mul (.v (.int .i64 (a:Int))) (.v (.int .i64 2))=some (.v (.int .i64 ((a*2:Nat):Int))):=by
 rw [Zq,Dk (by omega)];congr 3
theorem Cp9{M:Nat}(h:0<M)(hM:M<18446744073709551616):Cl .sub (.v (.int .u64 (M:Int))) (.v (.int .u64 1))=some (.v (.int .u64 ((M-1:Nat):Int))):=by
 show some (DV.v (.int .u64 (IntKind.u64.wrap ((M:Int)-1))))=_
 rw [IntWalk.u64_in _ (by omega)]
 congr 3;omega
theorem B88(id n a b:Nat)(d:Array PCell)(hn:n0<=nx)(hs:SR hp n0 id n d)(Vu:a+8<=b)(hb:b<=d.size)(hz:d.size<256)
  (hK:∀ Ap Ba d',Fr hp nx id Ap Ba->SR Ap n0 id n d'->PermIn a b d d'->K (.tup []) Ap Ba):KW (kN (k+4)) (.fn 205) [.ms id 0 n 2,iv a,iv b,Cu] hp nx K:=by
 refine Oq (Gb (by decide)) av (Ab rfl) λes e1 e2 he=>?_
 have a0:Ac es (.t .o)=.ms id 0 n 2:=he 0 _ rfl
 have a1:Ac es (.t (.l .o))=iv a:=he 1 _ rfl
 have a2:Ac es (.t (.r .o))=iv b:=he 2 _ rfl
 have a3:Ac es (.t (.l (.l .o)))=Cu:=he 3 _ rfl
 unfold GV
 subst e1 e2
 have Lc:Cl .sub (.v (.int .i64 (b:Int))) (.v (.int .i64 (a:Int)))=some (.v (.int .i64 ((b-a:Nat):Int))):=nL (by omega) (by omega)
 simp only [Am,↓An,bP,a1,a2,Lc,show (8:Int)<=((b-a:Nat):Int) by omega,Be1 (k:=.i64) (show b-a<_ by omega)]
 refine Oe λDv Dc Cr=>?_
 simp only [bR] at Dc Cr
 simp only [Am,↓An]
 refine Pt (id:=es.nx) (off:=0) (by simp only [bR]) Dc (by simp only [Di,bR];rfl) ⟨rfl,rfl⟩ (by simp) λDb Gv Fj=>?_
 simp only [bR] at Gv Fj
 simp only [Am,↓An]
 refine Dt (Cp7 k _ _ _ (b-a) (by omega) ?_)
 simp only [Am,↓An,a1,XD (show b-a<_ by omega),B03 (show (b-a) / 4<_ by omega),Wg (show a+(b-a) / 4*2<_ by omega),Xn (a+(b-a) / 4*2) (by omega) (by omega)]
 have hM:=two_pow_bitsLen_le (n:=b-a) (by omega)
 have VV:0<2 ^ bitsLen (b-a):=Nat.two_pow_pos _
 have qd:=hs.h
 refine EW.l (I:=λm es1=>∃ i' d1 s,m=a+(b-a) / 4*2+2-i'/\a+(b-a) / 4*2<=i'+1/\i'<=a+(b-a) / 4*2+2/\s<18446744073709551616/\XB es1.hp es.nx s/\Fr es.hp es.nx id es1.hp es1.nx/\es.nx<es1.nx/\SR es1.hp n0 id n d1/\PermIn a b d d1/\Ac es1 (.t .o)=.ms id 0 n 2/\Ac es1 (.t (.l .o))=iv a/\Ac es1 (.t (.r (.l (.l .o))))=iv ((b-a:Nat))/\Ac es1 (.t (.l (.r (.l .o))))=.pt es.nx 0/\Ac es1 (.t (.r (.r (.l .o))))=.v (.int .u64 ((2 ^ bitsLen (b-a):Nat):Int))/\Ac es1 (.t (.l (.l (.r .o))))=iv (i':Nat)) ?_ 3 1000000 _ ?_ (by omega)
 .rintro m es1 ⟨i',d1,s,hm,qF,Sa,nn,hR,g,Vm,Co,hP,b0,b1,b8,b9,b10,b11⟩
  unfold Ch8
  have iC:d1.size=d.size:=hP.1
  have hle:=g.le
  by_cases hi:i'<=a+(b-a) / 4*2+1
  .simp only [Am,↓An,b1,b8,b9,b11,XD (show b-a<_ by omega),B03 (show (b-a) / 4<_ by omega),Wg (show a+(b-a) / 4*2<_ by omega),Hn (show a+(b-a) / 4*2<_ by omega),hi]
   refine Dt (Cp8 (k+2) _ _ _ es.nx s Vm nn hR λDb Hh s2 Mf gN V3=>?_)
   have Fq:=gN.le
   have Pm:SR Db n0 id n d1:=Co.keepC hn (by omega) gN
   have g2:Fr es.hp es.nx id Db Hh:=⟨by omega,λj hj Nl=>by rw [gN.fr j (by omega) (by omega),g.fr j hj Nl]⟩
   obtain ⟨o,ho,eo⟩:=QZ s2 (2 ^ bitsLen (b-a)-1) (by omega)
   have em:Cl .sub (.v (.int .u64 ((2 ^ bitsLen (b-a):Nat):Int))) (.v (.int .u64 1))=some (.v (.int .u64 ((2 ^ bitsLen (b-a)-1:Nat):Int))):=Cp9 VV (by omega)
   by_cases hc:b-a<=o
   .have eS:Cl .sub (.v (.int .i64 (o:Int))) (.v (.int .i64 ((b-a:Nat):Int)))=some (.v (.int .i64 ((o-(b-a):Nat):Int))):=nL hc (by omega)
    obtain ⟨pA,vA,Gd,Gi,lA⟩:=Pm.at (show i'<d1.size by omega)
    obtain ⟨pB,vB,Fu,Ft,lB⟩:=Pm.at (show (a+(o-(b-a)))<d1.size by omega)
    have Fa:=Gd.mono (Be (id:=id))
    have Ev:=Gi.mono (Be (id:=id))
    have Dr:=Fu.mono (Be (id:=id))
    have Dq:=Ft.mono (Be (id:=id))
    simp only [Am,↓An,bP,b0,b1,b8,b10,b11,eo,em,Be0 (k:=.u64) (show o<_ by omega),hc,eS,Wg (show a+(o-(b-a))<_ by omega),Pm.ia (show i'<d1.size by omega),Pm.ia (show (a+(o-(b-a)))<d1.size by omega),lA,lB,Pm.rox (m:=20) (show n0<=Hh by omega),Mw]
    refine ⟨Ci (Dr.rox (by omega)) (Dq.rox (by omega)),?_⟩
    refine Ge rfl (Re (R:=rChange) (i:=i') (n:=n) (id:=id) (v:=[pB,vB]) (y:=d1[(a+(o-(b-a)))]!) (p:=λj=>j<n0/\j≠id) (by simp only [bR];rfl) Pm.o (by simp only [Di,bR];exact Kl Fu Ft) (rChange_rd.2 ⟨pB,vB,rfl,Fu,Ft⟩) (by simp;omega) (λh=>h.2 rfl) λGu Jq Hx=>?_)
    simp only [bR] at Hx
    obtain ⟨_,_,iO,Js,_⟩:=Jq.get
    have Xe:=Pm.h
    have Gt:=Gd.keep (Ap:=Gu) λj hj=>Hx j hj.2
    have Gs:=Gi.keep (Ap:=Gu) λj hj=>Hx j hj.2
    have gD:Ms Gu 2 (.ms id 0 n 2) (.v (.int .i64 (((a+(o-(b-a))):Nat):Int)))=some (Cf 2 (.ms id 0 n 2) ((a+(o-(b-a))))):=Uy Jq.rl (by simp;omega)
    simp only [Am,↓An,gD,Mw,Il (n0:=Hh) (m:=20) Js (show id<Hh by omega)]
    refine ⟨Ci ((Gt.mono (Be (id:=id))).rox (by omega)) ((Gs.mono (Be (id:=id))).rox (by omega)),?_⟩
    refine Ge rfl (Re (R:=rChange) (i:=(a+(o-(b-a)))) (n:=n) (id:=id) (v:=[pA,vA]) (y:=d1[i']!) (p:=λj=>j<n0/\j≠id) (by simp only [bR];rfl) Jq (by simp only [Di,bR];exact Kl Gt Gs) (rChange_rd.2 ⟨pA,vA,rfl,Gt,Gs⟩) (by simp;omega) (λh=>h.2 rfl) λDu cD Hd=>?_)
    simp only [bR] at Hd
    have Hs:=Pm.swp (show i'<d1.size by omega) (show (a+(o-(b-a)))<d1.size by omega) cD
    have g5:Fr es.hp es.nx id Du (Hh+20):=g2.up (by omega) λq hq Mg=>by rw [Hd q Mg,Hx q Mg]
    obtain ⟨iM,Rt⟩:=Pm.get
    obtain ⟨iL,Rs⟩:=Hs.get
    have Rq:∀ {a1 a2:List Nat} {q1 q2:Nat} (p:Past),p∈[(⟨q1,a1,Gu,Du⟩:Past),⟨q2,a2,Db,Gu⟩]->(p.a.get id).isSome=true/\(p.b.get id).isSome=true:=λp hp=>by
     simp only [Ak,Ax,or_false] at hp
     rcases hp with rfl | rfl
     .exact ⟨by rw [Js];rfl,by rw [Rs];rfl⟩
     .exact ⟨by rw [Rt];rfl,by rw [Js];rfl⟩
    simp only [Am,↓An,b0,b1,b8,b9,b10,b11,Hn (show i'<_ by omega)]
    exact ⟨fO (fJ id n) (by omega) (λp hp=>Rq p hp) rfl,a+(b-a) / 4*2+2-(i'+1),by omega,i'+1,_,s2,rfl,by omega,by omega,Mf,(Hd _ (by omega)).trans ((Hx _ (by omega)).trans V3),g5,by omega,Hs,permIn_trans _ _ _ a b hP (swp_permIn d1 a b i' (a+(o-(b-a))) (by omega) (by omega) (by omega) (by omega) (by omega)),rfl⟩
   .have Jd:¬ b-a<=o:=hc
    obtain ⟨pA,vA,Gd,Gi,lA⟩:=Pm.at (show i'<d1.size by omega)
    obtain ⟨pB,vB,Fu,Ft,lB⟩:=Pm.at (show (a+o)<d1.size by omega)
    have Fa:=Gd.mono (Be (id:=id))
    have Ev:=Gi.mono (Be (id:=id))
    have Dr:=Fu.mono (Be (id:=id))
    have Dq:=Ft.mono (Be (id:=id))
    simp only [Am,↓An,bP,b0,b1,b8,b10,b11,eo,em,Be0 (k:=.u64) (show o<_ by omega),hc,Wg (show a+o<_ by omega),Pm.ia (show i'<d1.size by omega),Pm.ia (show (a+o)<d1.size by omega),lA,lB,Pm.rox (m:=20) (show n0<=Hh by omega),Mw]
    refine ⟨Ci (Dr.rox (by omega)) (Dq.rox (by omega)),?_⟩
    refine Ge rfl (Re (R:=rChange) (i:=i') (n:=n) (id:=id) (v:=[pB,vB]) (y:=d1[(a+o)]!) (p:=λj=>j<n0/\j≠id) (by simp only [bR];rfl) Pm.o (by simp only [Di,bR];exact Kl Fu Ft) (rChange_rd.2 ⟨pB,vB,rfl,Fu,Ft⟩) (by simp;omega) (λh=>h.2 rfl) λGu Jq Hx=>?_)
    simp only [bR] at Hx
    obtain ⟨_,_,iO,Js,_⟩:=Jq.get
    have Xe:=Pm.h
    have Gt:=Gd.keep (Ap:=Gu) λj hj=>Hx j hj.2
    have Gs:=Gi.keep (Ap:=Gu) λj hj=>Hx j hj.2
    have gD:Ms Gu 2 (.ms id 0 n 2) (.v (.int .i64 (((a+o):Nat):Int)))=some (Cf 2 (.ms id 0 n 2) ((a+o))):=Uy Jq.rl (by simp;omega)
    simp only [Am,↓An,gD,Mw,Il (n0:=Hh) (m:=20) Js (show id<Hh by omega)]
    refine ⟨Ci ((Gt.mono (Be (id:=id))).rox (by omega)) ((Gs.mono (Be (id:=id))).rox (by omega)),?_⟩
    refine Ge rfl (Re (R:=rChange) (i:=(a+o)) (n:=n) (id:=id) (v:=[pA,vA]) (y:=d1[i']!) (p:=λj=>j<n0/\j≠id) (by simp only [bR];rfl) Jq (by simp only [Di,bR];exact Kl Gt Gs) (rChange_rd.2 ⟨pA,vA,rfl,Gt,Gs⟩) (by simp;omega) (λh=>h.2 rfl) λDu cD Hd=>?_)
    simp only [bR] at Hd
    have Hs:=Pm.swp (show i'<d1.size by omega) (show (a+o)<d1.size by omega) cD
    have g5:Fr es.hp es.nx id Du (Hh+20):=g2.up (by omega) λq hq Mg=>by rw [Hd q Mg,Hx q Mg]
    obtain ⟨iM,Rt⟩:=Pm.get
    obtain ⟨iL,Rs⟩:=Hs.get
    have Rq:∀ {a1 a2:List Nat} {q1 q2:Nat} (p:Past),p∈[(⟨q1,a1,Gu,Du⟩:Past),⟨q2,a2,Db,Gu⟩]->(p.a.get id).isSome=true/\(p.b.get id).isSome=true:=λp hp=>by
     simp only [Ak,Ax,or_false] at hp
     rcases hp with rfl | rfl
     .exact ⟨by rw [Js];rfl,by rw [Rs];rfl⟩
     .exact ⟨by rw [Rt];rfl,by rw [Js];rfl⟩
    simp only [Am,↓An,b0,b1,b8,b9,b10,b11,Hn (show i'<_ by omega)]
    exact ⟨fO (fJ id n) (by omega) (λp hp=>Rq p hp) rfl,a+(b-a) / 4*2+2-(i'+1),by omega,i'+1,_,s2,rfl,by omega,by omega,Mf,(Hd _ (by omega)).trans ((Hx _ (by omega)).trans V3),g5,by omega,Hs,permIn_trans _ _ _ a b hP (swp_permIn d1 a b i' (a+o) (by omega) (by omega) (by omega) (by omega) (by omega)),rfl⟩
  .simp only [Am,↓An,b1,b8,b11,XD (show b-a<_ by omega),B03 (show (b-a) / 4<_ by omega),Wg (show a+(b-a) / 4*2<_ by omega),Hn (show a+(b-a) / 4*2<_ by omega),hi]
   exact hK _ _ _ g Co hP
 .simp only [Am,a0,a1]
  exact ⟨a+(b-a) / 4*2-1,d,b-a,by omega,by omega,by omega,by omega,Gv,⟨by omega,λj hj Nl=>by rw [Fj j (by omega),Cr j (by omega)]⟩,by omega,hs.keep λj hj=>by rw [Fj j (by omega),Cr j (by omega)],permIn_refl _ _ _,rfl⟩
end
end Go.DD

/- Contracts: pdqsort of changes. Conditions: those that each theorem states. -/
namespace Go.DD
open Go Go.Proofs Go.Sort
theorem E4{hp:Tr DObj}(x:Int)(w:Bool):Fg hp (.tup [iv x,bv w]) 0=some (iv x):=tG λid hid=>by simp [DV.refs,DV.refsL] at hid
theorem Ci3{a:Nat}(h:a<9000000000000000000):Cl .quo (.v (.int .i64 (a:Int))) (.v (.int .i64 8))=some (.v (.int .i64 ((a / 8:Nat):Int))):=by
 have e:(a:Int).tdiv 8=((a / 8:Nat):Int):=rfl
 have Fb:a / 8<=a:=Xp _ _
 generalize a / 8=q at e Fb ⊢
 have e2:Mq .quo .i64 (a:Int) 8=some (.int .i64 (q:Int)):=by
  unfold Mq
  simp only
  rw [Ae (by decide),e,Dk (by omega)]
 simp only [Cl,Lw,Nh]
 simp [e2]
structure At (es:ES) (x:EO) (v:DV):Prop where
 e:Ac es x=v
structure PQ (hp:Tr DObj) (nx n0 id n a b l:Nat) (wb wp:Bool) (d:Array PCell) (es:ES):Prop where
 g:Fr hp nx id es.hp es.nx
 s:SR es.hp n0 id n d
 b0:Ac es (.t .o)=.ms id 0 n 2
 b1:Ac es (.t (.l .o))=iv (a:Nat)
 b2:Ac es (.t (.r .o))=iv (b:Nat)
 b3:Ac es (.t (.l (.l .o)))=iv (l:Nat)
 b4:Ac es (.t (.r (.l .o)))=Cu
 b10:Ac es (.t (.r (.r (.l .o))))=bv wb
 b11:Ac es (.t (.l (.l (.r .o))))=bv wp
section
variable (k n0:Nat)
theorem B04 (M:Nat) (id n:Nat) (rec:12<M->∀ (hp:Tr DObj) (nx:Nat) (K:DV->Tr DObj->Nat->Prop) (a b l:Nat) (d:Array PCell),n0<=nx->SR hp n0 id n d->a<=b->b<=d.size->2*(b-a)+1<M->Below Cg a b d->l<100000->d.size<256->
  (∀ Ap Ba d',Fr hp nx id Ap Ba->SR Ap n0 id n d'->PermIn a b d d'->SortedIn Cg a b d'->K (.tup []) Ap Ba)->KW (kN (k+9)) (.fn 186) [.ms id 0 n 2,iv a,iv b,iv l,Cu] hp nx K)
  (hp:Tr DObj) (nx:Nat) (K:DV->Tr DObj->Nat->Prop) (a b l:Nat) (d:Array PCell) (hn:n0<=nx) (hs:SR hp n0 id n d) (Vu:a<=b) (hb:b<=d.size) (hM:b-a<M) (hB:Below Cg a b d) (hl:l<100000) (hz:d.size<256)
  (hK:∀ Ap Ba d',Fr hp nx id Ap Ba->SR Ap n0 id n d'->PermIn a b d d'->SortedIn Cg a b d'->K (.tup []) Ap Ba):KW (kN (k+10)) (.fn 186) [.ms id 0 n 2,iv a,iv b,iv l,Cu] hp nx K:=by
 refine Oq (Gb (by decide)) EU (Ab rfl) λes e1 e2 he=>?_
 have a0:Ac es (.t .o)=.ms id 0 n 2:=he 0 _ rfl
 have a1:Ac es (.t (.l .o))=iv a:=he 1 _ rfl
 have a2:Ac es (.t (.r .o))=iv b:=he 2 _ rfl
 have a3:Ac es (.t (.l (.l .o)))=iv l:=he 3 _ rfl
 have a4:Ac es (.t (.r (.l .o)))=Cu:=he 4 _ rfl
 unfold M4
 subst e1 e2
 simp only [Am,↓An]
 refine EW.l (I:=λm es1=>∃ a' b' l' wb wp d1,m=b'-a'/\a'<=b'/\b'<=d.size/\b'-a'<M/\l'<100000/\Below Cg a' b' d1/\(∀ R,PermIn a' b' d1 R->SortedIn Cg a' b' R->PermIn a b d R/\SortedIn Cg a b R)/\PQ es.hp es.nx n0 id n a' b' l' wb wp d1 es1) ?_ (b-a) 1000000 _ ?_ (by have:=hs.s;omega)
 .rintro m es1 ⟨a',b',l',wb,wp,d1,hm,U7,Kj,vQ,jX,hB',hR,g,Co,b0,b1,b2,b3,b4,b10,b11⟩
  unfold zf
  have iC:d1.size=d.size:=Co.n.symm.trans hs.n
  have ph:=g.le
  have Lc:Cl .sub (.v (.int .i64 (b':Int))) (.v (.int .i64 (a':Int)))=some (.v (.int .i64 ((b'-a':Nat):Int))):=nL (by omega) (by omega)
  refine ew_b.2 (EW.seq (λBy=>PQ es.hp es.nx n0 id n a' b' l' wb wp d1 By/\At By (.t (.r (.l (.r .o)))) (iv ((b'-a':Nat)))) ?_ λBy ⟨⟨g,Co,b0,b1,b2,b3,b4,b10,b11⟩,⟨Ig⟩⟩=>?_)
  .simp only [Am,↓An,b1,b2,Lc]
   exact ⟨⟨by simpa only [bR] using g,by simpa only [bR] using Co,by simp only [bR,b0],by simp only [bR,b1],by simp only [bR,b2],by simp only [bR,b3],by simp only [bR,b4],by simp only [bR,b10],by simp only [bR,b11]⟩,⟨by simp only [bR]⟩⟩
  have Fq:=g.le
  by_cases c12:b'-a'<=12
  .simp only [Am,↓An,b0,b1,b2,b4,Ig,show decide (((b'-a':Nat):Int)<=12)=true from Ai (by omega)]
   refine Dt (Cy6 (k+3) n0 _ _ _ id n a' b' d1 (by omega) Co (by omega) (by omega) λHe Dn g3 Hr=>?_)
   simp only [Am,↓An]
   obtain ⟨r1,r2⟩:=insertionSort_holds swoC d1 a' b' U7 (by omega)
   obtain ⟨r3,r4⟩:=hR _ r1 r2
   exact hK _ _ _ (g.trans g3) Hr r3 r4
  refine EW.seq (λFs=>PQ es.hp es.nx n0 id n a' b' l' wb wp d1 Fs/\At Fs (.t (.r (.l (.r .o)))) (iv ((b'-a':Nat)))) ?_ λFs ⟨⟨g,Co,b0,b1,b2,b3,b4,b10,b11⟩,⟨Ig⟩⟩=>?_
  .simp only [Am,↓An,Ig,show decide (((b'-a':Nat):Int)<=12)=false from Ad (by omega)]
   exact ⟨⟨by simpa only [bR] using g,by simpa only [bR] using Co,by simp only [bR,b0],by simp only [bR,b1],by simp only [bR,b2],by simp only [bR,b3],by simp only [bR,b4],by simp only [bR,b10],by simp only [bR,b11]⟩,⟨by simp only [bR,Ig]⟩⟩
  have Ik:=g.le
  by_cases cl:l'=0
  .subst cl
   simp only [Am,↓An,b0,b1,b2,b3,b4]
   refine Dt (Cp1 (k+2) n0 _ _ _ id n a' b' d1 (by omega) Co (by omega) (by omega) λHe Dn g3 Hr=>?_)
   simp only [Am,↓An]
   obtain ⟨r1,r2⟩:=heapSort_holds swoC d1 a' b' U7 (by omega)
   obtain ⟨r3,r4⟩:=hR _ r1 r2
   exact hK _ _ _ (g.trans g3) Hr r3 r4
  refine EW.seq (λYj=>PQ es.hp es.nx n0 id n a' b' l' wb wp d1 Yj/\At Yj (.t (.r (.l (.r .o)))) (iv ((b'-a':Nat)))) ?_ λYj ⟨⟨g,Co,b0,b1,b2,b3,b4,b10,b11⟩,⟨Ig⟩⟩=>?_
  .simp only [Am,↓An,b3,show decide ((l':Int)=0)=false from Ad (by omega)]
   exact ⟨⟨by simpa only [bR] using g,by simpa only [bR] using Co,by simp only [bR,b0],by simp only [bR,b1],by simp only [bR,b2],by simp only [bR,b3],by simp only [bR,b4],by simp only [bR,b10],by simp only [bR,b11]⟩,⟨by simp only [bR,Ig]⟩⟩
  have Vq:=g.le
  -- breakPatterns
  refine EW.seq (λdO=>∃ l2 d2,l2<100000/\PermIn a' b' d1 d2/\PQ es.hp es.nx n0 id n a' b' l2 wb wp d2 dO/\At dO (.t (.r (.l (.r .o)))) (iv ((b'-a':Nat)))) ?_ λdO ⟨l2,d2,Yf,OU,⟨g,Mf,b0,b1,b2,b3,b4,b10,b11⟩,⟨Ig⟩⟩=>?_
  .cases wb with
   | true=>
    simp only [Am,↓An,b10]
    exact ⟨l',d1,jX,permIn_refl _ _ _,⟨by simpa only [bR] using g,by simpa only [bR] using Co,by simp only [bR,b0],by simp only [bR,b1],by simp only [bR,b2],by simp only [bR,b3],by simp only [bR,b4],by simp only [bR,b10],by simp only [bR,b11]⟩,⟨by simp only [bR,Ig]⟩⟩
   | false=>
    simp only [Am,↓An,b0,b1,b2,b4,b10]
    refine Dt (B88 (k+5) n0 _ _ _ id n a' b' d1 (by omega) Co (by omega) (by omega) (by omega) λHe Dn d3 g3 Hr VU=>?_)
    simp only [Am,↓An,b3,Xn l' (by omega) (by omega)]
    exact ⟨l'-1,d3,by omega,VU,⟨g.trans g3,Hr,by simp only [bR,b0],by simp only [bR,b1],by simp only [bR,b2],by simp only [bR],by simp only [bR,b4],by simp only [bR,b10],by simp only [bR,b11]⟩,⟨by simp only [bR,Ig]⟩⟩
  have C9:d2.size=d.size:=Mf.n.symm.trans hs.n
  have D8:Below Cg a' b' d2:=hB'.perm (by omega) OU
  have Fp:=g.le
  -- choosePivot
  refine EW.seq (λiP=>∃ pv h,a'<=pv/\pv<b'/\PQ es.hp es.nx n0 id n a' b' l2 wb wp d2 iP/\At iP (.t (.r (.l (.r .o)))) (iv ((b'-a':Nat)))/\At iP (.t (.l (.r (.r .o)))) (iv (pv:Nat))/\At iP (.t (.r (.r (.r .o)))) (iv h)) ?_ λiP ⟨pv,h,Dv,Db,⟨g,Mf,b0,b1,b2,b3,b4,b10,b11⟩,⟨Ig⟩,⟨Na⟩,⟨b14⟩⟩=>?_
  .simp only [Am,↓An,b0,b1,b2,b4]
   refine Dt (B83 k n0 _ _ _ id n a' b' d2 (by omega) Mf (by omega) (by omega) λHe Dn x h g3 hx=>?_)
   simp only [Am,↓An,kH]
   exact ⟨x,h,hx.1,hx.2,⟨g.al g3,Mf.al (by omega) g3,by simp only [bR,b0],by simp only [bR,b1],by simp only [bR,b2],by simp only [bR,b3],by simp only [bR,b4],by simp only [bR,b10],by simp only [bR,b11]⟩,⟨by simp only [bR,Ig]⟩,⟨by simp only [bR]⟩,⟨by simp only [bR]⟩⟩
  have Jr:=g.le
  -- reverseRange
  refine EW.seq (λBH=>∃ pv h d3,a'<=pv/\pv<b'/\PermIn a' b' d2 d3/\PQ es.hp es.nx n0 id n a' b' l2 wb wp d3 BH/\At BH (.t (.r (.l (.r .o)))) (iv ((b'-a':Nat)))/\At BH (.t (.l (.r (.r .o)))) (iv (pv:Nat))/\At BH (.t (.r (.r (.r .o)))) (iv h)) ?_ λBH ⟨pv,h,d3,Dv,Db,VU,⟨g,Hr,b0,b1,b2,b3,b4,b10,b11⟩,⟨Ig⟩,⟨Na⟩,⟨b14⟩⟩=>?_
  .by_cases c2:h=2
   .subst c2
    simp only [Am,↓An,b0,b1,b2,b4,b14]
    refine Dt (Cy9 (k+8) n0 _ _ _ id n a' b' d2 (by omega) Mf (by omega) (by omega) λHe Dn g3 Hr=>?_)
    simp only [Am,↓An,b1,b2,Na,Xn b' (by omega) (by omega),nL (a:=a') (b:=pv) Dv (by omega),nL (a:=pv-a') (b:=b'-1) (by omega) (by omega)]
    exact ⟨b'-1-(pv-a'),1,_,by omega,by omega,reverseRange_holds d2 a' b' U7 (by omega),⟨g.trans g3,Hr,by simp only [bR,b0],by simp only [bR,b1],by simp only [bR,b2],by simp only [bR,b3],by simp only [bR,b4],by simp only [bR,b10],by simp only [bR,b11]⟩,⟨by simp only [bR,Ig]⟩,⟨by simp only [bR]⟩,⟨by simp only [bR]⟩⟩
   .simp only [Am,↓An,b14,Ad c2]
    exact ⟨pv,h,d2,Dv,Db,permIn_refl _ _ _,⟨by simpa only [bR] using g,by simpa only [bR] using Mf,by simp only [bR,b0],by simp only [bR,b1],by simp only [bR,b2],by simp only [bR,b3],by simp only [bR,b4],by simp only [bR,b10],by simp only [bR,b11]⟩,⟨by simp only [bR,Ig]⟩,⟨by simp only [bR,Na]⟩,⟨by simp only [bR,b14]⟩⟩
  have hd3:d3.size=d.size:=Hr.n.symm.trans hs.n
  have hB3:Below Cg a' b' d3:=D8.perm (by omega) VU
  have Xd:=g.le
  have V4:=permIn_trans _ _ _ a' b' OU VU
  -- partialInsertionSort
  refine EW.seq (λBG=>∃ d4,PermIn a' b' d1 d4/\PQ es.hp es.nx n0 id n a' b' l2 wb wp d4 BG/\At BG (.t (.r (.l (.r .o)))) (iv ((b'-a':Nat)))/\At BG (.t (.l (.r (.r .o)))) (iv (pv:Nat))) ?_ λBG ⟨d4,hP4,⟨g,Lm,b0,b1,b2,b3,b4,b10,b11⟩,⟨Ig⟩,⟨Na⟩⟩=>?_
  .have no:∀ {dM:ES},PQ es.hp es.nx n0 id n a' b' l2 wb wp d3 dM->At dM (.t (.r (.l (.r .o)))) (iv ((b'-a':Nat)))->At dM (.t (.l (.r (.r .o)))) (iv (pv:Nat))->∃ d4,PermIn a' b' d1 d4/\PQ es.hp es.nx n0 id n a' b' l2 wb wp d4 dM/\At dM (.t (.r (.l (.r .o)))) (iv ((b'-a':Nat)))/\At dM (.t (.l (.r (.r .o)))) (iv (pv:Nat)):=λq1 q2 q3=>⟨d3,V4,q1,q2,q3⟩
   cases wb with
   | false=>
    simp only [Am,↓An,b10]
    exact no ⟨by simpa only [bR] using g,by simpa only [bR] using Hr,by simp only [bR,b0],by simp only [bR,b1],by simp only [bR,b2],by simp only [bR,b3],by simp only [bR,b4],by simp only [bR,b10],by simp only [bR,b11]⟩ ⟨by simp only [bR,Ig]⟩ ⟨by simp only [bR,Na]⟩
   | true=>
    cases wp with
    | false=>
     simp only [Am,↓An,b10,b11]
     exact no ⟨by simpa only [bR] using g,by simpa only [bR] using Hr,by simp only [bR,b0],by simp only [bR,b1],by simp only [bR,b2],by simp only [bR,b3],by simp only [bR,b4],by simp only [bR,b10],by simp only [bR,b11]⟩ ⟨by simp only [bR,Ig]⟩ ⟨by simp only [bR,Na]⟩
    | true=>
     by_cases c1:h=1
     .subst c1
      simp only [Am,↓An,b0,b1,b2,b4,b10,b11,b14]
      refine Dt (Cp4 (k+3) n0 _ _ _ id n a' b' d3 (by omega) Hr (by omega) (by omega) λHe Dn g3 Lm=>?_)
      obtain ⟨r1,r2⟩:=partialInsertionSort_holds swoC d3 a' b' (by omega) (by omega) hB3
      cases lQ:(partialInsertionSort Cg d3 a' b').2 with
      | true=>
       simp only [Am,↓An]
       obtain ⟨r3,r4⟩:=hR _ (permIn_trans _ _ _ a' b' V4 r1) (r2 lQ)
       exact hK _ _ _ (g.trans g3) Lm r3 r4
      | false=>
       simp only [Am,↓An]
       exact ⟨_,permIn_trans _ _ _ a' b' V4 r1,⟨g.trans g3,Lm,by simp only [bR,b0],by simp only [bR,b1],by simp only [bR,b2],by simp only [bR,b3],by simp only [bR,b4],by simp only [bR,b10],by simp only [bR,b11]⟩,⟨by simp only [bR,Ig]⟩,⟨by simp only [bR,Na]⟩⟩
     .simp only [Am,↓An,b10,b11,b14,Ad c1]
      exact no ⟨by simpa only [bR] using g,by simpa only [bR] using Hr,by simp only [bR,b0],by simp only [bR,b1],by simp only [bR,b2],by simp only [bR,b3],by simp only [bR,b4],by simp only [bR,b10],by simp only [bR,b11]⟩ ⟨by simp only [bR,Ig]⟩ ⟨by simp only [bR,Na]⟩
  have hd4:d4.size=d.size:=Lm.n.symm.trans hs.n
  have hB4:Below Cg a' b' d4:=hB'.perm (by omega) hP4
  have sk:∀ R,PermIn a' b' d4 R->SortedIn Cg a' b' R->PermIn a b d R/\SortedIn Cg a b R:=λR q1 q2=>hR R (permIn_trans _ _ _ a' b' hP4 q1) q2
  have Vp:=g.le
  -- the greatest of what lies to the left
  refine EW.seq (λdM=>PQ es.hp es.nx n0 id n a' b' l2 wb wp d4 dM/\At dM (.t (.r (.l (.r .o)))) (iv ((b'-a':Nat)))/\At dM (.t (.l (.r (.r .o)))) (iv (pv:Nat))) ?_ λdM ⟨⟨g,Lm,b0,b1,b2,b3,b4,b10,b11⟩,⟨Ig⟩,⟨Na⟩⟩=>?_
  .by_cases ca:a'=0
   .simp only [Am,↓An,b1,show decide ((0:Int)<(a':Int))=false from Ad (by omega)]
    exact ⟨⟨g.up (by simp only [];omega) λj hj Nl=>by simp only [],by simpa only [bR] using Lm,by simp only [bR,b0],by simp only [bR,b1],by simp only [bR,b2],by simp only [bR,b3],by simp only [bR,b4],by simp only [bR,b10],by simp only [bR,b11]⟩,⟨by simp only [bR,Ig]⟩,⟨by simp only [bR,Na]⟩⟩
   .have ea:(decide ((0:Int)<(a':Int)))=true:=Ai (by omega)
    obtain ⟨pA,vA,Gd,Gi,lA⟩:=Lm.at (show (a'-1)<d4.size by omega)
    obtain ⟨pB,vB,Fu,Ft,lB⟩:=Lm.at (show pv<d4.size by omega)
    have Fa:=Gd.mono (Be (id:=id))
    have Ev:=Gi.mono (Be (id:=id))
    have Dr:=Fu.mono (Be (id:=id))
    have Dq:=Ft.mono (Be (id:=id))
    simp only [Am,↓An,b0,b1,b4,Na,ea,Xn a' (by omega) (by omega),Lm.ia (show (a'-1)<d4.size by omega),Lm.ia (show pv<d4.size by omega),lA,lB,Lm.rox (m:=17) (show n0<=BG.nx by omega),Mw,lG]
    refine ⟨⟨Ci (Fa.rox (by omega)) (Ev.rox (by omega)),Ci (Dr.rox (by omega)) (Dq.rox (by omega))⟩,?_⟩
    refine Ge rfl (Zt (f:=126) (fs:=[]) (cs:=[]) (by rw [Di];simp only [bR];exact lI _) ?_)
    simp only [bR,Ao,Aq,Bu,Bh]
    refine lF (k+4) n0 _ _ _ pA vA pB vB d4[(a'-1)]! d4[pv]! (by omega) Fa Ev Dr Dq (Lm.bA (show (a'-1)<d4.size by omega)) λod jt rD=>?_
    have B9:=rD.le
    have LO:=Lm.al (nx:=BG.nx+17) (by omega) rD
    have g5c:Fr es.hp es.nx id od jt:=g.up (by omega) λj hj _=>rD.same j (by omega)
    by_cases hc:Cd d4[a'-1]!.pos d4[pv]!.pos<0
    .simp only [Am,↓An,B9,Ai hc]
     exact ⟨⟨g5c,LO,by simp only [bR,b0],by simp only [bR,b1],by simp only [bR,b2],by simp only [bR,b3],by simp only [bR,b4],by simp only [bR,b10],by simp only [bR,b11]⟩,⟨by simp only [bR,Ig]⟩,⟨by simp only [bR,Na]⟩⟩
    .simp only [Am,↓An,b0,b1,b2,b4,Na,B9,Ad hc]
     refine Dt (B86 (k+3) n0 _ _ _ id n a' b' pv d4 (by omega) LO ⟨Dv,Db⟩ (by omega) (by omega) λHe Dn g3 Ts=>?_)
     obtain ⟨m1,m2,m3,m4,m5⟩:=round_eq swoC (partitionEqual_holds Cg) (d3:=d4) (d4:=(partitionEqual Cg d4 a' b' pv).2) (mid:=(partitionEqual Cg d4 a' b' pv).1) (show 0<a' by omega) Dv Db (by omega) hB4 (Ns hc) rfl
     simp only [Am,↓An]
     exact ⟨b'-(partitionEqual Cg d4 a' b' pv).1,by omega,(partitionEqual Cg d4 a' b' pv).1,b',l2,wb,wp,_,rfl,m2,by omega,by omega,Yf,m4,λR q1 q2=>by
      obtain ⟨w1,w2⟩:=m5 R q1 q2
      exact sk R w1 w2,⟨g5c.trans g3,Ts,by simp only [bR,b0],by simp only [bR],by simp only [bR,b2],by simp only [bR,b3],by simp only [bR,b4],by simp only [bR,b10],by simp only [bR,b11]⟩⟩
  have uY:=g.le
  -- partition
  refine EW.seq (λrO=>∃ ap,(partition Cg d4 a' b' pv).2.1=ap/\PQ es.hp es.nx n0 id n a' b' l2 wb wp (partition Cg d4 a' b' pv).2.2 rO/\At rO (.t (.r (.l (.r .o)))) (iv ((b'-a':Nat)))/\At rO (.t (.r (.l (.l (.l .o))))) (iv ((partition Cg d4 a' b' pv).1:Nat))/\At rO (.t (.l (.r (.l (.l .o))))) (bv ap)) ?_ λrO ⟨ap,hap,⟨g,Hs,b0,b1,b2,b3,b4,b10,b11⟩,⟨Ig⟩,⟨b16⟩,⟨We⟩⟩=>?_
  .simp only [Am,↓An,b0,b1,b2,b4,Na]
   refine Dt (Cp3 (k+3) n0 _ _ _ id n a' b' pv d4 (by omega) Lm ⟨Dv,Db⟩ (by omega) (by omega) λHe Dn g3 Hs=>?_)
   simp only [Am,↓An,E4]
   exact ⟨_,rfl,⟨g.trans g3,Hs,by simp only [bR,b0],by simp only [bR,b1],by simp only [bR,b2],by simp only [bR,b3],by simp only [bR,b4],by simp only [bR,b10],by simp only [bR,b11]⟩,⟨by simp only [bR,Ig]⟩,⟨by simp only [bR]⟩,⟨by simp only [bR]⟩⟩
  have C0:=g.le
  obtain ⟨m1,m2,m3,m4,m5,m6,m7⟩:=round_part swoC (partition_holds Cg) (d3:=d4) (d4:=(partition Cg d4 a' b' pv).2.2) (mid:=(partition Cg d4 a' b' pv).1) (ap:=(partition Cg d4 a' b' pv).2.1) Dv Db (by omega) hB4 rfl
  generalize (partition Cg d4 a' b' pv).1=mid at m1 m2 m4 m5 m6 m7 b16
  generalize (partition Cg d4 a' b' pv).2.2=d5 at Hs m3 m4 m5 m6 m7
  have e1:Cl .sub (.v (.int .i64 (mid:Int))) (.v (.int .i64 (a':Int)))=some (.v (.int .i64 ((mid-a':Nat):Int))):=nL m1 (by omega)
  have e2:Cl .sub (.v (.int .i64 (b':Int))) (.v (.int .i64 (mid:Int)))=some (.v (.int .i64 ((b'-mid:Nat):Int))):=nL (by omega) (by omega)
  by_cases hlr:mid-a'<b'-mid
  .simp only [Am,↓An,b0,b1,b2,b3,b4,Ig,b16,We,e1,e2,Ci3 (show b'-a'<_ by omega),hlr]
   refine Dt (rec (by omega) _ _ _ a' mid l2 d5 (by omega) Hs m1 (by omega) (by omega) m4 Yf (by omega) λHe Dn d6 g3 Ts sr sj=>?_)
   simp only [Am,↓An,b16,Hn (show mid<_ by omega)]
   obtain ⟨w1,w2⟩:=m6 d6 sr sj
   exact ⟨b'-(mid+1),by omega,mid+1,b',l2,decide ((b'-a') / 8<=mid-a'),ap,d6,rfl,by omega,by omega,by omega,Yf,w1,λR q1 q2=>by
    obtain ⟨v1,v2⟩:=w2 R q1 q2
    exact sk R v1 v2,⟨g.trans g3,Ts,by simp only [bR,b0],by simp only [bR],by simp only [bR,b2],by simp only [bR,b3],by simp only [bR,b4],by simp only [bR],by simp only [bR]⟩⟩
  .simp only [Am,↓An,b0,b1,b2,b3,b4,Ig,b16,We,e1,e2,Ci3 (show b'-a'<_ by omega),hlr,Hn (show mid<_ by omega)]
   refine Dt (rec (by omega) _ _ _ (mid+1) b' l2 d5 (by omega) Hs (by omega) (by omega) (by omega) m5 Yf (by omega) λHe Dn d6 g3 Ts sr sj=>?_)
   simp only [Am,↓An,b16]
   obtain ⟨w1,w2⟩:=m7 d6 sr sj
   exact ⟨mid-a',by omega,a',mid,l2,decide ((b'-a') / 8<=b'-mid),ap,d6,rfl,m1,by omega,by omega,Yf,w1,λR q1 q2=>by
    obtain ⟨v1,v2⟩:=w2 R q1 q2
    exact sk R v1 v2,⟨g.trans g3,Ts,by simp only [bR,b0],by simp only [bR,b1],by simp only [bR],by simp only [bR,b3],by simp only [bR,b4],by simp only [bR],by simp only [bR]⟩⟩
 .exact ⟨a,b,l,true,true,d,rfl,Vu,hb,hM,hl,hB,λR q1 q2=>⟨q1,q2⟩,Fr.refl _ _ _,hs,by simp only [bR,a0],by simp only [bR,a1],by simp only [bR,a2],by simp only [bR,a3],by simp only [bR,a4],by simp only [bR],by simp only [bR]⟩
theorem Ci4(id n:Nat):∀ (f:Nat) (M:Nat) (hp:Tr DObj) (nx:Nat) (K:DV->Tr DObj->Nat->Prop) (a b l:Nat) (d:Array PCell),M<=8*2 ^ f->n0<=nx->SR hp n0 id n d->a<=b->b<=d.size->b-a<M->Below Cg a b d->l<100000->d.size<256->
  (∀ Ap Ba d',Fr hp nx id Ap Ba->SR Ap n0 id n d'->PermIn a b d d'->SortedIn Cg a b d'->K (.tup []) Ap Ba)->KW (kN (k+f+10)) (.fn 186) [.ms id 0 n 2,iv a,iv b,iv l,Cu] hp nx K
 | 0,M,hp,nx,K,a,b,l,d,hM,hn,hs,Vu,hb,h1,hB,hl,hz,hK=>B04 k n0 M id n (λh=>absurd h (by omega)) hp nx K a b l d hn hs Vu hb h1 hB hl hz hK
 | f+1,M,hp,nx,K,a,b,l,d,hM,hn,hs,Vu,hb,h1,hB,hl,hz,hK=>by
  have Db:2 ^ (f+1)=2*2 ^ f:=by rw [Nat.pow_succ,Nat.mul_comm]
  exact B04 (k+f+1) n0 M id n (λ_ hp nx K a b l d hn hs Vu hb h1 hB hl hz hK=>Ci4 id n f (b-a+1) hp nx K a b l d (by omega) hn hs Vu hb (by omega) hB hl hz hK) hp nx K a b l d hn hs Vu hb h1 hB hl hz hK
end
end Go.DD

/- Contracts: slices.Values, AppendSeq, Collect over changes. Conditions: those that each theorem states. -/
namespace Go.DD
open Go Go.Proofs Go.Sort
def CJ(n0:Nat)(sl:Tr DV)(L bo:Nat)(W:List PCell)(hp:Tr DObj)(nx:Nat):Prop:=
 ∃ z T,hp.get L=some (.loop ⟨13,.t sl,[7],BQ,BP,.ready,none⟩)/\hp.get bo=some (.row T [z])/\OL rChange hp (Bl n0) z W/\(∀ j∈z.refs,n0<=j/\j<nx/\j≠L/\j≠bo)/\n0<=L/\L<nx/\n0<=bo/\bo<nx/\L≠bo/\Ac ⟨sl,.e,0⟩ (.t (.r .o))=.pt bo 0
theorem CJ.keep{n0:Nat}{sl:Tr DV}{L bo:Nat}{W:List PCell}{hp Ap:Tr DObj}{nx Ba:Nat}(h:CJ n0 sl L bo W hp nx)(hn:nx<=Ba)(hk:∀ j,j<nx->Ap.get j=hp.get j):CJ n0 sl L bo W Ap Ba:=by
 obtain ⟨z,T,h1,h2,h3,h4,h5,h6,h7,h8,h9,tA⟩:=h
 refine ⟨z,T,(hk L h6).trans h1,(hk bo h8).trans h2,h3.keep λj hj=>hk j (hj.elim (λh=>?_) λh=>(h4 j h).2.1),λj hj=>?_,h5,by omega,h7,by omega,h9,tA⟩
 .have:j<n0:=h
  omega
 .have:=h4 j hj
  exact ⟨this.1,by omega,this.2.2⟩
section
variable (k n0:Nat) (hp:Tr DObj) (nx:Nat) (K:DV->Tr DObj->Nat->Prop)
theorem B05(sl:Tr DV)(L bo:Nat)(W:List PCell)(a b:DV)(c:PCell)(hn:n0<=nx)(hJ:CJ n0 sl L bo W hp nx)(ha:RL rInt hp (Bl n0) a c.pos)(hb:RL rVal hp (Bl n0) b c.vals)(hW:W.length<900000)
  (hK:∀ Ap Ba,nx<=Ba->(∀ j,j<n0->Ap.get j=hp.get j)->CJ n0 sl L bo (W ++ [c]) Ap Ba->K (bv true) Ap Ba) :
  KW (kN (k+1)) (.yl L) [.agg [a,b]] hp nx K:=by
 obtain ⟨z,T,j1,j2,j3,j4,j5,j6,j7,j8,j9,s2⟩:=hJ
 refine pE j1 rfl rfl rfl rfl rfl ?_
 rw [show En 1000000 13 true BQ=Be6 from Co8]
 unfold Be6
 have KQ:∀ hp nx,Ac ⟨Lo [7] [.agg [a,b]] sl,hp,nx⟩ (.t (.l (.l (.l .o))))=.agg [a,b]:=λhp nx=>by
  show Ac ((ES.mk sl hp nx).putE (some (.l (.l (.l .o)))) (.agg [a,b])) (.t (.l (.l (.l .o))))=.agg [a,b]
  simp only [bR]
 have A2:∀ hp nx,Ac ⟨Lo [7] [.agg [a,b]] sl,hp,nx⟩ (.t (.r .o))=.pt bo 0:=λhp nx=>by
  show Ac ((ES.mk sl hp nx).putE (some (.l (.l (.l .o)))) (.agg [a,b])) (.t (.r .o))=.pt bo 0
  simp only [bR]
  exact s2
 generalize Lo [7] [.agg [a,b]] sl=zz at KQ A2
 simp only [↓An]
 refine Oe λDv Dc Cr=>?_
 simp only [bR] at Dc Cr
 have iG:=ha.keep (Ap:=Dv) λj (hj:j<n0)=>Cr j (by omega)
 have Qt:=hb.keep (Ap:=Dv) λj (hj:j<n0)=>Cr j (by omega)
 simp only [↓An]
 refine Oi (n:=2) (id:=nx) (ds:=[a,b]) (by simp only [bR]) Dc (by simp only [Di,bR,KQ];exact Kl iG Qt) rfl rfl λDb Gv Fj=>?_
 simp only [bR] at Gv Fj
 simp only [Am,↓An]
 refine ⟨_,(Fj L (by omega)).trans ((Cr L (by omega)).trans j1),rfl,?_⟩
 rw [show En 1000000 13 true BP=Be7 from Co9]
 unfold Be7
 obtain ⟨lp,Ze⟩:∃ lp:DLoop,lp=⟨13,.t sl,[7],BQ,BP,.busy,none⟩:=⟨_,rfl⟩
 have mK:∀ j,j≠L->(Db.set L (some (.loop lp))).get j=Db.get j:=λj hj=>by rw [Tr.get_set,Ae (Hj hj)]
 have mJ:(Db.set L (some (.loop lp))).get L=some (.loop lp):=by rw [Tr.get_set,Ah rfl]
 rw [<- Ze]
 generalize Db.set L (some (.loop lp))=hq at mK mJ ⊢
 have kq:∀ j,j<nx->j≠L->hq.get j=hp.get j:=λj hj hL=>by rw [mK j hL,Fj j (by omega),Cr j (by omega)]
 have gbo:hq.get bo=some (.row T [z]):=(kq bo j8 (Hj j9)).trans j2
 have g5:hq.get nx=some (.row 62 [a,b]):=(mK nx (by omega)).trans Gv
 have U0:=ha.keep (Ap:=hq) λj (hj:j<n0)=>kq j (by omega) (by omega)
 have hbq:=hb.keep (Ap:=hq) λj (hj:j<n0)=>kq j (by omega) (by omega)
 have ly:=j3.keep (Ap:=hq) λj hj=>hj.elim (λ(h:j<n0)=>kq j (by omega) (by omega)) λh=>kq j (j4 j h).2.1 (j4 j h).2.2.1
 have l5:Hk hq (some 2) (.pt nx 0)=some (.agg [a,b]):=by rw [Nt g5];rfl
 have JT:=Kl U0 hbq
 simp only [Am,↓An,A2,Of gbo,l5]
 refine jF (fl:=[a,b]) rfl (by simp only [Ao,Aq,Dh,bR,bP,JT];rfl) λHe Lx Jh=>?_
 simp only [bR] at Lx Jh
 have se:=U0.keep (Ap:=He) λj (hj:j<n0)=>Jh j (by omega)
 have rq:=hbq.keep (Ap:=He) λj (hj:j<n0)=>Jh j (by omega)
 have lu:=ly.keep (Ap:=He) λj hj=>Jh j (hj.elim (λ(h:j<n0)=>by omega) λh=>by have:=(j4 j h).2.1;omega)
 simp only [Am,↓An]
 refine fL (R:=rChange) (p:=Bl n0) (p2:=Bl n0) (d:=z) (d2:=.ms (nx+1) 0 1 2) (l:=W) (m:=[c]) (by simp only [bR,bP]) lu (by simp only [Dh,bR,bP];exact eK Lx) (BT (R:=rChange) (x:=c) Lx (rChange_rd.2 ⟨a,b,rfl,se,rq⟩)) rfl rfl (by rw [Cc];omega) (by decide) λHo Ha h4=>?_
 simp only [bR] at Ha h4
 have o4:=h4 (Bl n0) λj hj=>by
  have:j<n0:=hj.elim id id
  exact ⟨this,by omega,λh=>by have:=(j4 j h).1;omega⟩
 have sa:Ho.get bo=some (.row T [z]):=by rw [Ha bo (by omega) λh=>(j4 bo h).2.2.2 rfl,Jh bo (by omega),gbo]
 obtain ⟨_,_,um,nH,_⟩:=o4.get
 simp only [Am,↓An]
 refine Pt (id:=bo) (off:=0) (by simp only [bR,A2]) sa (by simp only [Di,bR];exact eK nH) (bL _ _ _ _) (by simp) λDu Pf Hd=>?_
 simp only [bR] at Pf Hd
 simp only [Am,↓An]
 have hL4:Du.get L=some (.loop lp):=by rw [Hd L j9,Ha L (by omega) λh=>(j4 L h).2.2.1 rfl,Jh L (by omega),mJ]
 have k6:∀ j,j≠L->(Du.set L (some (.loop { lp with st:=.ready,pend:=none }))).get j=Du.get j:=λj hj=>by rw [Tr.get_set,Ae (Hj hj)]
 refine ⟨lp,hL4,hK _ _ (by omega) (λj hj=>?_) ⟨_,T,by rw [Tr.get_set,Ah rfl,Ze],(k6 bo (Hj j9)).trans Pf,o4.keep λj hj=>?_,λj hj=>?_,j5,by omega,j7,by omega,j9,s2⟩⟩
 .rw [k6 j (by omega),Hd j (by omega),Ha j (by omega) λh=>by have:=(j4 j h).1;omega,Jh j (by omega),kq j (by omega) (by omega)]
 .have eY:j≠bo/\j≠L:=hj.elim (λ(h:j<n0)=>⟨by omega,by omega⟩) λh=>by
   have:j=nx+1+1:=by simpa [DV.refs] using h
   exact ⟨by omega,by omega⟩
  rw [k6 j eY.2,Hd j eY.1]
 .have:j=nx+1+1:=by simpa [DV.refs] using hj
  exact ⟨by omega,by omega,by omega,by omega⟩
end
end Go.DD

/- Contracts: slices.Values over changes, Collect, SortFunc, SortedFunc. Conditions: those that each theorem states. -/
namespace Go.DD
open Go Go.Proofs Go.Sort
section
variable (k n0:Nat) (hp:Tr DObj) (nx:Nat) (K:DV->Tr DObj->Nat->Prop)
theorem B89(sl:Tr DV)(L bo bx T:Nat)(d:DV)(l:List PCell)(hn:n0<=nx)(fE:hp.get bx=some (.row T [d]))(hd:RL rChange hp (Bl n0) d l)(hl:l.length<900000)(hJ:CJ n0 sl L bo [] hp nx)
  (hK:∀ Ap Ba,nx<=Ba->(∀ j,j<n0->Ap.get j=hp.get j)->CJ n0 sl L bo l Ap Ba->K (.tup []) Ap Ba) :
  KW (kN (k+2)) (.fn 161) [.yl L,.pt bx 0] hp nx K:=by
 refine Oq (Gb (by decide)) cg (Ab rfl) λes e1 e2 he=>?_
 have a0:Ac es (.t .o)=.yl L:=he 0 _ rfl
 have a1:Ac es (.t (.l .o))=.pt bx 0:=he 1 _ rfl
 unfold HN
 subst e1 e2
 simp only [Am,↓An,a1,Of fE,hd.len]
 refine EW.up l.length (λi es1=>es.nx<=es1.nx/\(∀ j,j<n0->es1.hp.get j=es.hp.get j)/\CJ n0 sl L bo (l.take i) es1.hp es1.nx/\Ac es1 (.t .o)=.yl L/\Ac es1 (.t (.l (.r .o)))=d/\Ac es1 (.t (.r (.r .o)))=iv l.length/\Ac es1 (.t (.l (.l (.l .o))))=iv (i:Nat)) ?_ ?_ (by omega)
 .rintro i es1 hi ⟨hle,Fv,BC,b0,b5,b6,b7⟩
  unfold Ch4
  have iC:=hd.keep (Ap:=es1.hp) λj hj=>Fv j hj
  by_cases h:i<l.length
  .obtain ⟨a,b,ra,rb,lA,_,_⟩:=wC iC h
   simp only [Am,↓An,b5,b6,b7,h,Uy iC h,lA]
   refine Oe λDv Dc Cr=>?_
   simp only [bR] at Dc Cr
   have ra1:=ra.keep (Ap:=Dv) λj (hj:j<n0)=>Cr j (by omega)
   have rb1:=rb.keep (Ap:=Dv) λj (hj:j<n0)=>Cr j (by omega)
   simp only [Am,↓An]
   refine Oi (n:=2) (id:=es1.nx) (ds:=[a,b]) (by simp only [bR]) Dc (by simp only [Di,bR];exact Kl ra1 rb1) rfl rfl λDb Gv Fj=>?_
   simp only [bR] at Gv Fj
   have kq:∀ j,j<es1.nx->Db.get j=es1.hp.get j:=λj hj=>by rw [Fj j (by omega),Cr j (by omega)]
   have uD:=ra.keep (Ap:=Db) λj (hj:j<n0)=>kq j (by omega)
   have M1:=rb.keep (Ap:=Db) λj (hj:j<n0)=>kq j (by omega)
   have l2:Hk Db (some 2) (.pt es1.nx 0)=some (.agg [a,b]):=by rw [Nt Gv];rfl
   have hJ2:=BC.keep (Ap:=Db) (Ba:=es1.nx+1) (by omega) kq
   obtain ⟨_,_,gL,_⟩:=hJ2
   simp only [Am,↓An,b0,l2]
   refine xG (L:=L) (by simp only [bR]) gL ?_
   simp only [Ao,Aq,bR]
   refine B05 k n0 _ _ _ sl L bo (l.take i) a b l[i] (by omega) (BC.keep (by omega) kq) uD M1 (by rw [Ca];omega) λHe Dn Ik iB WA=>?_
   simp only [Am,↓An,b0,b5,b6,b7,Hn (show i<_ by omega)]
   refine ⟨h,by omega,λj hj=>?_,?_⟩
   .rw [iB j hj,kq j (by omega),Fv j hj]
   .rw [<- List.take_append_getElem h]
    exact WA
  .have qE:i=l.length:=by omega
   subst qE
   rw [List.take_length] at BC
   simp only [Am,↓An,b6,b7,Iv l.length]
   exact hK _ _ hle Fv BC
 .exact ⟨Af _,λ_ _=>rfl,hJ,by simp only [bR,a0],by simp only [bR],by simp only [bR],by simp only [bR];rfl⟩
theorem B06(d:DV)(hd:d.okC=true/\d.cells=[d])(hl:Ch hp d=d)(hK:∀ Ap,Ap.get nx=some (.row 27 [d])->(∀ j,j≠nx->Ap.get j=hp.get j)->K (.fn (.func 161) [.tup [],.pt nx 0]) Ap (nx+1)):KW (kN (k+1)) (.fn 125) [d] hp nx K:=by
 refine Ds (Gb (by decide)) dn (Ab rfl) λes e1 e2 he=>?_
 have a0:Ac es (.t .o)=d:=he 0 _ rfl
 unfold IC
 subst e1 e2
 simp only [↓An]
 refine DB (v:=d) (by simp only [Di,a0,hl]) hd λDv Dc Cr=>?_
 simp only [bR] at Dc Cr
 simp only [Am,↓An,bP]
 have e1:Ch Dv (.pt es.nx 0)=.pt es.nx 0:=Wh λid hid=>by
  have:id=es.nx:=by simpa [DV.refs] using hid
  rw [this,Dc];rfl
 rw [e1]
 have e2:Ch Dv (.fn (.func 161) [.tup [],.pt es.nx 0])=.fn (.func 161) [.tup [],.pt es.nx 0]:=Wh λid hid=>by
  have:id=es.nx:=by simpa [DV.refs,DV.refsL] using hid
  rw [this,Dc];rfl
 rw [e2]
 exact hK _ Dc Cr
def A0(bx:Nat):DV:=.fn (.func 161) [.tup [],.pt bx 0]
theorem Cz4{es1:ES}{Q:Exit->ES->Prop}(bo bx T T2:Nat)(d:DV)(l:List PCell)(hn:n0<=bo)(hb:es1.nx=bo+1)(qi:es1.hp.get bo=some (.row T2 [Bv]))(VK:es1.hp.get bx=some (.row T [d]))(fE:bx<bo)(hd:RL rChange es1.hp (Bl n0) d l)(hl:l.length<900000)(b2:Ac es1 (.t (.r .o))=.pt bo 0)(b6:Ac es1 (.t (.r (.r .o)))=A0 bx)
  (hQ:∀ Ap Ba z T,es1.nx<=Ba->(∀ j,j<n0->Ap.get j=es1.hp.get j)->Ap.get bo=some (.row T [z])->OL rChange Ap (Bl n0) z l->(∀ j∈z.refs,n0<=j/\j<Ba)->Q .normal ⟨es1.sl,Ap,Ba⟩) :
  EW (cR 13 false (.t (.r (.r .o))) [7] BQ BP) (kN (k+2)) es1 Q:=by
 have Is:∀ (x:Option DObj) j,j≠bo+1->(es1.hp.set (bo+1) x).get j=es1.hp.get j:=λx j hj=>by rw [Tr.get_set,Ae (Hj hj)]
 refine zp (f:=161) (cs:=[.pt bx 0]) ?_ ?_
 .rw [Di,b6]
  exact Wh λid hid=>by
   have:id=bx:=by simpa [A0,DV.refs,DV.refsL] using hid
   rw [this,VK];rfl
 .rw [hb]
  refine B89 k n0 _ _ _ es1.sl (bo+1) bo bx T d l (by omega) ((Is _ _ (by omega)).trans VK) (hd.keep λj (hj:j<n0)=>Is _ j (by omega)) hl ⟨Bv,T2,by rw [Tr.get_set,Ah rfl],(Is _ _ (by omega)).trans qi,.nil,λj hj=>by (cases hj),by omega,by omega,hn,by omega,by omega,b2⟩ λAp Ba hle Fv ⟨z,T,g1,g2,g3,g4,g5,g6,g7,g8,g9,g10⟩=>?_
  have Lm:∀ j,j≠bo+1->(Ap.set (bo+1) none).get j=Ap.get j:=λj hj=>by rw [Tr.get_set,Ae (Hj hj)]
  refine ⟨_,g1,by simp,.inl ⟨rfl,?_⟩⟩
  refine hQ _ _ z T (by omega) (λj hj=>?_) ((Lm _ (by omega)).trans g2) (g3.keep λj hj=>Lm j (hj.elim (λ(h:j<n0)=>by omega) λh=>(g4 j h).2.2.1)) λj hj=>⟨(g4 j hj).1,(g4 j hj).2.1⟩
  rw [Lm j (by omega),Fv j hj,Is _ j (by omega)]
theorem B07(bx T:Nat)(d:DV)(l:List PCell)(hn:n0<=nx)(fE:hp.get bx=some (.row T [d]))(hb:bx<nx)(hd:RL rChange hp (Bl n0) d l)(hl:l.length<900000)
  (hK:∀ Ap Ba z,nx<=Ba->(∀ j,j<n0->Ap.get j=hp.get j)->OL rChange Ap (Bl n0) z l->(∀ j∈z.refs,n0<=j/\j<Ba)->K z Ap Ba) :
  KW (kN (k+3)) (.fn 185) [Bv,A0 bx] hp nx K:=by
 refine Ds (Gb (by decide)) bh (Ab rfl) λes e1 e2 he=>?_
 have a0:Ac es (.t .o)=Bv:=he 0 _ rfl
 have a1:Ac es (.t (.l .o))=A0 bx:=he 1 _ rfl
 unfold HB
 subst e1 e2
 simp only [↓An]
 refine DB (v:=Bv) (by simp only [Di,a0];rfl) ⟨rfl,rfl⟩ λDv Dc Cr=>?_
 simp only [bR] at Dc Cr
 simp only [Am,↓An,a1]
 refine Cz4 k n0 es.nx bx T _ d l hn rfl Dc ((Cr bx (by omega)).trans fE) hb (hd.keep λj (hj:j<n0)=>Cr j (by omega)) hl (by simp only [bR]) (by simp only [bR]) λHo Lb z T mB Yh S3 lR KT=>?_
 simp only [Am,↓An,bP,Of S3,lR.rl.live]
 exact hK _ _ z (by simp only [] at mB;omega) (λj hj=>by rw [Yh j hj];simp only [];exact Cr j (by omega)) lR KT
theorem Bo6(bx T:Nat)(d:DV)(l:List PCell)(hn:n0<=nx)(fE:hp.get bx=some (.row T [d]))(hb:bx<nx)(hd:RL rChange hp (Bl n0) d l)(hl:l.length<900000)
  (hK:∀ Ap Ba z,nx<=Ba->(∀ j,j<n0->Ap.get j=hp.get j)->OL rChange Ap (Bl n0) z l->(∀ j∈z.refs,n0<=j/\j<Ba)->K z Ap Ba) :
  KW (kN (k+4)) (.fn 159) [A0 bx] hp nx K:=by
 refine Ds (Gb (by decide)) cj (Ab rfl) λes e1 e2 he=>?_
 have a0:Ac es (.t .o)=A0 bx:=he 0 _ rfl
 unfold HO
 subst e1 e2
 simp only [Am,↓An,a0]
 refine Dt (B07 k n0 _ _ _ bx T d l hn fE hb hd hl λHo Lb z mB Yh lR KT=>?_)
 simp only [Am,↓An,bP,lR.rl.live]
 exact hK _ _ z mB Yh lR KT
end
end Go.DD

/- Contracts: SortFunc, SortedFunc over changes. Conditions: those that each theorem states. -/
namespace Go.DD
open Go Go.Proofs Go.Sort
theorem Be8{d d':Array PCell}(hP:PermIn 0 d.size d d')(hS:SortedIn Cg 0 d.size d'):d'.toList.Perm d.toList/\d'.toList.Pairwise (λx y=>Cg y x=false):=by
 obtain ⟨h1,_,h3⟩:=hP
 have e:d.extract 0 d.size=d:=by simp
 have e':d'.extract 0 d.size=d':=by rw [<- h1];simp
 rw [e,e'] at h3
 refine ⟨h3,Dx.2 λi j hi hj Nm=>?_⟩
 have Wa:i<d'.size:=by simpa using hi
 have eY:j<d'.size:=by simpa using hj
 have:=hS i j (Gf _) Nm (by omega)
 rw [Kx d' i Wa,Kx d' j eY] at this
 simpa using this
section
variable (k n0:Nat) (hp:Tr DObj) (nx:Nat) (K:DV->Tr DObj->Nat->Prop)
theorem Cq0(hK:∀ Ba,nx<=Ba->K (.tup []) hp Ba):KW (kN (k+1)) (.fn 203) [Bv,iv 0,iv 0,Cu] hp nx K:=by
 refine Oq (Gb (by decide)) ET (Ab rfl) λes e1 e2 he=>?_
 have a0:Ac es (.t .o)=Bv:=he 0 _ rfl
 have a1:Ac es (.t (.l .o))=iv 0:=he 1 _ rfl
 have a2:Ac es (.t (.r .o))=iv 0:=he 2 _ rfl
 have a3:Ac es (.t (.l (.l .o)))=Cu:=he 3 _ rfl
 unfold M3
 subst e1 e2
 have e01:Cl .add (iv 0) (.v (.int .i64 1))=some (iv 1):=rfl
 simp only [Am,↓An,a1,e01]
 refine EW.l (I:=λ_ es1=>es1.hp=es.hp/\es.nx<=es1.nx/\Ac es1 (.t (.r .o))=iv 0/\Ac es1 (.t (.r (.l (.l .o))))=iv 1) ?_ 0 1000000 _ ⟨rfl,Af _,by simp only [bR,a2],by simp only [bR]⟩ (by omega)
 rintro m es1 ⟨h1,h2,b2,b8⟩
 unfold ze
 simp only [Am,↓An,b2,b8,show decide ((1:Int)<0)=false from rfl]
 rw [h1]
 exact hK _ h2
theorem Cq1(l:Nat)(hK:∀ Ba,nx<=Ba->K (.tup []) hp Ba):KW (kN (k+2)) (.fn 186) [Bv,iv 0,iv 0,iv l,Cu] hp nx K:=by
 refine Oq (Gb (by decide)) EU (Ab rfl) λes e1 e2 he=>?_
 have a0:Ac es (.t .o)=Bv:=he 0 _ rfl
 have a1:Ac es (.t (.l .o))=iv 0:=he 1 _ rfl
 have a2:Ac es (.t (.r .o))=iv 0:=he 2 _ rfl
 have a3:Ac es (.t (.l (.l .o)))=iv l:=he 3 _ rfl
 have a4:Ac es (.t (.r (.l .o)))=Cu:=he 4 _ rfl
 unfold M4
 subst e1 e2
 simp only [Am,↓An]
 refine EW.l (I:=λ_ es1=>es1.hp=es.hp/\es.nx<=es1.nx/\Ac es1 (.t .o)=Bv/\Ac es1 (.t (.l .o))=iv 0/\Ac es1 (.t (.r .o))=iv 0/\Ac es1 (.t (.r (.l .o)))=Cu) ?_ 0 1000000 _ ⟨rfl,Af _,by simp only [bR,a0],by simp only [bR,a1],by simp only [bR,a2],by simp only [bR,a4]⟩ (by omega)
 rintro m es1 ⟨h1,h2,b0,b1,b2,b4⟩
 unfold zf
 have e00:Cl .sub (iv 0) (iv 0)=some (iv 0):=rfl
 simp only [Am,↓An,b0,b1,b2,b4,e00,show decide ((0:Int)<=12)=true from rfl]
 refine Dt (Cq0 k _ _ _ λBa hle=>?_)
 simp only [Am,↓An]
 rw [h1]
 exact hK _ (by omega)
theorem Cq2(id n:Nat)(d:Array PCell)(hn:n0<=nx)(hs:SR hp n0 id n d)(hz:d.size<256)
  (hK:∀ Ap Ba d',Fr hp nx id Ap Ba->SR Ap n0 id n d'->d'.toList.Perm d.toList->d'.toList.Pairwise (λx y=>Cg y x=false)->K (.tup []) Ap Ba):KW (kN (k+16)) (.fn 160) [.ms id 0 n 2,Cu] hp nx K:=by
 refine Oq (Gb (by decide)) EY (Ab rfl) λes e1 e2 he=>?_
 have a0:Ac es (.t .o)=.ms id 0 n 2:=he 0 _ rfl
 have a1:Ac es (.t (.l .o))=Cu:=he 1 _ rfl
 unfold M7
 subst e1 e2
 have Hu:=hs.n
 have h9:=A00 (x:=n) (by omega)
 have hln:d.toList.length=n:=by rw [Hu];simp
 have hnl:=hs.s
 simp only [Am,↓An,bP,a0,hs.rl.len,hln,Be1 (k:=.i64) (show n<_ by omega)]
 refine Dt (B02 (k+13) _ _ _ n (by omega) ?_)
 simp only [Am,↓An,a1]
 refine Dt (Ci4 k n0 id n 5 256 _ _ _ 0 n (bitsLen n) d (by decide) hn hs (by omega) (by omega) (by omega) (.inl rfl) (by omega) hz λAp Ba d' g1 Co hP hS=>?_)
 rw [Hu] at hP hS
 obtain ⟨p1,p2⟩:=Be8 hP hS
 simp only [Am,↓An]
 exact hK _ _ d' g1 Co p1 p2
theorem B90(hK:∀ Ba,nx<=Ba->K (.tup []) hp Ba):KW (kN (k+16)) (.fn 160) [Bv,Cu] hp nx K:=by
 refine Oq (Gb (by decide)) EY (Ab rfl) λes e1 e2 he=>?_
 have a0:Ac es (.t .o)=Bv:=he 0 _ rfl
 have a1:Ac es (.t (.l .o))=Cu:=he 1 _ rfl
 unfold M7
 subst e1 e2
 have h0:∀ hp,Qp hp Bv=some (iv ((0:Nat):Int)):=λ_=>rfl
 have hc:Xm .u64 (.v (.int .i64 0))=some (.v (.int .u64 ((0:Nat):Int))):=rfl
 simp only [Am,↓An,bP,a0,h0,hc]
 refine Dt (B02 (k+13) _ _ _ 0 (by omega) ?_)
 simp only [Am,↓An,a1]
 refine Dt (Cq1 (k+13) _ _ _ (bitsLen 0) λBa hle=>?_)
 simp only [Am,↓An]
 exact hK _ hle
def jA(l m:List PCell):Prop:=m.Perm l/\m.Pairwise (λx y=>Cg y x=false)
theorem Bo7(bx T:Nat)(d:DV)(l:List PCell)(hn:n0<=nx)(fE:hp.get bx=some (.row T [d]))(hb:bx<nx)(hd:RL rChange hp (Bl n0) d l)(hl:l.length<256)(hbp:∀ c∈l,c.pos.length<900000)
  (hK:∀ Ap Ba z m,nx<=Ba->(∀ j,j<n0->Ap.get j=hp.get j)->RL rChange Ap (Bl Ba) z m->jA l m->K z Ap Ba) :
  KW (kN (k+17)) (.fn 124) [A0 bx,Cu] hp nx K:=by
 refine Ds (Gb (by decide)) du (Ab rfl) λes e1 e2 he=>?_
 have a0:Ac es (.t .o)=A0 bx:=he 0 _ rfl
 have a1:Ac es (.t (.l .o))=Cu:=he 1 _ rfl
 unfold ID
 subst e1 e2
 simp only [Am,↓An,a0]
 refine Dt (Bo6 (k+12) n0 _ _ _ bx T d l hn fE hb hd (by omega) λHo Lb z mB Yh lR KT=>?_)
 simp only [Am,↓An,a1]
 cases lR with
 | nil=>
  refine Dt (B90 k _ _ _ λFm Fp=>?_)
  simp only [Am,↓An,bP]
  exact hK _ _ _ [] (by omega) Yh .nil ⟨.refl _,.nil⟩
 | ms id fl l h hr=>
  have hid:=KT id (by simp [DV.refs])
  have hs:SR Ho Lb id l.length l.toArray:=⟨(OL.ms id fl l h hr).mono λj (hj:j<n0)=>⟨by omega,by omega⟩,hid.2,by simpa using hbp,by simpa using (show l.length<100000 by omega)⟩
  refine Dt (Cq2 k Lb _ _ _ id l.length l.toArray (Af _) hs (by simpa using hl) λDu Fm d5 g5 Hs p1 p2=>?_)
  have LZ:RL rChange Du (Bl Fm) (.ms id 0 l.length 2) d5.toList:=Hs.rl.mono λj (hj:j<Lb)=>by
   have:=g5.le
   show j<Fm
   omega
  simp only [Am,↓An,bP]
  show K (Ch Du (.ms id 0 l.length 2)) Du Fm
  rw [LZ.live]
  exact hK _ _ _ d5.toList (by have:=g5.le;omega) (λj hj=>by rw [g5.fr j (by omega) (by omega),Yh j hj]) LZ ⟨by simpa using p1,p2⟩
end
end Go.DD

/- Contracts: the inner loops of checked. Conditions: those that each theorem states. -/
namespace Go.DD
open Go Go.Proofs Go.Sort
section
variable (k n0:Nat)
structure CK (hp:Tr DObj) (nx B C:Nat) (v1 v14 v15 v16:DV) (es:ES):Prop where
 g:Al hp nx es.hp es.nx
 b1:Ac es (.t (.l .o))=v1
 b2:Ac es (.t (.r .o))=.pt B 0
 b7:Ac es (.t (.l (.l (.l .o))))=.pt C 0
 b14:Ac es (.t (.r (.r (.r .o))))=v14
 b15:Ac es (.t (.l (.l (.l (.l .o)))))=v15
 b16:Ac es (.t (.r (.l (.l (.l .o)))))=v16
theorem Ci5{es:ES}{Q:Exit->ES->Prop}{hp:Tr DObj}{nx B C TC:Nat}{v1 v14 v15 v16 d x y:DV}{l:List PDim}{c:PCell}(hn:n0<=nx)(hc:CK hp nx B C v1 v14 v15 v16 es)(hC:hp.get C=some (.row TC [x,y]))(hCl:C<nx)(h1:RL rDim hp (Bl n0) d l)(h3:RL rInt hp (Bl n0) x c.pos)(hlen:c.pos.length=l.length)(hl:l.length<900000)(WZ:Ac es (.t (.l (.l (.r (.r (.l .o))))))=d)(QX:Ac es (.t (.r (.l (.r (.r (.l .o))))))=iv l.length)(QW:Ac es (.t (.l (.r (.r (.r (.l .o))))))=iv (0:Nat))
  (hQ:jN l c.pos=true->∀ es',CK hp nx B C v1 v14 v15 v16 es'->Q (.exit 2) es')
  (hR:jN l c.pos=false->∀ es',Al hp nx es'.hp es'.nx->Ac es' (.t (.r (.l .o)))=Bv->Ac es' (.t (.l (.r .o)))=iv 3->Q .ret es') :
  EW (cL 1000000 pC) (kN (k+6)) es Q:=by
 refine EW.up l.length (λi es1=>CK hp nx B C v1 v14 v15 v16 es1/\jN l c.pos=jN (l.drop i) (c.pos.drop i)/\Ac es1 (.t (.l (.l (.r (.r (.l .o))))))=d/\Ac es1 (.t (.r (.l (.r (.r (.l .o))))))=iv l.length/\Ac es1 (.t (.l (.r (.r (.r (.l .o))))))=iv (i:Nat)) ?_ ⟨hc,rfl,WZ,QX,QW⟩ (by omega)
 rintro i es1 hi ⟨⟨g,b1,b2,b7,b14,b15,b16⟩,Ml,WZ,QX,QW⟩
 unfold pC
 have hle:=g.le
 by_cases h:i<l.length
 .have h':i<c.pos.length:=by omega
  rw [yE h h'] at Ml
  have r1:=h1.ka hn g
  simp only [Am,↓An,WZ,QX,QW,h,wF r1 h,(tF r1 h).1]
  refine Oe λDv Dc Cr=>?_
  simp only [bR] at Dc Cr
  simp only [Am,↓An]
  refine Oi (n:=3) (id:=es1.nx) (ds:=dc l[i]) (by simp only [bR]) Dc (by simp only [Di,bR];exact eL rfl) rfl rfl λDb Gv Fj=>?_
  simp only [bR] at Gv Fj
  have g2:Al hp nx Db (es1.nx+1):=⟨by omega,λj hj=>by rw [Fj j (by omega),Cr j (by omega),g.same j hj]⟩
  have r3:=h3.ka hn g2
  have Nz:=(g2.same C hCl).trans hC
  obtain ⟨⟨f0,f1⟩,l0,l1,_⟩:=Wf Nz
  obtain ⟨⟨q0,q1,q2⟩,m0,m1,m2⟩:=rQ Gv
  by_cases c1:c.pos[i]<l[i].lo
  .rw [Ah (.inl c1)] at Ml
   simp only [Am,↓An,b7,f0,l0,q1,m1,nQ r3 h',ints_at r3 h',Ai c1,r3.rox (m:=19) (show n0<=es1.nx+1 by omega),Y7 (m:=19) r3 (show n0<=es1.nx+1 by omega),Il (n0:=es1.nx+1) (m:=19) Nz (show C<es1.nx+1 by omega),Il (n0:=es1.nx+1) (m:=19) Gv (show es1.nx<es1.nx+1 by omega)]
   exact hR Ml _ (by simpa only [bR] using g2.nx (show es1.nx+1<=es1.nx+1+19 by omega)) (by simp only [bR];rfl) (by simp only [bR])
  .by_cases c2:bO l[i]<c.pos[i]
   .rw [Ah (.inr c2)] at Ml
    simp only [Am,↓An,bP,b7,f0,l0,q1,m1,q2,m2,nQ r3 h',ints_at r3 h',A65,Ad c1,show decide (min l[i].hi 1073741824<c.pos[i])=true from Ai c2,r3.rox (m:=19) (show n0<=es1.nx+1 by omega),Y7 (m:=19) r3 (show n0<=es1.nx+1 by omega),Il (n0:=es1.nx+1) (m:=19) Nz (show C<es1.nx+1 by omega),Il (n0:=es1.nx+1) (m:=19) Gv (show es1.nx<es1.nx+1 by omega)]
    exact hR Ml _ (by simpa only [bR] using g2.nx (show es1.nx+1<=es1.nx+1+19 by omega)) (by simp only [bR];rfl) (by simp only [bR])
   .rw [Ae (by omega)] at Ml
    simp only [Am,↓An,bP,b7,f0,l0,q1,m1,q2,m2,nQ r3 h',ints_at r3 h',A65,Ad c1,show decide (min l[i].hi 1073741824<c.pos[i])=false from Ad c2,r3.rox (m:=19) (show n0<=es1.nx+1 by omega),Y7 (m:=19) r3 (show n0<=es1.nx+1 by omega),Il (n0:=es1.nx+1) (m:=19) Nz (show C<es1.nx+1 by omega),Il (n0:=es1.nx+1) (m:=19) Gv (show es1.nx<es1.nx+1 by omega),WZ,QX,QW,h,Hn (show i<_ by omega)]
    exact ⟨⟨by simpa only [bR] using g2.nx (show es1.nx+1<=es1.nx+1+19 by omega),by simp only [bR,b1],by simp only [bR,b2],by simp only [bR,b7],by simp only [bR,b14],by simp only [bR,b15],by simp only [bR,b16]⟩,Ml⟩
 .rw [yF (by omega)] at Ml
  simp only [Am,↓An,QX,QW,h]
  exact hQ Ml _ ⟨by simpa only [bR] using g,by simp only [bR,b1],by simp only [bR,b2],by simp only [bR,b7],by simp only [bR,b14],by simp only [bR,b15],by simp only [bR,b16]⟩
theorem Ci6{es:ES}{Q:Exit->ES->Prop}{hp:Tr DObj}{nx B C TB:Nat}{v1 v14 v15 v16 d a cc y:DV}{m:List PAttr}{c:PCell}(hn:n0<=nx)(hc:CK hp nx B C v1 v14 v15 v16 es)(hB:hp.get B=some (.row TB [d,a,cc]))(tc:B<nx)(h2:RL rAttr hp (Bl n0) a m)(h4:RL rVal hp (Bl n0) y c.vals)(hlen:c.vals.length<=m.length)(hl:m.length<900000)(nE:∀ v∈c.vals,Wn v)(WY:Ac es (.t (.l (.l (.l (.r (.l (.l .o)))))))=y)(QT:Ac es (.t (.r (.l (.l (.r (.l (.l .o)))))))=iv c.vals.length)(QS:Ac es (.t (.l (.r (.l (.r (.l (.l .o)))))))=iv (0:Nat))
  (hQ:Oa c.vals m=true->∀ es',CK hp nx B C v1 v14 v15 v16 es'->Q (.exit 4) es')
  (hR:Oa c.vals m=false->∀ es',Al hp nx es'.hp es'.nx->Ac es' (.t (.r (.l .o)))=Bv->Ac es' (.t (.l (.r .o)))=iv 12->Q .ret es') :
  EW (cL 1000000 oZ) (kN (k+6)) es Q:=by
 refine EW.up c.vals.length (λi es1=>CK hp nx B C v1 v14 v15 v16 es1/\Oa c.vals m=Oa (c.vals.drop i) (m.drop i)/\Ac es1 (.t (.l (.l (.l (.r (.l (.l .o)))))))=y/\Ac es1 (.t (.r (.l (.l (.r (.l (.l .o)))))))=iv c.vals.length/\Ac es1 (.t (.l (.r (.l (.r (.l (.l .o)))))))=iv (i:Nat)) ?_ ⟨hc,rfl,WY,QT,QS⟩ (by omega)
 rintro i es1 hi ⟨⟨g,b1,b2,b7,b14,b15,b16⟩,Ml,WY,QT,QS⟩
 unfold oZ
 have hle:=g.le
 by_cases h:i<c.vals.length
 .have h':i<m.length:=by omega
  rw [Bv5 h h'] at Ml
  have w4:=h4.ka hn g
  simp only [Am,↓An,WY,QT,QS,h,Y2 w4 h,BS w4 h]
  refine Oe λDv Dc Cr=>?_
  simp only [bR] at Dc Cr
  simp only [Am,↓An]
  refine Oi (n:=4) (id:=es1.nx) (ds:=vc c.vals[i]) (by simp only [bR]) Dc (by simp only [Di,bR];exact eL rfl) rfl rfl λDb Gv Fj=>?_
  simp only [bR] at Gv Fj
  have g2:Al hp nx Db (es1.nx+1):=⟨by omega,λj hj=>by rw [Fj j (by omega),Cr j (by omega),g.same j hj]⟩
  have w2:=h2.ka hn g2
  have D8:=(g2.same B tc).trans hB
  obtain ⟨⟨f0,f1,f2⟩,l0,l1,l2,_⟩:=Mh D8
  obtain ⟨_,_,_,_,_,t4⟩:=Yp Gv
  simp only [Am,↓An,b2,f1,l1,t4,J3 w2 h',A64 (k:=1) w2 h',(J5 w2 h').2.2.2,w2.rox (m:=9) (show n0<=es1.nx+1 by omega),CG (m:=9) w2 (show n0<=es1.nx+1 by omega),Bb4 (m:=9) w2 (show n0<=es1.nx+1 by omega),Il (n0:=es1.nx+1) (m:=9) Gv (show es1.nx<es1.nx+1 by omega),Il (n0:=es1.nx+1) (m:=9) D8 (show B<es1.nx+1 by omega),I4 (show DV.refsL (vc c.vals[i])=[] from rfl)]
  refine Ge rfl (Tf ?_)
  simp only [bR,Ao,Aq]
  refine Bv4 (k:=k+1) _ _ _ c.vals[i] m[i].type (nE _ (Bd h)) λDu Fm Cw=>?_
  have Fp:=Cw.le
  have g5:=(g2.nx (by omega:es1.nx+1<=es1.nx+1+9)).trans Cw
  cases c4:Zi c.vals[i] m[i].type with
  | false=>
   rw [Ah c4] at Ml
   simp only [Am,↓An,Fp]
   exact hR Ml _ (by simpa only [bR] using g5) (by simp only [bR];rfl) (by simp only [bR])
  | true=>
   rw [Ae (by rw [c4];simp)] at Ml
   simp only [Am,↓An,WY,QT,QS,h,Fp,Hn (show i<_ by omega)]
   exact ⟨⟨by simpa only [bR] using g5,by simp only [bR,b1],by simp only [bR,b2],by simp only [bR,b7],by simp only [bR,b14],by simp only [bR,b15],by simp only [bR,b16]⟩,Ml⟩
 .rw [Bv6 (by omega)] at Ml
  simp only [Am,↓An,QT,QS,h]
  exact hQ Ml _ ⟨by simpa only [bR] using g,by simp only [bR,b1],by simp only [bR,b2],by simp only [bR,b7],by simp only [bR,b14],by simp only [bR,b15],by simp only [bR,b16]⟩
end
end Go.DD

/- Contracts: the outer loop of checked. Conditions: those that each theorem states. -/
namespace Go.DD
open Go Go.Proofs Go.Sort
def Le(d:List PDim)(a:List PAttr)(c:PCell):Int:=if c.pos.length≠d.length\/(c.vals.length≠0/\c.vals.length≠a.length) then 13 else if jN d c.pos=false then 3 else if Oa c.vals a=false then 12 else 0
def Gx(d:List PDim)(a:List PAttr):List PCell->Int
 | []=>0
 | c::l=>if Le d a c≠0 then Le d a c else Gx d a l
theorem Cq3{d:List PDim}{a:List PAttr}{l:List PCell}{i:Nat}(h:i<l.length):Gx d a (l.drop i)=if Le d a l[i]≠0 then Le d a l[i] else Gx d a (l.drop (i+1)):=by
 rw [As h];rfl
section
variable (k n0:Nat)
theorem Cz5{es:ES}{Q:Exit->ES->Prop}{hp:Tr DObj}{nx B TB:Nat}{ls d a cc:DV}{l:List PCell}{D:List PDim}{A:List PAttr}(hn:n0<=nx)(hB:hp.get B=some (.row TB [d,a,cc]))(tc:B<nx)(hL:RL rChange hp (Bl n0) ls l)(h1:RL rDim hp (Bl n0) d D)(h2:RL rAttr hp (Bl n0) a A)(hl:l.length<900000)(hD:D.length<900000)(hA:A.length<900000)(hc:∀ c∈l,∀ v∈c.vals,Wn v)
  (g:Al hp nx es.hp es.nx) (b1:Ac es (.t (.l .o))=ls) (b2:Ac es (.t (.r .o))=.pt B 0) (b14:Ac es (.t (.r (.r (.r .o))))=ls) (b15:Ac es (.t (.l (.l (.l (.l .o)))))=iv l.length) (b16:Ac es (.t (.r (.l (.l (.l .o)))))=iv (0:Nat))
  (hQ:Gx D A l=0->∀ es',Al hp nx es'.hp es'.nx->Ac es' (.t (.l .o))=ls->Q (.exit 0) es')
  (hR:Gx D A l≠0->∀ es',Al hp nx es'.hp es'.nx->Ac es' (.t (.r (.l .o)))=Bv->Ac es' (.t (.l (.r .o)))=iv (Gx D A l)->Q .ret es') :
  EW (cL 1000000 oY) (kN (k+6)) es Q:=by
 refine EW.up l.length (λi es1=>Al hp nx es1.hp es1.nx/\Gx D A l=Gx D A (l.drop i)/\Ac es1 (.t (.l .o))=ls/\Ac es1 (.t (.r .o))=.pt B 0/\Ac es1 (.t (.r (.r (.r .o))))=ls/\Ac es1 (.t (.l (.l (.l (.l .o)))))=iv l.length/\Ac es1 (.t (.r (.l (.l (.l .o)))))=iv (i:Nat)) ?_ ⟨g,rfl,b1,b2,b14,b15,b16⟩ (by omega)
 rintro i es1 hi ⟨g,Ml,b1,b2,b14,b15,b16⟩
 unfold oY
 have hle:=g.le
 by_cases h:i<l.length
 .rw [Cq3 h] at Ml
  have cU:=hc _ (Bd h)
  have r:=hL.ka hn g
  obtain ⟨x,y,rx,ry,lC,_,_⟩:=wC r h
  simp only [Am,↓An,b14,b15,b16,h,Uy r h,lC]
  refine Oe λDv Dc Cr=>?_
  simp only [bR] at Dc Cr
  have FN:=rx.keep (Ap:=Dv) λj (hj:j<n0)=>Cr j (by omega)
  have FM:=ry.keep (Ap:=Dv) λj (hj:j<n0)=>Cr j (by omega)
  simp only [Am,↓An]
  refine Oi (n:=2) (id:=es1.nx) (ds:=[x,y]) (by simp only [bR]) Dc (by simp only [Di,bR];exact Kl FN FM) rfl rfl λDb Gv Fj=>?_
  simp only [bR] at Gv Fj
  have g2:Al hp nx Db (es1.nx+1):=⟨by omega,λj hj=>by rw [Fj j (by omega),Cr j (by omega),g.same j hj]⟩
  have uA:=FN.keep (Ap:=Db) λj (hj:j<n0)=>Fj j (by omega)
  have tZ:=FM.keep (Ap:=Db) λj (hj:j<n0)=>Fj j (by omega)
  have r1:=h1.ka hn g2
  have r2:=h2.ka hn g2
  have D8:=(g2.same B tc).trans hB
  obtain ⟨⟨F0,F1,F2⟩,L0,L1,L2,_⟩:=Mh D8
  obtain ⟨⟨f0,f1⟩,l0,l1,_⟩:=Wf Gv
  generalize l[i]=c at uA tZ Ml cU FN FM rx ry
  by_cases c1:c.pos.length=D.length
  .by_cases c2:c.vals.length=0
   .have sh:¬ (c.pos.length≠D.length\/(c.vals.length≠0/\c.vals.length≠A.length)):=by omega
    simp only [Am,↓An,b2,F0,L0,f0,f1,l0,l1,r1.len,uA.len,tZ.len,show decide (¬ c.pos.length=D.length)=false by simp [c1],show decide (¬ ((c.vals.length:Int)=0))=false by simp [c2]]
    refine Ci5 k n0 (hp:=Db) (nx:=es1.nx+1) (B:=B) (C:=es1.nx) (v1:=ls) (v14:=ls) (v15:=iv l.length) (v16:=iv (i:Nat)) (d:=d) (x:=x) (y:=y) (l:=D) (c:=c) (by omega) ⟨by simpa only [bR] using Al.refl _ _,by simp only [bR,b1],by simp only [bR,b2],by simp only [bR],by simp only [bR,b14],by simp only [bR,b15],by simp only [bR,b16]⟩ Gv (by omega) r1 uA c1 hD (by simp only [bR]) (by simp only [bR]) (by simp only [bR];rfl) (λho Fs yc=>?_) λho Fs g3 q4 q5=>?_
    .obtain ⟨g3,x1,x2,x7,bH,K2,K1⟩:=yc
     have Ik:=g3.le
     have PA:=(g3.same es1.nx (by omega)).trans Gv
     obtain ⟨⟨p0,p1⟩,m0,m1,_⟩:=Wf PA
     have ez:=tZ.ka (by omega) g3
     simp only [Am,↓An,x7,p1,m1,ez.len]
     refine Ci6 k n0 (hp:=Db) (nx:=es1.nx+1) (B:=B) (C:=es1.nx) (v1:=ls) (v14:=ls) (v15:=iv l.length) (v16:=iv (i:Nat)) (d:=d) (a:=a) (cc:=cc) (y:=y) (m:=A) (c:=c) (by omega) ⟨by simpa only [bR] using g3,by simp only [bR,x1],by simp only [bR,x2],by simp only [bR,x7],by simp only [bR,bH],by simp only [bR,K2],by simp only [bR,K1]⟩ D8 (by omega) r2 tZ (by omega) hA cU (by simp only [bR]) (by simp only [bR]) (by simp only [bR];rfl) (λhf Yj yb=>?_) λhf Yj g4 q4 q5=>?_
     .obtain ⟨g4,x1,x2,x7,bH,K2,K1⟩:=yb
      have ce:Le D A c=0:=by unfold Le;rw [Ae sh,Ae (by rw [ho];decide),Ae (by rw [hf];decide)]
      rw [ce,Ae (by decide)] at Ml
      simp only [Am,↓An,x1,x2,bH,K2,K1,h,Hn (show i<_ by omega)]
      exact ⟨g2.trans g4,Ml⟩
     .have ce:Le D A c=12:=by unfold Le;rw [Ae sh,Ae (by rw [ho];decide),Ah hf]
      rw [ce,Ah (by decide)] at Ml
      simp only [↓An]
      exact hR (by rw [Ml];decide) _ (g2.trans g4) q4 (by rw [q5,Ml])
    .have ce:Le D A c=3:=by unfold Le;rw [Ae sh,Ah ho]
     rw [ce,Ah (by decide)] at Ml
     simp only [↓An]
     exact hR (by rw [Ml];decide) _ (g2.trans g3) q4 (by rw [q5,Ml])
   .by_cases c3:c.vals.length=A.length
    .have sh:¬ (c.pos.length≠D.length\/(c.vals.length≠0/\c.vals.length≠A.length)):=by omega
     simp only [Am,↓An,b2,F0,F1,L0,L1,f0,f1,l0,l1,r1.len,r2.len,uA.len,tZ.len,show decide (¬ c.pos.length=D.length)=false by simp [c1],show decide (¬ ((c.vals.length:Int)=0))=true by simp [c2],show decide (¬ c.vals.length=A.length)=false by simp [c3]]
     refine Ci5 k n0 (hp:=Db) (nx:=es1.nx+1) (B:=B) (C:=es1.nx) (v1:=ls) (v14:=ls) (v15:=iv l.length) (v16:=iv (i:Nat)) (d:=d) (x:=x) (y:=y) (l:=D) (c:=c) (by omega) ⟨by simpa only [bR] using Al.refl _ _,by simp only [bR,b1],by simp only [bR,b2],by simp only [bR],by simp only [bR,b14],by simp only [bR,b15],by simp only [bR,b16]⟩ Gv (by omega) r1 uA c1 hD (by simp only [bR]) (by simp only [bR]) (by simp only [bR];rfl) (λho Fs yc=>?_) λho Fs g3 q4 q5=>?_
     .obtain ⟨g3,x1,x2,x7,bH,K2,K1⟩:=yc
      have Ik:=g3.le
      have PA:=(g3.same es1.nx (by omega)).trans Gv
      obtain ⟨⟨p0,p1⟩,m0,m1,_⟩:=Wf PA
      have ez:=tZ.ka (by omega) g3
      simp only [Am,↓An,x7,p1,m1,ez.len]
      refine Ci6 k n0 (hp:=Db) (nx:=es1.nx+1) (B:=B) (C:=es1.nx) (v1:=ls) (v14:=ls) (v15:=iv l.length) (v16:=iv (i:Nat)) (d:=d) (a:=a) (cc:=cc) (y:=y) (m:=A) (c:=c) (by omega) ⟨by simpa only [bR] using g3,by simp only [bR,x1],by simp only [bR,x2],by simp only [bR,x7],by simp only [bR,bH],by simp only [bR,K2],by simp only [bR,K1]⟩ D8 (by omega) r2 tZ (by omega) hA cU (by simp only [bR]) (by simp only [bR]) (by simp only [bR];rfl) (λhf Yj yb=>?_) λhf Yj g4 q4 q5=>?_
      .obtain ⟨g4,x1,x2,x7,bH,K2,K1⟩:=yb
       have ce:Le D A c=0:=by unfold Le;rw [Ae sh,Ae (by rw [ho];decide),Ae (by rw [hf];decide)]
       rw [ce,Ae (by decide)] at Ml
       simp only [Am,↓An,x1,x2,bH,K2,K1,h,Hn (show i<_ by omega)]
       exact ⟨g2.trans g4,Ml⟩
      .have ce:Le D A c=12:=by unfold Le;rw [Ae sh,Ae (by rw [ho];decide),Ah hf]
       rw [ce,Ah (by decide)] at Ml
       simp only [↓An]
       exact hR (by rw [Ml];decide) _ (g2.trans g4) q4 (by rw [q5,Ml])
     .have ce:Le D A c=3:=by unfold Le;rw [Ae sh,Ah ho]
      rw [ce,Ah (by decide)] at Ml
      simp only [↓An]
      exact hR (by rw [Ml];decide) _ (g2.trans g3) q4 (by rw [q5,Ml])
    .have ce:Le D A c=13:=by unfold Le;rw [Ah (.inr ⟨c2,c3⟩)]
     rw [ce,Ah (by decide)] at Ml
     simp only [Am,↓An,b2,F0,F1,L0,L1,f0,f1,l0,l1,r1.len,r2.len,uA.len,tZ.len,show decide (¬ c.pos.length=D.length)=false by simp [c1],show decide (¬ ((c.vals.length:Int)=0))=true by simp [c2],show decide (¬ c.vals.length=A.length)=true by simp [c3]]
     exact hR (by rw [Ml];decide) _ (by simpa only [bR] using g2) (by simp only [bR];rfl) (by simp only [bR];rw [Ml])
  .have ce:Le D A c=13:=by unfold Le;rw [Ah (.inl c1)]
   rw [ce,Ah (by decide)] at Ml
   simp only [Am,↓An,b2,F0,L0,f0,l0,r1.len,uA.len,show decide (¬ c.pos.length=D.length)=true by simp [c1]]
   exact hR (by rw [Ml];decide) _ (by simpa only [bR] using g2) (by simp only [bR];rfl) (by simp only [bR];rw [Ml])
 .rw [Av (by omega)] at Ml
  simp only [Am,↓An,b15,b16,h]
  exact hQ Ml _ (by simpa only [bR] using g) (by simp only [bR,b1])
end
end Go.DD

/- Contracts: checked. Conditions: those that each theorem states. -/
namespace Go.DD
open Go Go.Proofs Go.Sort
def vY(m:List PCell)(i:Nat):Prop:=∃ (h:0<i) (h2:i<m.length),Cd (m[i-1]'(by omega)).pos m[i].pos=0
def yq(D:List PDim)(A:List PAttr)(l:List PCell)(e:Int)(m:List PCell):Prop:=
 (Gx D A l≠0/\e=Gx D A l/\m=[])\/(Gx D A l=0/\e=5/\m=[]/\∃ s i,jA l s/\vY s i)\/(Gx D A l=0/\e=0/\jA l m/\∀ i,¬ vY m i)
section
variable (k n0:Nat)
theorem Cz6{es:ES}{Q:Exit->ES->Prop}{z:DV}{m:List PCell}(hn:n0<=es.nx)(hz:RL rChange es.hp (Bl n0) z m)(hm:m.length<900000)(hb:∀ c∈m,c.pos.length<900000)(Ig:Ac es (.t (.r (.l (.r .o))))=z)(Na:Ac es (.t (.l (.r (.r .o))))=iv (1:Nat))
  (hQ:(∀ i,¬ vY m i)->∀ es',Al es.hp es.nx es'.hp es'.nx->Ac es' (.t (.r (.l (.r .o))))=z->Q (.exit 6) es')
  (hR:(∃ i,vY m i)->∀ es',Al es.hp es.nx es'.hp es'.nx->Ac es' (.t (.r (.l .o)))=Bv->Ac es' (.t (.l (.r .o)))=iv 5->Q .ret es') :
  EW (cL 1000000 oX) (kN (k+5)) es Q:=by
 refine EW.up (m.length) (λi es1=>Al es.hp es.nx es1.hp es1.nx/\(∀ j,j<i+1->¬ vY m j)/\Ac es1 (.t (.r (.l (.r .o))))=z/\Ac es1 (.t (.l (.r (.r .o))))=iv (i+1:Nat)) ?_ ⟨Al.refl _ _,λj hj ⟨h,_⟩=>by omega,Ig,Na⟩ (by omega)
 rintro i es1 hi ⟨g,Ml,Ig,Na⟩
 unfold oX
 have hle:=g.le
 have r:=hz.ka hn g
 by_cases h:i+1<m.length
 .obtain ⟨pA,vA,rA,_,_,lA,_⟩:=wC r (show i<m.length by omega)
  obtain ⟨pB,vB,rB,_,_,lB,_⟩:=wC r h
  have hd:Cl .sub (.v (.int .i64 ((i+1:Nat):Int))) (.v (.int .i64 1))=some (.v (.int .i64 (i:Int))):=Xn (i+1) (by omega) (by omega)
  simp only [Am,↓An,Ig,Na,r.len,h,hd,Uy r (show i<m.length by omega),Uy r h,CS (k:=0) r (show i<m.length by omega),CS (k:=0) r h,lA,lB,r.rox (m:=13) (show n0<=es1.nx by omega),ZA (m:=13) r (show n0<=es1.nx by omega),YZ (m:=13) r (show n0<=es1.nx by omega),rA.rox (m:=13) (show n0<=es1.nx by omega),rB.rox (m:=13) (show n0<=es1.nx by omega)]
  refine Ge rfl (Tf ?_)
  simp only [bR,Ao,Aq]
  refine wL (k+1) n0 _ _ _ pA pB m[i].pos m[i+1].pos (by omega) rA rB (hb _ (Bd _)) ?_
  by_cases c1:Cd m[i].pos m[i+1].pos=0
  .simp only [Am,↓An,Ai c1]
   exact hR ⟨i+1,by omega,h,c1⟩ _ (by simpa only [bR] using g.nx (show es1.nx<=es1.nx+13 by omega)) (by simp only [bR];rfl) (by simp only [bR])
  .simp only [Am,↓An,Ad c1,Ig,Na,Hn (show i+1<_ by omega)]
   refine ⟨by omega,g.nx (show es1.nx<=es1.nx+13 by omega),λj hj=>?_⟩
   by_cases e:j=i+1
   .subst e
    exact λ⟨_,_,h3⟩=>c1 h3
   .exact Ml j (by omega)
 .simp only [Am,↓An,Ig,Na,r.len,h]
  exact hQ (λj ⟨h1,h2,h3⟩=>Ml j (by omega) ⟨h1,h2,h3⟩) _ (by simpa only [bR] using g) (by simp only [bR,Ig])
theorem Bo8(hp:Tr DObj)(nx:Nat)(K:DV->Tr DObj->Nat->Prop)(d a cc ls:DV)(x:PArr)(l:List PCell)(hn:n0<=nx)(r1:RL rDim hp (Bl n0) d x.dims)(r2:RL rAttr hp (Bl n0) a x.attrs)(r3:RL rCell hp (Bl n0) cc x.cells)(hL:RL rChange hp (Bl n0) ls l)(hx:AOK x)(hl:l.length<256)(hb:∀ c∈l,c.pos.length<900000)(hc:∀ c∈l,∀ v∈c.vals,Wn v)
  (hK:∀ Ap Ba z m e,Al hp nx Ap Ba->RL rChange Ap (Bl Ba) z m->yq x.dims x.attrs l e m->K (.tup [z,iv e]) Ap Ba):KW (kN (k+18)) (.fn 58) [.agg [d,a,cc],ls] hp nx K:=by
 refine bT (Gb (by decide)) t58 (Ab rfl) λes e1 e2 he=>?_
 have a0:Ac es (.t .o)=.agg [d,a,cc]:=he 0 _ rfl
 have a1:Ac es (.t (.l .o))=ls:=he 1 _ rfl
 unfold r58
 subst e1 e2
 simp only [↓An]
 refine Tm (cs:=[d,a,cc]) (by rw [Di,a0];exact AR.live r1 r2 r3) λDv Dc Cr=>?_
 simp only [bR] at Dc Cr
 have Em:Al es.hp es.nx Dv (es.nx+1):=⟨by omega,λj hj=>Cr j (by omega)⟩
 have sx:=hL.ka hn Em
 simp only [Am,↓An,a1,sx.len]
 refine Cz5 (k+11) n0 (hp:=Dv) (nx:=es.nx+1) (B:=es.nx) (ls:=ls) (d:=d) (a:=a) (cc:=cc) (l:=l) (D:=x.dims) (A:=x.attrs) (by omega) Dc (by omega) sx (r1.ka hn Em) (r2.ka hn Em) (by omega) hx.d hx.a hc (by simpa only [bR] using Al.refl _ _) (by simp only [bR,a1]) (by simp only [bR]) (by simp only [bR]) (by simp only [bR]) (by simp only [bR];rfl) (λh0 By g2 b1=>?_) λh0 By g2 b4 b5=>?_
 .have Cq:=Em.trans g2
  have Fq:=Cq.le
  have OX:=hL.ka hn Cq
  have sw:RL rChange By.hp (Bl By.nx) ls l:=OX.mono λj (hj:j<n0)=>by show j<By.nx;omega
  simp only [Am,↓An,b1]
  refine Dt (B06 (k+16) _ _ _ ls OX.ok OX.live λHe Lx Jh=>?_)
  have Ec:Al es.hp es.nx He (By.nx+1):=⟨by omega,λj hj=>by rw [Jh j (by omega),Cq.same j hj]⟩
  have hL3:=sw.keep (Ap:=He) λj (hj:j<By.nx)=>Jh j (by omega)
  simp only [Am,↓An]
  refine Dt (Bo7 k By.nx _ _ _ By.nx _ ls l (by omega) Lx (by omega) hL3 hl hb λHo Lb z m Vq Yh lR Lm=>?_)
  have Lv:Al es.hp es.nx Ho Lb:=⟨by omega,λj hj=>by rw [Yh j (by omega),Ec.same j hj]⟩
  have AN:m.length=l.length:=Lm.1.length_eq
  simp only [Am,↓An]
  refine Cz6 (k+12) Lb (z:=z) (m:=m) (by simpa only [bR] using Af _) (by simpa only [bR] using lR) (by omega) (λc hc=>hb c (Lm.1.subset hc)) (by simp only [bR]) (by simp only [bR];rfl) (λhd dO g5 Ig=>?_) λhd dO g5 b4 b5=>?_
  .simp only [] at g5
   have LZ:=lR.ka (Af Lb) g5
   have nw:RL rChange dO.hp (Bl dO.nx) z m:=LZ.mono λj (hj:j<Lb)=>by have:=g5.le;show j<dO.nx;omega
   simp only [Am,↓An,bP,Ig,LZ.live]
   exact hK _ _ _ m 0 (Lv.trans g5) nw (.inr (.inr ⟨h0,rfl,Lm,hd⟩))
  .simp only [] at g5
   simp only [Am,↓An,bP,b4,b5]
   obtain ⟨i,hi⟩:=hd
   exact hK _ _ _ [] 5 (Lv.trans g5) .nil (.inr (.inl ⟨h0,rfl,rfl,m,i,Lm,hi⟩))
 .simp only [Am,↓An,bP,b4,b5]
  exact hK _ _ _ _ _ (Em.trans g2) .nil (.inl ⟨h0,rfl,rfl⟩)
end
end Go.DD

/- Contracts: BinarySearchFunc of cells by a place. Conditions: those that each theorem states. -/
namespace Go.DD
open Go Go.Proofs Go.Sort
def mQ:DV:=.fn (.func 131) [.tup []]
theorem Bc1(hp:Tr DObj):Ch hp mQ=mQ:=eL (by simp [mQ,DV.refs,DV.refsL])
structure Low (l:List PCell) (p:List Int) (w:Nat):Prop where
 le:w<=l.length
 lo:∀ t (h:t<l.length),t<w->Cd l[t].pos p<0
 hi:∀ t (h:t<l.length),w<=t->¬ Cd l[t].pos p<0
def Tq(l:List PCell)(p:List Int)(w:Nat):Bool:=match l[w]? with
 | some c=>decide (Cd c.pos p=0)
 | none=>false
section
variable (k n0:Nat) (hp:Tr DObj) (nx:Nat) (K:DV->Tr DObj->Nat->Prop)
theorem Ci7(x y t:DV)(c:PCell)(p:List Int)(hn:n0<=nx)(h1:RL rInt hp (Bl n0) x c.pos)(h2:RL rVal hp (Bl n0) y c.vals)(h3:RL rInt hp (Bl n0) t p)(hl:c.pos.length<900000)
  (hK:∀ Ap Ba,Al hp nx Ap Ba->K (iv (Cd c.pos p)) Ap Ba):KW (kN (k+5)) (.fn 131) [.agg [x,y],t] hp nx K:=by
 refine Ds (Gb (by decide)) dg (Ab rfl) λes e1 e2 he=>?_
 have a0:Ac es (.t .o)=.agg [x,y]:=he 0 _ rfl
 have a1:Ac es (.t (.l .o))=t:=he 1 _ rfl
 unfold HW
 subst e1 e2
 simp only [↓An]
 refine Tm (cs:=[x,y]) (by rw [Di,a0];exact Kl h1 h2) λDv Dc Cr=>?_
 simp only [bR] at Dc Cr
 have Em:Al es.hp es.nx Dv (es.nx+1):=⟨by omega,λj hj=>Cr j (by omega)⟩
 obtain ⟨⟨f0,_⟩,l0,_,_⟩:=Wf Dc
 simp only [Am,↓An,a1,f0,l0]
 refine Dt (wL (k:=k) n0 _ _ _ x t _ _ (by omega) (h1.ka hn Em) (h3.ka hn Em) hl ?_)
 simp only [Am,↓An,bP]
 exact hK _ _ Em
theorem Cz7(d t:DV)(l:List PCell)(p:List Int)(w:Nat)(hn:n0<=nx)(h1:RL rCell hp (Bl n0) d l)(h3:RL rInt hp (Bl n0) t p)(hl:l.length<900000)(hb:∀ c∈l,c.pos.length<900000)(hw:Low l p w)
  (hK:∀ Ap Ba,Al hp nx Ap Ba->K (.tup [iv (w:Nat),bv (Tq l p w)]) Ap Ba):KW (kN (k+6)) (.fn 130) [d,t,mQ] hp nx K:=by
 refine bT (Gb (by decide)) dh (Ab rfl) λes e1 e2 he=>?_
 have a0:Ac es (.t .o)=d:=he 0 _ rfl
 have a1:Ac es (.t (.l .o))=t:=he 1 _ rfl
 have a2:Ac es (.t (.r .o))=mQ:=he 2 _ rfl
 unfold HX
 subst e1 e2
 have uQ:=hw.le
 simp only [Am,↓An,a0,h1.len]
 refine EW.l (I:=λm es1=>∃ i j:Nat,m=j-i/\i<=w/\w<=j/\j<=l.length/\Al es.hp es.nx es1.hp es1.nx/\Ac es1 (.t .o)=d/\Ac es1 (.t (.l .o))=t/\Ac es1 (.t (.r .o))=mQ/\Ac es1 (.t (.r (.l (.l .o))))=iv l.length/\Ac es1 (.t (.l (.r (.l .o))))=iv (i:Nat)/\Ac es1 (.t (.r (.r (.l .o))))=iv (j:Nat)) ?_ l.length 1000000 _ ⟨0,l.length,rfl,by omega,by omega,by omega,Al.refl _ _,by simp only [bR,a0],by simp only [bR,a1],by simp only [bR,a2],by simp only [bR],by simp only [bR];rfl,by simp only [bR]⟩ (by omega)
 rintro m es1 ⟨i,j,hm,hi,hj,Xt,g,b0,b1,b2,b8,b9,b10⟩
 unfold Ch3
 have hle:=g.le
 have r:=h1.ka hn g
 have rt:=h3.ka hn g
 by_cases h:i<j
 .have AN:(i+j) / 2<l.length:=by omega
  obtain ⟨M,hM⟩:∃ M,M=(i+j) / 2:=⟨_,rfl⟩
  have vQ:M<l.length:=by omega
  have hh:Cl .shr (.v (.int .u64 ((i+j:Nat):Int))) (.v (.int .u64 1))=some (.v (.int .u64 (M:Int))):=by rw [RP,<- hM]
  obtain ⟨x,y,rx,ry,lx,_,_,_⟩:=Ed r vQ
  simp only [Am,↓An,bP,b0,b1,b2,b9,b10,h,Wg (show i+j<_ by omega),Zm (show i+j<_ by omega),hh,Zn (show M<_ by omega),Yo r vQ,lx]
  refine bI (f:=131) (cs:=[]) (by simp only [Di,bR];exact Bc1 _) ?_
  simp only [bR,Ao,Aq,Bu,Bh]
  refine Ci7 k n0 _ _ _ x y t l[M] p (by omega) rx ry rt (hb _ (Bd _)) λDb Hh Cq=>?_
  by_cases c1:Cd l[M].pos p<0
  .simp only [Am,↓An,Ai c1,Hn (show M<_ by omega)]
   have:M<w:=Va λh=>hw.hi M vQ h c1
   exact ⟨j-(M+1),by omega,M+1,j,rfl,by omega,hj,Xt,g.trans Cq,b0,b1,b2,b8,rfl,b10⟩
  .simp only [Am,↓An,Ad c1]
   have:w<=M:=Nat.le_of_not_lt λh=>c1 (hw.lo M vQ h)
   exact ⟨M-i,by omega,i,M,rfl,hi,by omega,by omega,g.trans Cq,b0,b1,b2,b8,b9,rfl⟩
 .have Nm:i=w:=by omega
  subst Nm
  by_cases hx:i<l.length
  .obtain ⟨x,y,rx,ry,lx,_,_,_⟩:=Ed r hx
   have jZ:Tq l p i=decide (Cd l[i].pos p=0):=by unfold Tq;rw [Aa hx]
   simp only [Am,↓An,b0,b1,b2,b8,b9,b10,h,hx,Yo r hx,lx]
   refine bI (f:=131) (cs:=[]) (by simp only [Di,bR];exact Bc1 _) ?_
   simp only [bR,Ao,Aq,Bu,Bh]
   refine Ci7 k n0 _ _ _ x y t l[i] p (by omega) rx ry rt (hb _ (Bd _)) λDb Hh Cq=>?_
   rw [jZ] at hK
   simp only [Am,↓An,bP]
   exact hK _ _ (g.trans Cq)
  .have jZ:Tq l p i=false:=by unfold Tq;rw [Ie (by omega)]
   rw [jZ] at hK
   simp only [Am,↓An,bP,b8,b9,b10,h,hx]
   exact hK _ _ g
end
end Go.DD

/- Plain: where a place lies in sorted cells; changes laid over cells. -/
namespace Go.DD
open Go Go.Proofs Go.Sort
def Fe(p:List Int)(l:List PCell):Nat:=(l.takeWhile λe=>decide (Cd e.pos p<0)).length
abbrev Iu(l:List PCell):Prop:=l.Pairwise λx y=>Cd x.pos y.pos = -1
theorem JQ{a b p:List Int}(h1:Cd a b = -1)(h2:Cd b p<0):Cd a p<0:=by
 have h:=swoC.trans ⟨a,[]⟩ ⟨b,[]⟩ ⟨p,[]⟩ (by unfold Cg;exact Ai (by show Cd a b<0;omega)) (by unfold Cg;exact Ai h2)
 unfold Cg at h
 exact Fw h
theorem RO(p:List Int):∀ {l:List PCell},Iu l->Low l p (Fe p l)
 | [],_=>⟨Gf _,λt h=>absurd h (by simp),λt h=>absurd h (by simp)⟩
 | c::l,h=>by
  obtain ⟨h1,h2⟩:=Dj.1 h
  by_cases hc:Cd c.pos p<0
  .have e:Fe p (c::l)=Fe p l+1:=by unfold Fe;rw [List.takeWhile_cons,Ah (Ai hc),Fi]
   rw [e]
   have ih:=RO p h2
   refine ⟨by have:=ih.le;simp only [Fi];omega,λt ht Fb=>?_,λt ht hle=>?_⟩
   .cases t with
    | zero=>exact hc
    | succ t=>exact ih.lo t (by simpa using ht) (by omega)
   .cases t with
    | zero=>omega
    | succ t=>exact ih.hi t (by simpa using ht) (by omega)
  .have e:Fe p (c::l)=0:=by unfold Fe;rw [List.takeWhile_cons,Ae (by simpa using hc)];rfl
   rw [e]
   refine ⟨Gf _,λt _ Fb=>by omega,λt ht _=>?_⟩
   cases t with
   | zero=>exact hc
   | succ t=>
    have bW:t<l.length:=by simpa using ht
    exact λh3=>hc (JQ (h1 _ (Bd bW)) h3)
def Ii(p:List Int)(l:List PCell):Nat:=if Tq l p (Fe p l)=true then Fe p l+1 else Fe p l
theorem Cz8{p:List Int}{l:List PCell}(h:Iu l):Ii p l<=l.length:=by
 have hw:=RO p h
 unfold Ii
 split
 .rename_i hi
  have:Fe p l<l.length:=by
   refine Va λhle=>?_
   unfold Tq at hi
   rw [Ie hle] at hi
   cases hi
  omega
 .exact hw.le
def Fz:List PCell->List PCell->List PCell
 | [],cs=>cs
 | c::l,cs=>cs.take (Fe c.pos cs)++((if c.vals=[] then [] else [c])++Fz l (cs.drop (Ii c.pos cs)))
theorem I8:∀ (l cs:List PCell),(Fz l cs).length<=l.length+cs.length
 | [],cs=>by simp [Fz]
 | c::l,cs=>by
  have ih:=I8 l (cs.drop (Ii c.pos cs))
  have h1:Fe c.pos cs<=Ii c.pos cs:=by unfold Ii;split <;> omega
  have h2:Fe c.pos cs<=cs.length:=by unfold Fe;exact (List.takeWhile_sublist _).length_le
  have h3:(if c.vals=[] then ([]:List PCell) else [c]).length<=1:=by split <;> simp
  unfold Fz
  simp only [Bp,Ca,Cv,Fi] at ih ⊢
  omega
end Go.DD

/- Contracts: changes laid over cells. Conditions: those that each theorem states. -/
namespace Go.DD
open Go Go.Proofs Go.Sort
section
variable (k n0:Nat) (hp:Tr DObj) (nx:Nat) (K:DV->Tr DObj->Nat->Prop)
theorem zU(ls d:DV)(l cs:List PCell)(hn:n0<=nx)(hL:RL rChange hp (Bl n0) ls l)(hd:RL rCell hp (Bl n0) d cs)(hl:l.length+cs.length<900000)(hs:Iu cs)(hb:∀ c∈cs,c.pos.length<900000)
  (hK:∀ Ap Ba z,Al hp nx Ap Ba->RL rCell Ap (λj=>j<n0\/(nx<=j/\j<Ba)) z (Fz l cs)->(∀ j∈z.refs,nx<=j)->K z Ap Ba):KW (kN (k+7)) (.fn 60) [ls,d] hp nx K:=by
 refine Ds (Gb (by decide)) t60 (Ab rfl) λes e1 e2 he=>?_
 have a0:Ac es (.t .o)=ls:=he 0 _ rfl
 have a1:Ac es (.t (.l .o))=d:=he 1 _ rfl
 unfold r60
 subst e1 e2
 simp only [Am,↓An,a0,hL.len]
 refine EW.up l.length (λi es1=>∃ d1 Jz z O,Al es.hp es.nx es1.hp es1.nx/\RL rCell es1.hp (Bl n0) d1 Jz/\OL rCell es1.hp (Bl n0) z O/\(∀ j∈z.refs,es.nx<=j/\j<es1.nx)/\Iu Jz/\(∀ c∈Jz,c.pos.length<900000)/\O++Fz (l.drop i) Jz=Fz l cs/\O.length+Jz.length<=i+cs.length/\Ac es1 (.t (.l .o))=d1/\Ac es1 (.t (.l (.r .o)))=z/\Ac es1 (.t (.r (.r (.l .o))))=ls/\Ac es1 (.t (.l (.l (.r .o))))=iv l.length/\Ac es1 (.t (.r (.l (.r .o))))=iv (i:Nat)) ?_ ⟨d,cs,Bv,[],Al.refl _ _,hd,.nil,λj hj=>by (cases hj),hs,hb,rfl,by simp,by simp only [bR,a1],by simp only [bR];rfl,by simp only [bR],by simp only [bR],by simp only [bR];rfl⟩ (by omega)
 rintro i es1 hi ⟨d1,Jz,z,O,g,rd,ro,rz,Co,Qt,hO,hlen,b1,b5,b10,b11,Ig⟩
 unfold zF
 have hle:=g.le
 by_cases h:i<l.length
 .have r:=hL.keep (Ap:=es1.hp) λj (hj:j<n0)=>g.same j (by omega)
  obtain ⟨x,y,rx,ry,lC,_,_⟩:=wC r h
  have hdr:Fz (l.drop i) Jz=Jz.take (Fe l[i].pos Jz)++((if l[i].vals=[] then [] else [l[i]])++Fz (l.drop (i+1)) (Jz.drop (Ii l[i].pos Jz))):=by rw [As h,Fz]
  rw [hdr] at hO
  simp only [Am,↓An,b10,b11,Ig,h,Uy r h,lC]
  refine Oe λDv Dc Cr=>?_
  simp only [bR] at Dc Cr
  have FN:=rx.keep (Ap:=Dv) λj (hj:j<n0)=>Cr j (by omega)
  have FM:=ry.keep (Ap:=Dv) λj (hj:j<n0)=>Cr j (by omega)
  simp only [Am,↓An]
  refine Oi (n:=2) (id:=es1.nx) (ds:=[x,y]) (by simp only [bR]) Dc (by simp only [Di,bR];exact Kl FN FM) rfl rfl λDb Gv Fj=>?_
  simp only [bR] at Gv Fj
  have k2:∀ j,j<es1.nx->Db.get j=es1.hp.get j:=λj hj=>by rw [Fj j (by omega),Cr j (by omega)]
  obtain ⟨⟨f0,f1⟩,l0,l1,_⟩:=Wf Gv
  have uA:=rx.keep (Ap:=Db) λj (hj:j<n0)=>k2 j (by omega)
  have tZ:=ry.keep (Ap:=Db) λj (hj:j<n0)=>k2 j (by omega)
  have TU:=rd.keep (Ap:=Db) λj (hj:j<n0)=>k2 j (by omega)
  have hw:=RO l[i].pos Co
  have nG:=Cz8 (p:=l[i].pos) Co
  have pg:=hw.le
  have hwn:Fe l[i].pos Jz<=Ii l[i].pos Jz:=by unfold Ii;split <;> omega
  simp only [Am,↓An,b1,f0,l0]
  refine Dt (Cz7 k n0 _ _ _ d1 x Jz l[i].pos (Fe l[i].pos Jz) (by omega) TU uA (by omega) Qt hw λHe Dn Ec=>?_)
  have Ik:=Ec.le
  have k3:∀ j,j<es1.nx->He.get j=es1.hp.get j:=λj hj=>by rw [Ec.same j (by omega),k2 j hj]
  have Z7:=rd.keep (Ap:=He) λj (hj:j<n0)=>k3 j (by omega)
  have ro3:=ro.keep (Ap:=He) λj hj=>k3 j (hj.elim (λ(h:j<n0)=>by omega) λh=>(rz j h).2)
  simp only [Am,↓An,b1,b5,E4]
  refine RU (R:=rCell) (a:=0) (z:=Fe l[i].pos Jz) (d:=d1) (by simp only [bR,bP]) Z7 rfl rfl (λn hn=>by simp only [SM,Dh,bR,bP];rfl) (by omega) pg ?_
  have fg:=Z7.part (a:=0) (z:=Fe l[i].pos Jz) (by omega) pg
  simp only [Fx,Nat.sub_zero] at fg
  simp only [Am,↓An]
  refine fL (R:=rCell) (p:=Bl n0) (p2:=Bl n0) (d:=z) (d2:=tW rCell.e 0 (Fe l[i].pos Jz) d1) (l:=O) (m:=Jz.take (Fe l[i].pos Jz)) (by simp only [bR,bP]) ro3 (by simp only [Dh,bR,bP];exact fg.live) (fg.srcD (es:=⟨_,He,_⟩)) rfl rfl (by rw [Ca];omega) (by decide) λHo Ha h4=>?_
  simp only [bR] at Ha h4
  have o4:=h4 (Bl n0) λj hj=>by
   have:j<n0:=hj.elim id id
   exact ⟨this,by omega,λh=>by have:=(rz j h).1;omega⟩
  have k4:∀ j,j<es.nx->Ho.get j=es1.hp.get j:=λj hj=>by rw [Ha j (by omega) λh=>by (have:=(rz j h).1;omega),k3 j (by omega)]
  have gC4:Ho.get es1.nx=some (.row 62 [x,y]):=by rw [Ha _ (by omega) λh=>by (have:=(rz _ h).2;omega),Ec.same _ (by omega),Gv]
  obtain ⟨⟨p0,p1⟩,m0,m1,_⟩:=Wf gC4
  have L6:=ry.keep (Ap:=Ho) λj (hj:j<n0)=>k4 j (by omega)
  have TO:=rx.keep (Ap:=Ho) λj (hj:j<n0)=>k4 j (by omega)
  have xW:=rd.keep (Ap:=Ho) λj (hj:j<n0)=>k4 j (by omega)
  have hOl:(O++Jz.take (Fe l[i].pos Jz)).length=O.length+Fe l[i].pos Jz:=by rw [Bp,Ca];omega
  by_cases hv:l[i].vals=[]
  .rw [Ah hv,Bh,<- Ce] at hO
   have AE:l[i].vals.length=0:=by rw [hv];rfl
   cases OY:Tq Jz l[i].pos (Fe l[i].pos Jz) with
   | true=>
    .have Vm:Ii l[i].pos Jz=Fe l[i].pos Jz+1:=by unfold Ii;rw [Ah OY]
     rw [Vm] at hO nG
     simp only [Am,↓An,p1,m1,L6.len,show decide ((0:Int)<(l[i].vals.length:Int))=false from Ad (by omega),b1,Hn (show Fe l[i].pos Jz<_ by omega)]
     refine RU (R:=rCell) (a:=Fe l[i].pos Jz+1) (z:=Jz.length) (d:=d1) (by simp only [bR,bP]) xW rfl (by simp only [SM,Dh,bR,bP];rfl) (λn hn=>by rw [YJ,hn]) nG (Af _) ?_
     have rs:=xW.part (a:=Fe l[i].pos Jz+1) (z:=Jz.length) nG (Af _)
     rw [Bm (by rw [Cv];omega)] at rs
     simp only [Am,↓An,b10,b11,Ig,h,Hn (show i<_ by omega)]
     exact ⟨_,_,_,_,⟨by omega,λj hj=>by rw [k4 j hj,g.same j hj]⟩,rs,o4,λj hj=>by (have:j=Dn:=by simpa [DV.refs] using hj);omega,Co.sublist (Kh _ _),λc hc=>Qt c (De hc),hO,by (simp only [Bp,Ca,Cv];omega),rfl,rfl⟩
   | false=>
    .have Vm:Ii l[i].pos Jz=Fe l[i].pos Jz:=by unfold Ii;rw [Ae (by rw [OY];decide)]
     rw [Vm] at hO nG
     simp only [Am,↓An,p1,m1,L6.len,show decide ((0:Int)<(l[i].vals.length:Int))=false from Ad (by omega),b1]
     refine RU (R:=rCell) (a:=Fe l[i].pos Jz) (z:=Jz.length) (d:=d1) (by simp only [bR,bP]) xW rfl (by simp only [SM,Dh,bR,bP];rfl) (λn hn=>by rw [YJ,hn]) nG (Af _) ?_
     have rs:=xW.part (a:=Fe l[i].pos Jz) (z:=Jz.length) nG (Af _)
     rw [Bm (by rw [Cv];omega)] at rs
     simp only [Am,↓An,b10,b11,Ig,h,Hn (show i<_ by omega)]
     exact ⟨_,_,_,_,⟨by omega,λj hj=>by rw [k4 j hj,g.same j hj]⟩,rs,o4,λj hj=>by (have:j=Dn:=by simpa [DV.refs] using hj);omega,Co.sublist (Kh _ _),λc hc=>Qt c (De hc),hO,by (simp only [Bp,Ca,Cv];omega),rfl,rfl⟩
  .rw [Ae hv,<- Ce,<- Ce] at hO
   have AE:0<l[i].vals.length:=List.length_pos_iff.2 hv
   simp only [Am,↓An,p0,p1,m0,m1,L6.len,show decide ((0:Int)<(l[i].vals.length:Int))=true from Ai (by omega)]
   refine sJ (cs:=[x,y]) (by simp only [Ao,Aq,Dh,bR,bP,TO.live,L6.live];exact CT TO.ok L6.ok) ?_
   simp only [Am,↓An]
   refine jF (fl:=[x,y]) rfl (by simp only [Ao,Aq,Dh,bR,bP,Kl TO L6];rfl) λDu Pf Hd=>?_
   simp only [bR] at Pf Hd
   have rx5:=TO.keep (Ap:=Du) λj (hj:j<n0)=>Hd j (by omega)
   have ry5:=L6.keep (Ap:=Du) λj (hj:j<n0)=>Hd j (by omega)
   have o5:=o4.keep (Ap:=Du) λj hj=>Hd j (hj.elim (λ(h:j<n0)=>by omega) λh=>by (have:j=Dn:=by simpa [DV.refs] using h);omega)
   simp only [Am,↓An]
   refine fL (R:=rCell) (p:=Bl n0) (p2:=Bl n0) (d:=.ms Dn 0 (O++Jz.take (Fe l[i].pos Jz)).length rCell.e) (d2:=.ms (Dn+1) 0 1 2) (l:=O++Jz.take (Fe l[i].pos Jz)) (m:=[l[i]]) (by simp only [bR,bP]) o5 (by simp only [Dh,bR,bP];exact eK Pf) (BT (R:=rCell) (x:=l[i]) Pf (rCell_rd.2 ⟨x,y,rfl,rx5,ry5⟩)) rfl rfl (by rw [hOl,Cc];omega) (by decide) λGa Nk h6=>?_
   simp only [bR] at Nk h6
   have o6:=h6 (Bl n0) λj hj=>by
    have:j<n0:=hj.elim id id
    exact ⟨this,by omega,λh=>by (have:j=Dn:=by simpa [DV.refs] using h);omega⟩
   have k6:∀ j,j<es.nx->Ga.get j=es1.hp.get j:=λj hj=>by rw [Nk j (by omega) λh=>by (have:j=Dn:=by simpa [DV.refs] using h);omega,Hd j (by omega),k4 j hj]
   have Z6:=rd.keep (Ap:=Ga) λj (hj:j<n0)=>k6 j (by omega)
   cases OY:Tq Jz l[i].pos (Fe l[i].pos Jz) with
   | true=>
    .have Vm:Ii l[i].pos Jz=Fe l[i].pos Jz+1:=by unfold Ii;rw [Ah OY]
     rw [Vm] at hO nG
     simp only [Am,↓An,b1,Hn (show Fe l[i].pos Jz<_ by omega)]
     refine RU (R:=rCell) (a:=Fe l[i].pos Jz+1) (z:=Jz.length) (d:=d1) (by simp only [bR,bP]) Z6 rfl (by simp only [SM,Dh,bR,bP];rfl) (λn hn=>by rw [YJ,hn]) nG (Af _) ?_
     have rs:=Z6.part (a:=Fe l[i].pos Jz+1) (z:=Jz.length) nG (Af _)
     rw [Bm (by rw [Cv];omega)] at rs
     simp only [Am,↓An,b10,b11,Ig,h,Hn (show i<_ by omega)]
     exact ⟨_,_,_,_,⟨by omega,λj hj=>by rw [k6 j hj,g.same j hj]⟩,rs,o6,λj hj=>by (have:j=Dn+1+1:=by simpa [DV.refs] using hj);omega,Co.sublist (Kh _ _),λc hc=>Qt c (De hc),hO,by (simp only [Bp,Ca,Cv,Cc];omega),rfl,rfl⟩
   | false=>
    .have Vm:Ii l[i].pos Jz=Fe l[i].pos Jz:=by unfold Ii;rw [Ae (by rw [OY];decide)]
     rw [Vm] at hO nG
     simp only [Am,↓An,b1]
     refine RU (R:=rCell) (a:=Fe l[i].pos Jz) (z:=Jz.length) (d:=d1) (by simp only [bR,bP]) Z6 rfl (by simp only [SM,Dh,bR,bP];rfl) (λn hn=>by rw [YJ,hn]) nG (Af _) ?_
     have rs:=Z6.part (a:=Fe l[i].pos Jz) (z:=Jz.length) nG (Af _)
     rw [Bm (by rw [Cv];omega)] at rs
     simp only [Am,↓An,b10,b11,Ig,h,Hn (show i<_ by omega)]
     exact ⟨_,_,_,_,⟨by omega,λj hj=>by rw [k6 j hj,g.same j hj]⟩,rs,o6,λj hj=>by (have:j=Dn+1+1:=by simpa [DV.refs] using hj);omega,Co.sublist (Kh _ _),λc hc=>Qt c (De hc),hO,by (simp only [Bp,Ca,Cv,Cc];omega),rfl,rfl⟩
 .rw [Av (by omega)] at hO
  have hO':O++Jz=Fz l cs:=hO
  simp only [Am,↓An,b1,b5,b11,Ig,h]
  refine fL (R:=rCell) (p:=Bl n0) (p2:=Bl n0) (d:=z) (d2:=d1) (l:=O) (m:=Jz) (by simp only [bR,bP]) ro (by simp only [Dh,bR,bP];exact rd.live) (rd.srcD (es:=⟨_,es1.hp,_⟩)) rfl rfl (by omega) (by decide) λHo Ha h4=>?_
  simp only [bR] at Ha h4
  have o4:=h4 (Bl n0) λj hj=>by
   have:j<n0:=hj.elim id id
   exact ⟨this,by omega,λh=>by have:=(rz j h).1;omega⟩
  have r4:RL rCell Ho (λj=>j<n0\/(es.nx<=j/\j<es1.nx+1)) (.ms es1.nx 0 (O++Jz).length rCell.e) (O++Jz):=o4.rl.mono λj hj=>by
   rcases hj with hj | hj
   .exact .inl hj
   .have:j=es1.nx:=by simpa [DV.refs] using hj
    exact .inr ⟨by omega,by omega⟩
  simp only [Am,↓An,bP,r4.live]
  rw [hO'] at r4
  exact hK _ _ _ ⟨by omega,λj hj=>by rw [Ha j (by omega) λh=>by (have:=(rz j h).1;omega),g.same j hj]⟩ (by rw [hO'];exact r4) λj hj=>by (have:j=es1.nx:=by simpa [DV.refs] using hj);omega
end
end Go.DD

/- Plain: sorted changes laid over sorted cells are sorted cells. -/
namespace Go.DD
open Go Go.Proofs Go.Sort
theorem Be9{a b:List Int}(h:¬ Cd b a<0):Cd a b = -1\/a=b:=by
 have h1:=wJ a b
 rcases mZ a b with h2 | h2 | h2
 .exact .inl h2
 .exact .inr (cmpL_0.1 h2)
 .omega
theorem Bl8{l m:List PCell}(h:jA l m)(hd:∀ i,¬ vY m i):Iu m:=by
 refine Dx.2 λi j hi hj Nm=>?_
 have hp:=Dx.1 h.2
 have le:∀ (i j:Nat) (hi:i<m.length) (hj:j<m.length),i<j->Cd m[i].pos m[j].pos = -1\/m[i].pos=m[j].pos:=λi j hi hj Nm=>by
  have h1:=hp i j hi hj Nm
  exact Be9 (by unfold Cg at h1;exact of_decide_eq_false h1)
 rcases le i j hi hj Nm with h1 | h1
 .exact h1
 .refine absurd ?_ (hd (i+1))
  refine ⟨by omega,by omega,?_⟩
  show Cd m[i].pos m[i+1].pos=0
  rcases le i (i+1) hi (by omega) (by omega) with h2 | h2
  .by_cases e:i+1=j
   .subst e;rw [h1];exact fQ _
   .rcases le (i+1) j (by omega) hj (by omega) with h3 | h3
    .have h4:=nZ h2 h3
     rw [h1,fQ] at h4
     cases h4
    .rw [h1,<- h3];exact fQ _
  .rw [<- h2];exact fQ _
theorem A01{m:List PCell}(h:Iu m):(m.map PCell.pos).Nodup:=by
 rw [List.Nodup,List.pairwise_map]
 exact h.imp λh=>A26 h
theorem Cq4{l m:List PCell}(h:jA l m){i:Nat}(hd:vY m i):¬ (l.map PCell.pos).Nodup:=λhn=>by
 have h1:(m.map PCell.pos).Nodup:=(h.1.map _).nodup_iff.2 hn
 obtain ⟨h0,h2,h3⟩:=hd
 have h4:=Dx.1 h1 (i-1) i (by simp;omega) (by simpa using h2) (by omega)
 simp only [List.getElem_map] at h4
 exact h4 (cmpL_0.1 h3)
theorem B91{l m:List PCell}(h:jA l m)(hd:∀ i,¬ vY m i):(l.map PCell.pos).Nodup:=(h.1.map _).nodup_iff.1 (A01 (Bl8 h hd))
theorem B08{p:List Int}{cs:List PCell}(hs:Iu cs):∀ e∈cs.take (Fe p cs),Cd e.pos p = -1:=λe he=>by
 obtain ⟨t,ht,rfl⟩:=Jb he
 rw [Ew]
 have bW:t<Fe p cs/\t<cs.length:=by rw [Ca] at ht;omega
 have:=(RO p hs).lo t bW.2 bW.1
 have:=mZ (cs[t]'bW.2).pos p
 omega
theorem B09{p:List Int}{cs:List PCell}(hs:Iu cs):∀ e∈cs.drop (Ii p cs),Cd p e.pos = -1:=λe he=>by
 obtain ⟨t,ht,rfl⟩:=Jb he
 rw [Nc]
 have bW:Ii p cs+t<cs.length:=by rw [Cv] at ht;omega
 have hw:=RO p hs
 have hwn:Fe p cs<=Ii p cs:=by unfold Ii;split <;> omega
 have h1:=hw.hi (Ii p cs+t) bW (by omega)
 rcases Be9 h1 with h2 | h2
 .exact h2
 .exfalso
  have uQ:Fe p cs<cs.length:=by omega
  by_cases hi:Tq cs p (Fe p cs)=true
  .have hn:Ii p cs=Fe p cs+1:=by unfold Ii;rw [Ah hi]
   unfold Tq at hi
   rw [Aa uQ] at hi
   have h3:=cmpL_0.1 (Fw hi)
   have h4:=Dx.1 hs (Fe p cs) (Ii p cs+t) uQ bW (by omega)
   rw [h3,<- h2,fQ] at h4
   cases h4
  .have hn:Ii p cs=Fe p cs:=by unfold Ii;rw [Ae hi]
   unfold Tq at hi
   rw [Aa uQ] at hi
   have h3:¬ Cd cs[Fe p cs].pos p=0:=λh=>hi (Ai h)
   have h5:=hw.hi (Fe p cs) uQ (Af _)
   rcases Be9 h5 with h6 | h6
   .by_cases e:t=0
    .subst e
     have:cs[Ii p cs+0].pos=cs[Fe p cs].pos:=by congr 1;simp [hn]
     rw [<- this,<- h2] at h3
     exact h3 (fQ _)
    .have h4:=Dx.1 hs (Fe p cs) (Ii p cs+t) uQ bW (by omega)
     have:=nZ h6 h4
     rw [<- h2,fQ] at this
     cases this
   .rw [<- h6] at h3;exact h3 (fQ _)
theorem YV:∀ {l cs:List PCell},∀ e∈Fz l cs,e∈cs\/(e∈l/\e.vals≠[])
 | [],cs,e,h=>.inl h
 | c::l,cs,e,h=>by
  unfold Fz at h
  rcases Bo.1 h with h | h
  .exact .inl (Kn h)
  .rcases Bo.1 h with h | h
   .split at h
    .cases h
    .rename_i hv
     have:e=c:=by simpa using h
     subst this
     exact .inr ⟨by simp,hv⟩
   .rcases YV e h with h | h
    .exact .inl (De h)
    .exact .inr ⟨Bn _ h.1,h.2⟩
theorem YU:∀ {l cs:List PCell},Iu l->Iu cs->Iu (Fz l cs)
 | [],cs,_,h=>h
 | c::l,cs,hl,hs=>by
  obtain ⟨h1,h2⟩:=Dj.1 hl
  have ih:=YU (l:=l) (cs:=cs.drop (Ii c.pos cs)) h2 (hs.sublist (Kh _ _))
  have hi:∀ e∈Fz l (cs.drop (Ii c.pos cs)),Cd c.pos e.pos = -1:=λe he=>by
   rcases YV e he with h | h
   .exact B09 hs e h
   .exact h1 e h.1
  unfold Fz
  refine Pj.2 ⟨hs.sublist (List.take_sublist _ _),Pj.2 ⟨by split <;> simp,ih,λa ha b hb=>?_⟩,λa ha b hb=>?_⟩
  .split at ha
   .cases ha
   .have:a=c:=by simpa using ha
    rw [this];exact hi b hb
  .have h3:=B08 hs a ha
   rcases Bo.1 hb with hb | hb
   .split at hb
    .cases hb
    .have:b=c:=by simpa using hb
     rw [this];exact h3
   .exact nZ h3 (hi b hb)
end Go.DD

/- Contracts: the program's Apply. Conditions: those that each theorem states. -/
namespace Go.DD
open Go Go.Proofs Go.Sort
theorem B10{d:List PDim}{a:List PAttr}{c:PCell}(h:Le d a c=0)(hv:c.vals≠[]):Gy d a c=0:=by
 have hl:c.vals.length≠0:=λe=>hv (List.length_eq_zero_iff.1 e)
 unfold Le at h
 by_cases h1:c.pos.length≠d.length\/(c.vals.length≠0/\c.vals.length≠a.length)
 .rw [Ah h1] at h;cases h
 .rw [Ae h1] at h
  by_cases h2:jN d c.pos=false
  .rw [Ah h2] at h;cases h
  .rw [Ae h2] at h
   by_cases h3:Oa c.vals a=false
   .rw [Ah h3] at h;cases h
   .have e1:c.pos.length=d.length:=by omega
    have e2:c.vals.length=a.length:=by omega
    have h4:uF d c.pos=true:=by unfold uF;rw [Ai e1];simpa using h2
    unfold Gy
    rw [Ae (by omega),Ae (by rw [h4];decide),Ae h3]
theorem Bl9{d:List PDim}{a:List PAttr} : ∀ {l:List PCell},Gx d a l=0->∀ c∈l,Le d a c=0
 | [],_=>λc hc=>by cases hc
 | c::l,h=>by
  unfold Gx at h
  by_cases h1:Le d a c≠0
  .rw [Ah h1] at h;exact absurd h h1
  .rw [Ae h1] at h
   intro e he
   rcases Ak.1 he with rfl | he
   .omega
   .exact Bl9 h e he
theorem SE{x:PArr}{l m:List PCell}(hx:Ff x=0)(hc:Gx x.dims x.attrs l=0)(hm:m.Perm l)(hs:Iu m)(hl:x.cells.length+l.length<=128):Ff ⟨x.dims,x.attrs,Fz m x.cells⟩=0:=by
 obtain ⟨h1,h2,h3⟩:=Rg hx
 have hlen:=I8 m x.cells
 have AN:=hm.length_eq
 refine A73 h3 (by show (Fz m x.cells).length<=4096;omega) (λc iD=>?_) (YU hs h1)
 rcases YV c iD with h | h
 .exact h2 c h
 .exact B10 (Bl9 hc c (hm.subset h.1)) h.2
theorem oR{x:PArr}{l m:List PCell}(ho:AOK x)(hm:m.Perm l)(hl:x.cells.length+l.length<=128)(hb:∀ c∈l,c.pos.length<900000/\c.vals.length<900000/\∀ v∈c.vals,Wn v):AOK ⟨x.dims,x.attrs,Fz m x.cells⟩:=by
 have hlen:=I8 m x.cells
 have AN:=hm.length_eq
 refine ⟨ho.d,ho.a,by show (Fz m x.cells).length<900000;omega,λc iD=>?_⟩
 rcases YV c iD with h | h
 .exact ho.e c h
 .exact hb c (hm.subset h.1)
def ApR(x:PArr)(l:List PCell)(e:Int)(r:PArr):Prop:=
 (Ff x≠0/\e=2/\r=⟨[],[],[]⟩)\/(Ff x=0/\Gx x.dims x.attrs l≠0/\e=Gx x.dims x.attrs l/\r=⟨[],[],[]⟩)\/
 (Ff x=0/\Gx x.dims x.attrs l=0/\¬ (l.map PCell.pos).Nodup/\e=5/\r=⟨[],[],[]⟩)\/
 (Ff x=0/\Gx x.dims x.attrs l=0/\(l.map PCell.pos).Nodup/\e=0/\∃ m,m.Perm l/\Iu m/\r=⟨x.dims,x.attrs,Fz m x.cells⟩)
section
variable (k n0:Nat) (hp:Tr DObj) (nx:Nat) (K:DV->Tr DObj->Nat->Prop)
theorem Bm0(d1 ls:DV)(x:PArr)(l:List PCell)(hn:n0<=nx)(h1:AR hp (Bl n0) d1 x)(hL:RL rChange hp (Bl n0) ls l)(hx:AOK x)(hl:x.cells.length+l.length<=128)(hb:∀ c∈l,c.pos.length<900000/\c.vals.length<900000/\∀ v∈c.vals,Wn v)
  (hK:∀ Ap Ba d' r e,Al hp nx Ap Ba->AR Ap (Bw nx Ba) d' r->ApR x l e r->AOw Ap d'->K (.tup [d',iv e]) Ap Ba):KW (kN (k+19)) (.fn 17) [d1,ls] hp nx K:=by
 obtain ⟨d,a,c,rfl,r1,r2,r3⟩:=h1
 refine jP (Gb (by decide)) t17 (Ab rfl) λes e1 e2 he=>?_
 have a0:Ac es (.t .o)=.agg [d,a,c]:=he 0 _ rfl
 have a1:Ac es (.t (.l .o))=ls:=he 1 _ rfl
 unfold r17
 subst e1 e2
 simp only [↓An]
 refine Tm (cs:=[d,a,c]) (by rw [Di,a0];exact AR.live r1 r2 r3) λDv Dc Cr=>?_
 simp only [bR] at Dc Cr
 have Em:Al es.hp es.nx Dv (es.nx+1):=⟨by omega,λj hj=>Cr j (by omega)⟩
 simp only [Am,↓An]
 refine Oe λDb Gv Fj=>?_
 simp only [bR] at Gv Fj
 have Cq:Al es.hp es.nx Db (es.nx+1+1):=⟨by omega,λj hj=>by rw [Fj j (by omega),Cr j (by omega)]⟩
 have Qk:Db.get es.nx=_:=(Fj es.nx (by omega)).trans Dc
 obtain ⟨_,_,_,_,lA⟩:=Mh Qk
 simp only [Am,↓An,lA]
 refine Dt (Y6 (k:=k+11) n0 _ _ _ _ x (by omega) ⟨d,a,c,rfl,r1.ka hn Cq,r2.ka hn Cq,r3.ka hn Cq⟩ hx λHe Dn Ec=>?_)
 have Ik:=Ec.le
 have dF:=Cq.trans Ec
 have qL:=(Ec.same es.nx (by omega)).trans Qk
 have NR:=(Ec.same (es.nx+1) (by omega)).trans Gv
 obtain ⟨_,_,_,_,lA3⟩:=Mh qL
 by_cases cx:Ff x=0
 .simp only [Am,↓An,a1,show decide (¬ Ff x=0)=false by simp [cx],lA3]
  refine Dt (Bo8 k n0 _ _ _ d a c ls x l (by omega) (r1.ka hn dF) (r2.ka hn dF) (r3.ka hn dF) (hL.ka hn dF) hx (by omega) (λc hc=>(hb c hc).1) (λc hc=>(hb c hc).2.2) λHo Lb z m e Lv hz hC=>?_)
  have Vq:=Lv.le
  have fF:=dF.trans Lv
  have gZ:=(Lv.same es.nx (by omega)).trans qL
  have NQ:=(Lv.same (es.nx+1) (by omega)).trans NR
  have y0:Fg Ho (.tup [z,iv e]) 0=some z:=tG λid hid=>(hz.refs id (by simpa [DV.refsL,DV.refs] using hid)).2
  by_cases he:e=0
  .obtain ⟨h0,hs,hd⟩:Gx x.dims x.attrs l=0/\jA l m/\∀ i,¬ vY m i:=by
    rcases hC with ⟨h0,h1,_⟩ | ⟨_,h1,_⟩ | ⟨h0,_,h2,h3⟩
    .exact absurd (h1.symm.trans he) h0
    .rw [h1] at he;cases he
    .exact ⟨h0,h2,h3⟩
   have hsm:=Bl8 hs hd
   obtain ⟨⟨f0,f1,f2⟩,l0,l1,l2,_⟩:=Mh gZ
   have q1:RL rDim Ho (Bl Lb) d x.dims:=(r1.ka hn fF).mono λj (hj:j<n0)=>by show j<Lb;omega
   have q2:RL rAttr Ho (Bl Lb) a x.attrs:=(r2.ka hn fF).mono λj (hj:j<n0)=>by show j<Lb;omega
   have q3:RL rCell Ho (Bl Lb) c x.cells:=(r3.ka hn fF).mono λj (hj:j<n0)=>by show j<Lb;omega
   simp only [Am,↓An,y0,show decide (¬ e=0)=false by simp [he],f0,f1,f2,l0,l1,l2,Il (n0:=Lb) (m:=13) gZ (show es.nx<Lb by omega),q3.rox (m:=13) (Af Lb),hz.rox (m:=13) (Af Lb)]
   refine Ge rfl (Tf ?_)
   simp only [bR,Ao,Aq]
   have AN:=hs.1.length_eq
   refine zU (k+11) Lb _ _ _ z c m x.cells (by omega) hz q3 (by omega) (Rg cx).1 (λc hc=>(hx.e c hc).1) λDu Fm z5 Cw uP _=>?_
   have Fp:=Cw.le
   have q15:=q1.ka (nx:=Lb+13) (by omega) Cw
   have q25:=q2.ka (nx:=Lb+13) (by omega) Cw
   have TT:∀ an,Ib z5 (λid=>Cp Lb 13 an Du id):=λan=>uP.ro' (n:=Lb) (m:=13) λj hj=>hj.imp id λh=>h.1
   simp only [Am,↓An,Fp,q15.rox (m:=13) (Af Lb),q25.rox (m:=13) (Af Lb),Bj (TT _)]
   refine Ge rfl (Tf ?_)
   simp only [bR,Ao,Aq]
   refine YW (k+1) Fm _ _ _ 7 d a z5 ⟨x.dims,x.attrs,Fz m x.cells⟩ (Af _) (q15.mono λj (hj:j<Lb)=>by show j<Fm;omega) (q25.mono λj (hj:j<Lb)=>by show j<Fm;omega) (uP.mono λj hj=>by show j<Fm;omega) (SE cx h0 hs.1 hsm (by omega)) (oR hx hs.1 (by omega) hb) (by have:=I8 m x.cells;show (Fz m x.cells).length<=2 ^ 7;omega) λGa Ih d6 Lu Rv aI=>?_
   have Jr:=Lu.le
   obtain ⟨dd,da,Sb,rfl,v1,v2,v3⟩:=Rv
   have x0:Fg Ga (.tup [.agg [dd,da,Sb],iv 0]) 0=some (.agg [dd,da,Sb]):=tG λid hid=>by
    have:id∈dd.refs\/id∈da.refs\/id∈Sb.refs:=by simpa [DV.refs,DV.refsL] using hid
    rcases this with h | h | h
    .exact (v1.refs id h).2
    .exact (v2.refs id h).2
    .exact (v3.refs id h).2
   have x1:Fg Ga (.tup [.agg [dd,da,Sb],iv 0]) 1=some (iv 0):=Mo
   have tz:=(Lu.same es.nx (by omega)).trans ((Cw.same es.nx (by omega)).trans gZ)
   have W3:=(Lu.same (es.nx+1) (by omega)).trans ((Cw.same (es.nx+1) (by omega)).trans NQ)
   have FU:∀ an,Ib (.agg [dd,da,Sb]) (λid=>Cp Lb 13 an Ga id):=λan id hid=>by
    have:id∈dd.refs\/id∈da.refs\/id∈Sb.refs:=by simpa [DV.refs,DV.refsL] using hid
    have w1:=v1.ro' (n:=Lb) (m:=13) (an:=an) λj hj=>.inr (by have:=hj.1;omega)
    have w2:=v2.ro' (n:=Lb) (m:=13) (an:=an) λj hj=>.inr (by have:=hj.1;omega)
    have w3:=v3.ro' (n:=Lb) (m:=13) (an:=an) λj hj=>.inr (by have:=hj.1;omega)
    rcases this with h | h | h
    .exact w1 id h
    .exact w2 id h
    .exact w3 id h
   have Z5:∀ an,Ib (.tup [.agg [dd,da,Sb],iv 0]) (λid=>Cp Lb 13 an Ga id):=λan id hid=>FU an id (by simpa [DV.refs,DV.refsL,iv] using hid)
   simp only [Am,↓An,Jr,x0,x1,Bj (FU _),Bj (Z5 _),Il (n0:=Lb) (m:=13) W3 (show es.nx+1<Lb by omega)]
   refine Ge rfl (Oi (n:=3) (id:=es.nx+1) (ds:=[dd,da,Sb]) (by simp only [bR]) W3 (by simp only [Di,bR];exact AR.live (x:=⟨x.dims,x.attrs,Fz m x.cells⟩) v1 v2 v3) rfl rfl λIj Mt If=>?_)
   simp only [bR] at Mt If
   have PI:=(Cw.same es.nx (by omega)).trans gZ
   have gA7:=(If es.nx (by omega)).trans tz
   have Ht:∀ {a1 a2 a3:List Nat} {q1 q2 q3:Nat} (p:Past),p∈[(⟨q1,a1,Ga,Ij⟩:Past),⟨q2,a2,Du,Ga⟩,⟨q3,a3,Ho,Du⟩]->p.a.get es.nx=some (.row _ [d,a,c])/\p.b.get es.nx=some (.row _ [d,a,c]):=λp hp=>by
    simp only [Ak,Ax,or_false] at hp
    rcases hp with rfl | rfl | rfl
    .exact ⟨tz,gA7⟩
    .exact ⟨PI,tz⟩
    .exact ⟨gZ,PI⟩
   have up:∀ j,Bw Fm Ih j->Bw es.nx Ih j:=λj hj=>⟨by have:=hj.1;omega,hj.2⟩
   have kp:∀ j,Bw Fm Ih j->Ij.get j=Ga.get j:=λj hj=>If j (by have:=hj.1;omega)
   simp only [Am,↓An]
   refine ⟨nP (λj hj=>by simpa [DV.refs] using hj) (show es.nx<Lb by omega) Ht (AR.same r1 r2 r3) (nP (λj hj=>by simpa [DV.refs] using hj) (show es.nx<Lb by omega) Ht (AR.same r1 r2 r3) (nP (λj hj=>by simpa [DV.refs] using hj) (show es.nx<Lb by omega) Ht (AR.same r1 r2 r3) (nP (λj hj=>by simpa [DV.refs] using hj) (show es.nx<Lb by omega) Ht (AR.same r1 r2 r3) rfl))),_,_,sE (by simp only [bR,bP]) Mt rfl,by rw [X8];simp only [bR,bP,Sd],hK _ _ _ ⟨x.dims,x.attrs,Fz m x.cells⟩ 0 ⟨by omega,λj hj=>by rw [If j (by omega),Lu.same j (by omega),Cw.same j (by omega),fF.same j hj]⟩ ⟨dd,da,Sb,rfl,(v1.keep kp).mono up,(v2.keep kp).mono up,(v3.keep kp).mono up⟩ (.inr (.inr (.inr ⟨cx,h0,B91 hs hd,rfl,m,hs.1,hsm,rfl⟩))) (.of ((aI _ _ _ rfl).keep λj hj=>kp j (v3.refs j hj).1))⟩
  .simp only [Am,↓An,y0,show decide (¬ e=0)=true by simp [he]]
   refine sJ (cs:=[Bv,Bv,Bv]) rfl ?_
   simp only [Am,↓An]
   refine Oi (n:=3) (id:=es.nx+1) (ds:=[Bv,Bv,Bv]) (by simp only [bR]) NQ (by simp only [Di,bR];rfl) rfl rfl λhpA Uo Qj=>?_
   simp only [bR] at Uo Qj
   simp only [Am,↓An]
   exact ⟨_,_,sE (by simp only [bR,bP]) Uo rfl,by rw [X8];simp only [bR,bP,Sd],hK _ _ _ ⟨[],[],[]⟩ e ⟨by omega,λj hj=>by rw [Qj j (by omega),fF.same j hj]⟩ ⟨Bv,Bv,Bv,rfl,.nil,.nil,.nil⟩ (by
    rcases hC with ⟨h0,h1,_⟩ | ⟨h0,h1,_,s,i,hs,hd⟩ | ⟨_,h1,_⟩
    .exact .inr (.inl ⟨cx,h0,h1,rfl⟩)
    .exact .inr (.inr (.inl ⟨cx,h0,Cq4 hs hd,h1,rfl⟩))
    .exact absurd h1 he) (.of (.nil _))⟩
 .simp only [Am,↓An,show decide (¬ Ff x=0)=true by simp [cx]]
  refine sJ (cs:=[Bv,Bv,Bv]) rfl ?_
  simp only [Am,↓An]
  refine Oi (n:=3) (id:=es.nx+1) (ds:=[Bv,Bv,Bv]) (by simp only [bR]) NR (by simp only [Di,bR];rfl) rfl rfl λhpA Uo Qj=>?_
  simp only [bR] at Uo Qj
  simp only [Am,↓An]
  exact ⟨_,_,sE (by simp only [bR,bP]) Uo rfl,by rw [X8];simp only [bR,bP,Sd],hK _ _ _ ⟨[],[],[]⟩ 2 ⟨by omega,λj hj=>by rw [Qj j (by omega),dF.same j hj]⟩ ⟨Bv,Bv,Bv,rfl,.nil,.nil,.nil⟩ (.inl ⟨cx,rfl,rfl⟩) (.of (.nil _))⟩
end
end Go.DD

/- Plain: the difference leads from one to the other. -/
namespace Go.DD
open Go Go.Proofs Go.Sort
theorem A77:∀ {l m:List PCell},Iu l->Iu m->(∀ e,e∈l↔e∈m)->l=m
 | [],[],_,_,_=>rfl
 | [],b::m,_,_,h=>by have:=(h b).2 (by simp);cases this
 | a::l,[],_,_,h=>by have:=(h a).1 (by simp);cases this
 | a::l,b::m,hl,hm,h=>by
  obtain ⟨h1,h2⟩:=Dj.1 hl
  obtain ⟨h3,h4⟩:=Dj.1 hm
  have Vu:a=b:=by
   rcases Ak.1 ((h a).1 (by simp)) with e | ha
   .exact e
   .rcases Ak.1 ((h b).2 (by simp)) with e | hb
    .exact e.symm
    .have x1:=h3 a ha
     have x2:=h1 b hb
     have:=wJ a.pos b.pos
     omega
  subst Vu
  congr 1
  refine A77 h2 h4 λe=>⟨λhe=>?_,λhe=>?_⟩
  .rcases Ak.1 ((h e).1 (Bn _ he)) with x | x
   .subst x;exact absurd (h1 _ he) (by rw [fQ];decide)
   .exact x
  .rcases Ak.1 ((h e).2 (Bn _ he)) with x | x
   .subst x;exact absurd (h3 _ he) (by rw [fQ];decide)
   .exact x
theorem mX{A:List PCell}(hs:Iu A){c:PCell}(hc:c∈A):Kv A c.pos=c.vals:=by
 obtain ⟨i,hi,rfl⟩:=Jb hc
 exact A27 (λi j Nm hj=>Dx.1 hs i j (by omega) hj Nm) hi
theorem YH{A:List PCell}{p:List Int}(h:Kv A p≠[]):(⟨p,Kv A p⟩:PCell)∈A:=by
 unfold Kv at h ⊢
 cases e:A.find? (λc=>decide (c.pos=p)) with
 | none=>rw [e] at h;exact absurd rfl h
 | some c=>
  have h1:=List.mem_of_find?_eq_some e
  have h2:c.pos=p:=Fw (by simpa using List.find?_some e)
  subst h2
  exact h1
theorem btw1_mem{w:List Int×List (List PVal)}{c:PCell} : c∈Ta w↔∃ u v,w.2=[u,v]/\u≠v/\c=⟨w.1,v⟩:=by
 unfold Ta
 constructor
 .intro h
  split at h
  .rename_i u v e
   split at h
   .cases h
   .rename_i Hu
    exact ⟨u,v,e,Hu,by simpa using h⟩
  .cases h
 .rintro ⟨u,v,e,Hu,rfl⟩
  rw [e]
  simp [Hu]
theorem B11:∀ {W:List (List Int×List (List PVal))},W.Pairwise (λa b=>Cd a.1 b.1 = -1)->Iu (Tb W)
 | [],_=>.nil
 | w::W,h=>by
  obtain ⟨h1,h2⟩:=Dj.1 h
  have hp:∀ {w:List Int×List (List PVal)} {c:PCell},c∈Ta w->c.pos=w.1:=λhc=>by
   obtain ⟨_,_,_,_,rfl⟩:=btw1_mem.1 hc
   rfl
  show Iu ((w::W).flatMap Ta)
  rw [Kg]
  refine Pj.2 ⟨?_,B11 h2,λa ha b hb=>?_⟩
  .unfold Ta
   split
   .split <;> simp
   .simp
  .obtain ⟨w',bU,Kj⟩:=Gn.1 hb
   rw [hp ha,hp Kj]
   exact h1 w' bU
theorem B12{A B:List PCell}(hA:Iu A)(hB:Iu B):Iu (Tb (Gc [A,B]))/\∀ c,c∈Tb (Gc [A,B])↔((∃ e,(e∈A\/e∈B)/\e.pos=c.pos)/\Kv A c.pos≠Kv B c.pos/\c.vals=Kv B c.pos):=by
 have hS:∀ h∈[A,B],Srt h:=λh hh=>by
  simp only [Ak,Ax,or_false] at hh
  rcases hh with rfl | rfl
  .exact hA
  .exact hB
 obtain ⟨w1,w2,w3⟩:=SU (n:=Pl [A,B]) hS (Af _)
 have w2':∀ p,(∃ w∈Gc [A,B],w.1=p)↔∃ h∈[A,B],∃ c∈h,c.pos=p:=w2
 refine ⟨B11 w1,λc=>?_⟩
 unfold Tb
 rw [Gn]
 constructor
 .rintro ⟨w,hw,hc⟩
  obtain ⟨u,v,e,Hu,rfl⟩:=btw1_mem.1 hc
  have e2:=w3 w hw
  rw [e] at e2
  have e3:u=Kv A w.1/\v=Kv B w.1:=by simpa using e2
  obtain ⟨h,hh,c,hc,h2⟩:=(w2' w.1).1 ⟨w,hw,rfl⟩
  refine ⟨⟨c,?_,h2⟩,?_,e3.2⟩
  .simp only [Ak,Ax,or_false] at hh
   rcases hh with rfl | rfl
   .exact .inl hc
   .exact .inr hc
  .show Kv A w.1≠Kv B w.1
   rw [<- e3.1,<- e3.2];exact Hu
 .rintro ⟨⟨e,he,h2⟩,Hu,hv⟩
  obtain ⟨w,hw,pG⟩:=(w2' c.pos).2 (by
   rcases he with h | h
   .exact ⟨A,by simp,e,h,h2⟩
   .exact ⟨B,by simp,e,h,h2⟩)
  refine ⟨w,hw,btw1_mem.2 ⟨Kv A c.pos,Kv B c.pos,?_,Hu,?_⟩⟩
  .rw [w3 w hw,pG];rfl
  .rw [pG,<- hv]
theorem BO:∀ {l cs:List PCell},Iu l->Iu cs->∀ e,e∈Fz l cs↔(e∈cs/\∀ c∈l,c.pos≠e.pos)\/(e∈l/\e.vals≠[])
 | [],cs,_,_,e=>by simp [Fz]
 | c::l,cs,hl,hs,e=>by
  obtain ⟨h1,h2⟩:=Dj.1 hl
  have ih:=BO h2 (hs.sublist (Kh (Ii c.pos cs) cs)) e
  unfold Fz
  rw [Bo,Bo,ih]
  constructor
  .rintro (h | h | ⟨h,h3⟩ | h)
   .have h4:=B08 hs e h
    refine .inl ⟨Kn h,λc' Jd=>?_⟩
    rcases Ak.1 Jd with rfl | Jd
    .exact λx=>by rw [x,fQ] at h4;cases h4
    .have h5:=nZ h4 (h1 c' Jd)
     exact λx=>by rw [x,fQ] at h5;cases h5
   .split at h
    .cases h
    .rename_i hv
     have:e=c:=by simpa using h
     subst this
     exact .inr ⟨by simp,hv⟩
   .have h4:=B09 hs e h
    refine .inl ⟨De h,λc' Jd=>?_⟩
    rcases Ak.1 Jd with rfl | Jd
    .exact λx=>by rw [x,fQ] at h4;cases h4
    .exact h3 c' Jd
   .exact .inr ⟨Bn _ h.1,h.2⟩
  .rintro (⟨h,h3⟩ | ⟨h,h3⟩)
   .by_cases hd:e∈cs.drop (Ii c.pos cs)
    .exact .inr (.inr (.inl ⟨hd,λc' Jd=>h3 c' (Bn _ Jd)⟩))
    .refine .inl ?_
     obtain ⟨t,ht,rfl⟩:=Jb h
     have Fb:t<Ii c.pos cs:=Va λXu=>hd (by
      have:cs[t]=(cs.drop (Ii c.pos cs))[t-Ii c.pos cs]'(by rw [Cv];omega):=by
       rw [Nc];congr 1;omega
      rw [this];exact Bd _)
     have pg:t<Fe c.pos cs:=by
      unfold Ii at Fb
      split at Fb
      .rename_i hi
       refine Va λXu=>?_
       have e1:t=Fe c.pos cs:=by omega
       unfold Tq at hi
       rw [<- e1,Aa ht] at hi
       exact h3 c (by simp) (cmpL_0.1 (Fw hi)).symm
      .exact Fb
     have:cs[t]=(cs.take (Fe c.pos cs))[t]'(by rw [Ca];omega):=by rw [Ew]
     rw [this];exact Bd _
   .rcases Ak.1 h with rfl | h
    .exact .inr (.inl (by rw [Ae h3];simp))
    .exact .inr (.inr (.inr ⟨h,h3⟩))
end Go.DD

/- Contracts: the program's equality of arrays. Conditions: those that each theorem states. -/
namespace Go.DD
open Go Go.Proofs
section
variable (k n0:Nat) (hp:Tr DObj) (nx:Nat) (K:DV->Tr DObj->Nat->Prop)
theorem B92(p v q w:DV)(c e:PCell)(hn:n0<=nx)(h1:RL rInt hp (Bl n0) p c.pos)(h2:RL rVal hp (Bl n0) v c.vals)(h3:RL rInt hp (Bl n0) q e.pos)(h4:RL rVal hp (Bl n0) w e.vals)(hl:c.pos.length<900000/\c.vals.length<900000)
  (hK:∀ Ap Ba,Al hp nx Ap Ba->K (bv (decide (c=e))) Ap Ba):KW (kN (k+2)) (.fn 79) [.agg [p,v],.agg [q,w]] hp nx K:=by
 refine Ds (Gb (by decide)) t79 (Ab rfl) λes e1 e2 he=>?_
 have a0:Ac es (.t .o)=.agg [p,v]:=he 0 _ rfl
 have a1:Ac es (.t (.l .o))=.agg [q,w]:=he 1 _ rfl
 unfold r79
 subst e1 e2
 simp only [↓An]
 refine Tm (cs:=[p,v]) (by rw [Di,a0];exact Kl h1 h2) λDv Dc Cr=>?_
 simp only [bR] at Dc Cr
 have Em:Al es.hp es.nx Dv (es.nx+1):=⟨by omega,λj hj=>Cr j (by omega)⟩
 simp only [Am,↓An]
 refine Tm (cs:=[q,w]) (by simp only [Di,bR,a1];exact Kl (h3.ka hn Em) (h4.ka hn Em)) λDb Gv Fj=>?_
 simp only [bR] at Gv Fj
 have Cq:Al es.hp es.nx Db (es.nx+2):=⟨by omega,λj hj=>by rw [Fj j (by omega),Cr j (by omega)]⟩
 have Qk:=(Fj es.nx (by omega)).trans Dc
 obtain ⟨⟨f0,f1⟩,l0,l1,lA⟩:=Wf Qk
 obtain ⟨⟨g0,g1⟩,m0,m1,lB⟩:=Wf Gv
 simp only [Am,↓An,f0,l0,g0,m0]
 refine Dt (Cx0 (k:=k) n0 _ _ _ p q _ _ (by omega) (h1.ka hn Cq) (h3.ka hn Cq) hl.1 λIh Jr=>?_)
 by_cases c1:c.pos=e.pos
 .simp only [Am,↓An,Ai c1,f1,l1,g1,m1]
  refine Dt (RQ (k:=k) n0 _ _ _ v w _ _ (by omega) (h2.ka hn Cq) (h4.ka hn Cq) hl.2 λnC Xd=>?_)
  have hh:=hK _ _ (Cq.nx (show es.nx+2<=nC by omega))
  have:(decide (c=e))=decide (c.vals=e.vals):=by
   obtain ⟨cp,cv⟩:=c
   obtain ⟨ep,ev⟩:=e
   simp only at c1
   simp [c1]
  rw [this] at hh
  cases c2:decide (c.vals=e.vals) <;> rw [c2] at hh <;> simp only [Am,↓An,bP] <;> exact hh
 .simp only [Am,↓An,bP,Ad c1]
  have hh:=hK _ _ (Cq.nx (show es.nx+2<=Ih by omega))
  rw [Ad (λh=>c1 (by rw [h]))] at hh
  exact hh
theorem Cq5(d1 d2:DV)(l m:List PCell)(hn:n0<=nx)(h1:RL rCell hp (Bl n0) d1 l)(h2:RL rCell hp (Bl n0) d2 m)(hl:l.length<900000)(Yf:∀ c∈l,c.pos.length<900000/\c.vals.length<900000)
  (hK:∀ Ap Ba,Al hp nx Ap Ba->K (bv (decide (l=m))) Ap Ba):KW (kN (k+3)) (.fn 78) [d1,d2,.fn (.func 79) [.tup []]] hp nx K:=by
 refine Ds (Gb (by decide)) t78 (Ab rfl) λes e1 e2 he=>?_
 have a0:Ac es (.t .o)=d1:=he 0 _ rfl
 have a1:Ac es (.t (.l .o))=d2:=he 1 _ rfl
 have a2:Ac es (.t (.r .o))=.fn (.func 79) [.tup []]:=he 2 _ rfl
 unfold r78
 subst e1 e2
 by_cases hlen:l.length=m.length
 .simp only [Am,↓An,a0,a1,h1.len,h2.len,hlen]
  refine EW.up l.length (λi es1=>Al es.hp es.nx es1.hp es1.nx/\Ac es1 (.t .o)=d1/\Ac es1 (.t (.l .o))=d2/\Ac es1 (.t (.r .o))=.fn (.func 79) [.tup []]/\Ac es1 (.t (.l (.l (.l (.l .o)))))=d1/\Ac es1 (.t (.r (.l (.l (.l .o)))))=iv l.length/\Ac es1 (.t (.l (.r (.l (.l .o)))))=iv (i:Nat)/\(l=m↔l.drop i=m.drop i)) ?_ ?_ (by omega)
  .rintro i es1 hi ⟨g,b0,b1,b2,b15,b16,We,hc⟩
   unfold yZ
   have hle:=g.le
   have w1:=h1.ka hn g
   have w2:=h2.ka hn g
   by_cases h:i<l.length
   .have h':i<m.length:=by omega
    obtain ⟨pA,vA,Gd,Gi,lA,_⟩:=Ed w1 h
    obtain ⟨pB,vB,Fu,Ft,lB,_⟩:=Ed w2 h'
    rw [SF h h'] at hc
    simp only [Am,↓An,b15,b16,We,h,Yo w1 h,lA]
    refine Oe λGa aO Nk=>?_
    simp only [bR] at aO Nk
    have k6:∀ j,Bl n0 j->Ga.get j=es1.hp.get j:=λj hj=>Nk j (by have:j<n0:=hj;omega)
    simp only [Am,↓An]
    refine Oi (n:=2) (id:=es1.nx) (ds:=[pA,vA]) (by simp only [bR]) aO (by simp only [Di,bR];exact Kl (Gd.keep k6) (Gi.keep k6)) rfl rfl λIj Mt If=>?_
    simp only [bR] at Mt If
    have k7:∀ j,Bl n0 j->Ij.get j=es1.hp.get j:=λj hj=>(If j (by have:j<n0:=hj;omega)).trans (k6 j hj)
    have w27:=w2.keep k7
    obtain ⟨pB',vB',Dr,Dq,lB',_⟩:=Ed w27 h'
    simp only [Am,↓An,b1,Yo w27 h',lB']
    refine Oe λLq Xv Vr=>?_
    simp only [bR] at Xv Vr
    have k8:∀ j,Bl n0 j->Lq.get j=Ij.get j:=λj hj=>Vr j (by have:j<n0:=hj;omega)
    simp only [Am,↓An]
    refine Oi (n:=2) (id:=es1.nx+1) (ds:=[pB',vB']) (by simp only [bR]) Xv (by simp only [Di,bR];exact Kl (Dr.keep k8) (Dq.keep k8)) rfl rfl λJg Pn Mm=>?_
    simp only [bR] at Pn Mm
    have k9:∀ j,j<es1.nx->Jg.get j=es1.hp.get j:=λj hj=>by rw [Mm j (by omega),Vr j (by omega),If j (by omega),Nk j (by omega)]
    have UI:∀ j,Bl n0 j->Jg.get j=Ij.get j:=λj hj=>(Mm j (by have:j<n0:=hj;omega)).trans (k8 j hj)
    have gA:Jg.get es1.nx=_:=(Mm es1.nx (by omega)).trans ((Vr es1.nx (by omega)).trans Mt)
    obtain ⟨_,_,_,lT⟩:=Wf gA
    obtain ⟨_,_,_,lU⟩:=Wf Pn
    have g9:Al es.hp es.nx Jg (es1.nx+1+1):=⟨by omega,λj hj=>by rw [k9 j (by omega),g.same j hj]⟩
    simp only [Am,↓An,b2,lT,lU]
    refine bI (fs:=[]) (cs:=[]) (by rw [Di];simp only [bR];exact RV _ _) ?_
    simp only [bR,Ao,Aq,Bu,Bh]
    refine B92 k n0 _ _ _ pA vA pB' vB' l[i] m[i] (by omega) (Gd.keep λj hj=>(UI j hj).trans (k7 j hj)) (Gi.keep λj hj=>(UI j hj).trans (k7 j hj)) (Dr.keep UI) (Dq.keep UI) (Yf _ (Bd h)) λJx IV Xi=>?_
    have C0:=Xi.le
    by_cases c1:l[i]=m[i]
    .simp only [Am,↓An,b0,b1,b2,b15,b16,We,h,Ai c1,Hn (show i<_ by omega)]
     exact ⟨g9.trans Xi,by rw [hc];simp [c1]⟩
    .simp only [Am,↓An,bP,Ad c1]
     have hh:=hK _ _ (g9.trans Xi)
     rw [Ad (λe=>c1 (hc.1 e).1)] at hh
     exact hh
   .have:l=m:=hc.2 (by rw [Av (by omega),Av (by omega)])
    simp only [Am,↓An,bP,b16,We,h]
    have hh:=hK _ _ g
    rw [Ai this] at hh
    exact hh
  .simp only [Am,a0,a1,a2,hlen]
 .simp only [Am,↓An,bP,a0,a1,h1.len,h2.len,hlen]
  have:¬ l=m:=λe=>hlen (by rw [e])
  have hh:=hK _ _ (Al.ini _ (Af _))
  rw [Ad this] at hh
  exact hh
end
end Go.DD

/- Contracts: the reference's Merged. Conditions: those that each theorem states. -/
namespace Go.DD
open Go Go.Proofs
section
variable (k n0:Nat) (hp:Tr DObj) (nx:Nat) (K:DV->Tr DObj->Nat->Prop)
end
end Go.DD

/- Contracts: the program's Same; equal arrays or nothing. Conditions: those that each theorem states. -/
namespace Go.DD
open Go Go.Proofs
def Yr(x y:PArr):Bool:=decide (Ff x=0/\Ff y=0/\x=y)
section
variable (k n0:Nat) (hp:Tr DObj) (nx:Nat) (K:DV->Tr DObj->Nat->Prop)
theorem A02(d1 d2:DV)(x y:PArr)(hn:n0<=nx)(h1:AR hp (Bl n0) d1 x)(h2:AR hp (Bl n0) d2 y)(hx:AOK x)(hy:AOK y)
  (hK:∀ Ap Ba,Al hp nx Ap Ba->K (bv (Yr x y)) Ap Ba):KW (kN (k+8)) (.fn 25) [d1,d2] hp nx K:=by
 obtain ⟨d,a,c,rfl,r1,r2,r3⟩:=h1
 obtain ⟨d',a',c',rfl,s1,s2,s3⟩:=h2
 refine Ds (Gb (by decide)) t25 (Ab rfl) λes e1 e2 he=>?_
 have a0:Ac es (.t .o)=.agg [d,a,c]:=he 0 _ rfl
 have a1:Ac es (.t (.l .o))=.agg [d',a',c']:=he 1 _ rfl
 unfold r25
 subst e1 e2
 simp only [↓An]
 refine Tm (cs:=[d,a,c]) (by rw [Di,a0];exact AR.live r1 r2 r3) λDv Dc Cr=>?_
 simp only [bR] at Dc Cr
 have Em:Al es.hp es.nx Dv (es.nx+1):=⟨by omega,λj hj=>Cr j (by omega)⟩
 simp only [Am,↓An]
 refine Tm (cs:=[d',a',c']) (by simp only [Di,bR,a1];exact AR.live (s1.ka hn Em) (s2.ka hn Em) (s3.ka hn Em)) λDb Gv Fj=>?_
 simp only [bR] at Gv Fj
 have Cq:Al es.hp es.nx Db (es.nx+2):=⟨by omega,λj hj=>by rw [Fj j (by omega),Cr j (by omega)]⟩
 have NY:=(Fj es.nx (by omega)).trans Dc
 have Q5:∀ {Ap Ba},Al es.hp es.nx Ap Ba->AR Ap (Bl n0) (.agg [d,a,c]) x:=λh=>⟨d,a,c,rfl,r1.ka hn h,r2.ka hn h,r3.ka hn h⟩
 have UU:∀ {Ap Ba},Al es.hp es.nx Ap Ba->AR Ap (Bl n0) (.agg [d',a',c']) y:=λh=>⟨d',a',c',rfl,s1.ka hn h,s2.ka hn h,s3.ka hn h⟩
 obtain ⟨_,_,_,_,lA⟩:=Mh NY
 have no:∀ {Ap Ba},¬ (Ff x=0/\Ff y=0/\x=y)->Al es.hp es.nx Ap Ba->K (.v (.bool false)) Ap Ba:=λh ha=>by
  have hh:=hK _ _ ha
  unfold Yr at hh
  rw [Ad h] at hh
  exact hh
 simp only [Am,↓An,lA]
 refine Dt (Y6 (k:=k) n0 _ _ _ _ x (by omega) (Q5 Cq) hx λHe Dn Ec=>?_)
 have Ik:=Ec.le
 have dF:=Cq.trans Ec
 have gU:=(Ec.same (es.nx+1) (by omega)).trans Gv
 have qL:=(Ec.same es.nx (by omega)).trans NY
 obtain ⟨_,_,_,_,lB3⟩:=Mh gU
 by_cases c1:Ff x=0
 .simp only [Am,↓An,show decide (¬ Ff x=0)=false by simp [c1],lB3]
  refine Dt (Y6 (k:=k) n0 _ _ _ _ y (by omega) (UU dF) hy λHo Lb Lv=>?_)
  have Vq:=Lv.le
  have fF:=dF.trans Lv
  have S4:=(Lv.same (es.nx+1) (by omega)).trans gU
  have gZ:=(Lv.same es.nx (by omega)).trans qL
  obtain ⟨⟨PU,PT,PS⟩,JY,JX,JW,_⟩:=Mh gZ
  obtain ⟨⟨fB0,fB1,fB2⟩,lB0,lB1,lB2,_⟩:=Mh S4
  by_cases c2:Ff y=0
  .simp only [Am,↓An,show decide (¬ Ff y=0)=false by simp [c2],PU,fB0,JY,lB0]
   refine Dt (Cf6 (k:=k+6) n0 _ _ _ d d' _ _ (by omega) (r1.ka hn fF) (s1.ka hn fF) hx.d λFm Fp=>?_)
   by_cases c3:x.dims=y.dims
   .simp only [Am,↓An,Ai c3,PT,fB1,JX,lB1]
    refine Dt (Cf7 (k:=k+6) n0 _ _ _ a a' _ _ (by omega) (r2.ka hn fF) (s2.ka hn fF) hx.a λIh Jr=>?_)
    by_cases c4:x.attrs=y.attrs
    .simp only [Am,↓An,Ai c4,PS,fB2,JW,lB2]
     refine Dt (Cq5 (k:=k+4) n0 _ _ _ c c' x.cells y.cells (by omega) (r3.ka hn fF) (s3.ka hn fF) hx.c (λe he=>⟨(hx.e e he).1,(hx.e e he).2.1⟩) λIj nC Ls=>?_)
     have Xd:=Ls.le
     have AV:Al es.hp es.nx Ij nC:=⟨by omega,λj hj=>(Ls.same j (by omega)).trans (fF.same j hj)⟩
     have hh:=hK _ _ AV
     have e:Yr x y=decide (x.cells=y.cells):=by
      refine decide_eq_decide.2 ⟨λh=>by rw [h.2.2],λh=>⟨c1,c2,?_⟩⟩
      cases x
      cases y
      simp only at c3 c4 h
      rw [c3,c4,h]
     rw [e] at hh
     simp only [Am,↓An,bP]
     exact hh
    .simp only [Am,↓An,bP,Ad c4]
     exact no (λh=>c4 (by rw [h.2.2])) (fF.nx (by omega))
   .simp only [Am,↓An,bP,Ad c3]
    exact no (λh=>c3 (by rw [h.2.2])) (fF.nx (by omega))
  .simp only [Am,↓An,bP,show decide (¬ Ff y=0)=true by simp [c2]]
   exact no (λh=>c2 h.2.1) fF
 .simp only [Am,↓An,bP,show decide (¬ Ff x=0)=true by simp [c1]]
  exact no (λh=>c1 h.1) dF
end
theorem B93{b x y:PArr}(h:Rf b x y=0\/Rf b x y=19):Ff b=0/\Ff x=0/\Ff y=0/\Vx b x=true/\Vx b y=true:=by
 unfold Rf at h
 by_cases h2:(Ff b≠0\/Ff x≠0)\/Ff y≠0
 .rw [Ah h2] at h;rcases h with h | h <;> cases h
 .rw [Ae h2] at h
  by_cases h3:Vx b x=false\/Vx b y=false
  .rw [Ah h3] at h;rcases h with h | h <;> cases h
  .exact ⟨Dy λh4=>h2 (.inl (.inl h4)),Dy λh4=>h2 (.inl (.inr h4)),Dy λh4=>h2 (.inr h4),by cases e:Vx b x with
    | true=>rfl
    | false=>exact absurd (.inl e) h3,by cases e:Vx b y with
    | true=>rfl
    | false=>exact absurd (.inr e) h3⟩
theorem Bm1:∀ {l m:List PCell},Srt l->Srt m->(∀ c,c∈l↔c∈m)->l=m
 | [],[],_,_,_=>rfl
 | [],b::m,_,_,h=>absurd ((h b).2 (by simp)) (by simp)
 | a::l,[],_,_,h=>absurd ((h a).1 (by simp)) (by simp)
 | a::l,b::m,h1,h2,h=>by
  obtain ⟨p1,p2⟩:=Dj.1 h1
  obtain ⟨q1,q2⟩:=Dj.1 h2
  have Vu:a=b:=by
   rcases Ak.1 ((h a).1 (by simp)) with h3 | h3
   .exact h3
   .rcases Ak.1 ((h b).2 (by simp)) with h4 | h4
    .exact h4.symm
    .have:=nZ (q1 a h3) (p1 b h4)
     exact absurd rfl (Yv this)
  subst Vu
  rw [Bm1 p2 q2 λq=>?_]
  constructor
  .intro hq
   rcases Ak.1 ((h q).1 (Bn _ hq)) with h3 | h3
   .exact absurd (Rh PCell.pos h3).symm (Yv (p1 q hq))
   .exact h3
  .intro hq
   rcases Ak.1 ((h q).2 (Bn _ hq)) with h3 | h3
   .exact absurd (Rh PCell.pos h3).symm (Yv (q1 q hq))
   .exact h3
theorem SD{b x y:PArr}(hb:Ff b=0)(hx:Ff x=0)(hy:Ff y=0)(hV:∀ p,Lp [Kv b.cells p,Kv x.cells p,Kv y.cells p]=some (Kv y.cells p)):Ki (Hw b x y)=y.cells/\Rm (Hw b x y)=none:=by
 have hS:∀ h∈[b.cells,x.cells,y.cells],Srt h:=λh hh=>by
  simp only [Ak,Ax,or_false] at hh
  rcases hh with rfl | rfl | rfl
  .exact (Rg hb).1
  .exact (Rg hx).1
  .exact (Rg hy).1
 obtain ⟨w1,w2,w3⟩:=SU (n:=Pl [b.cells,x.cells,y.cells]) hS (Af _)
 have hv:∀ w∈Hw b x y,Lp w.2=some (Kv y.cells w.1):=λw hw=>by rw [w3 w hw];exact hV w.1
 refine ⟨Bm1 (XQ w1) (Rg hy).1 λc=>⟨λhc=>?_,λhc=>?_⟩,Az5 λw hw=>by rw [hv w hw];simp⟩
 .obtain ⟨w,hw,hc⟩:=Gn.1 hc
  unfold Sn at hc
  rw [hv w hw] at hc
  simp only at hc
  split at hc
  .cases hc
  .rename_i h
   obtain rfl:=Bk.1 hc
   obtain ⟨c',h1,h2,h3⟩:=Bl5 h
   obtain ⟨p,v⟩:=c'
   simp only at h2 h3
   rw [<- h3,<- h2];exact h1
 .obtain ⟨w,hw,h2⟩:=(w2 c.pos).2 ⟨y.cells,by simp,c,hc,rfl⟩
  refine Gn.2 ⟨w,hw,?_⟩
  have h3:Kv y.cells c.pos=c.vals:=by
   obtain ⟨i,hi,rfl⟩:=Jb hc
   exact A27 (At4 hy) hi
  unfold Sn
  rw [hv w hw,h2,h3]
  simp only
  rw [Ae (nY hy c hc)]
  exact Bk.2 rfl
theorem Bf0(u w:List PVal):Lp [u,u,w]=some w:=by
 rw [CP]
 by_cases h:u=w
 .rw [Ah (.inl h),h]
 .rw [Ae (λh2=>h2.elim h h),Ah rfl]
theorem B13(u w:List PVal):Lp [u,w,w]=some w:=by rw [CP,Ah (.inl rfl)]
theorem A03(b:PArr):Vx b b=true:=by unfold Vx;simp
theorem Bo9(b y:PArr):Rf b b y=Rf b y y/\(Rf b b y=0->bF b b y=y/\bF b y y=y/\Ff y=0):=by
 have h1:Rf b b y=if Ff b≠0\/Ff y≠0 then 2 else if Vx b y=false then 13 else 0:=by
  unfold Rf
  by_cases h:Ff b≠0\/Ff y≠0
  .rw [Ah h,Ah (by grind)]
  .have hb:Ff b=0:=Dy λh4=>h (.inl h4)
   have hy:Ff y=0:=Dy λh4=>h (.inr h4)
   rw [Ae h,Ae (by grind),(SD (b:=b) (x:=b) (y:=y) hb hb hy λp=>Bf0 _ _).2,Ah rfl]
   simp only [A03]
   simp
 have h2:Rf b y y=if Ff b≠0\/Ff y≠0 then 2 else if Vx b y=false then 13 else 0:=by
  unfold Rf
  by_cases h:Ff b≠0\/Ff y≠0
  .rw [Ah h,Ah (by grind)]
  .have hb:Ff b=0:=Dy λh4=>h (.inl h4)
   have hy:Ff y=0:=Dy λh4=>h (.inr h4)
   rw [Ae h,Ae (by grind),(SD (b:=b) (x:=y) (y:=y) hb hy hy λp=>B13 _ _).2,Ah rfl]
   simp
 refine ⟨h1.trans h2.symm,λh0=>?_⟩
 obtain ⟨hb,_,hy,_,ha⟩:=B93 (.inl h0)
 obtain ⟨e1,e2⟩:=Az6 ha
 have fin:∀ C,C=y.cells->(⟨b.dims,b.attrs,C⟩:PArr)=y:=λC hC=>by rw [e1,e2,hC]
 refine ⟨?_,?_,hy⟩
 .unfold bF
  rw [Ah h0]
  exact fin _ (SD hb hb hy λp=>Bf0 _ _).1
 .unfold bF
  rw [Ah (by rw [<- h1.trans h2.symm];exact h0)]
  exact fin _ (SD hb hy hy λp=>B13 _ _).1
end Go.DD
