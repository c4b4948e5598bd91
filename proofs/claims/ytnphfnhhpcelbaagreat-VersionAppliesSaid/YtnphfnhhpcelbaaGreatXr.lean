/- A part. -/
import Derived.Test.YtnphfnhhpcelbaaGreatXq
import Derived.Test.YtnphfnhhpcelbaaGreatXm
import Derived.Test.YtnphfnhhpcelbaaGreatXj
set_option linter.unusedSectionVars false
set_option linter.unusedVariables false
namespace Go.DD
open Go Go.Proofs Go.Sort
theorem Bu3 (z:Int):∃ y:Nat,y < 18446744073709551616∧IntKind.u64.wrap z=(y:Int):=by
 refine ⟨(z % 18446744073709551616).toNat,by omega,?_⟩
 have h:IntKind.u64.wrap z=z % 18446744073709551616:=by
  simp [IntKind.wrap,IntKind.bits,IntKind.signed]
 rw [h]; omega
theorem sh_l (x c:Nat):∃ y:Nat,y < 18446744073709551616∧binD .shl (.v (.int .u64 (x:Int))) (.v (.int .u64 (c:Int)))=some (.v (.int .u64 (y:Int))):=by
 obtain ⟨y,h1,h2⟩:=Bu3 ((x:Int)*2 ^ (min c 64))
 refine ⟨y,h1,?_⟩
 have e:shI .shl .u64 (x:Int) (c:Int)=some (.int .u64 (y:Int)):=by
  unfold shI
  rw [if_neg (by omega)]
  simp only [Int.toNat_natCast,IntKind.bits]
  rw [h2]
 simp [binD,binV,isSh,e]
theorem sh_r (x c:Nat) (hx:x < 18446744073709551616):∃ y:Nat,y < 18446744073709551616∧binD .shr (.v (.int .u64 (x:Int))) (.v (.int .u64 (c:Int)))=some (.v (.int .u64 (y:Int))):=by
 refine ⟨x / 2 ^ (min c 64),Nat.lt_of_le_of_lt (Nat.div_le_self _ _) hx,?_⟩
 have e:shI .shr .u64 (x:Int) (c:Int)=some (.int .u64 ((x / 2 ^ (min c 64):Nat):Int)):=by
  unfold shI
  rw [if_neg (by omega)]
  simp only [Int.toNat_natCast,IntKind.bits]
  have h:(x:Int).fdiv (2 ^ (min c 64))=((x / 2 ^ (min c 64):Nat):Int):=by
   rw [Int.fdiv_eq_ediv_of_nonneg _ (Int.le_of_lt (Int.pow_pos (by decide)))]
   push_cast; rfl
  rw [h]
 simp [binD,binV,isSh,e]
theorem xr_64 (x y:Nat):∃ z:Nat,z < 18446744073709551616∧binD .xor (.v (.int .u64 (x:Int))) (.v (.int .u64 (y:Int)))=some (.v (.int .u64 (z:Int))):=by
 obtain ⟨z,h1,h2⟩:=Bu3 (((BitVec.ofInt 64 (x:Int) ^^^ BitVec.ofInt 64 (y:Int)).toNat:Nat):Int)
 refine ⟨z,h1,?_⟩
 show some (DV.v (.int .u64 (IntKind.u64.wrap (((BitVec.ofInt 64 (x:Int) ^^^ BitVec.ofInt 64 (y:Int)).toNat:Nat):Int))))=_
 rw [h2]
theorem an_64 (x m:Nat) (hm:m < 18446744073709551616):∃ z:Nat,z≤m∧binD .and (.v (.int .u64 (x:Int))) (.v (.int .u64 (m:Int)))=some (.v (.int .u64 (z:Int))):=by
 have h:(BitVec.ofInt 64 (x:Int) &&& BitVec.ofInt 64 (m:Int)).toNat≤m:=by
  rw [BitVec.toNat_and,BitVec.ofInt_natCast,BitVec.ofInt_natCast,BitVec.toNat_ofNat,BitVec.toNat_ofNat,Nat.mod_eq_of_lt hm]
  exact Nat.and_le_right
 refine ⟨_,h,?_⟩
 show some (DV.v (.int .u64 (IntKind.u64.wrap (((BitVec.ofInt 64 (x:Int) &&& BitVec.ofInt 64 (m:Int)).toNat:Nat):Int))))=_
 rw [IntWalk.u64_in _ (by omega)]
set_option maxRecDepth 100000
def tab8:List UInt8:=[0,1,2,2,3,3,3,3,4,4,4,4,4,4,4,4,5,5,5,5,5,5,5,5,5,5,5,5,5,5,5,5,6,6,6,6,6,6,6,6,6,6,6,6,6,6,6,6,6,6,6,6,6,6,6,6,6,6,6,6,6,6,6,6,7,7,7,7,7,7,7,7,7,7,7,7,7,7,7,7,7,7,7,7,7,7,7,7,7,7,7,7,7,7,7,7,7,7,7,7,7,7,7,7,7,7,7,7,7,7,7,7,7,7,7,7,7,7,7,7,7,7,7,7,7,7,7,7,8,8,8,8,8,8,8,8,8,8,8,8,8,8,8,8,8,8,8,8,8,8,8,8,8,8,8,8,8,8,8,8,8,8,8,8,8,8,8,8,8,8,8,8,8,8,8,8,8,8,8,8,8,8,8,8,8,8,8,8,8,8,8,8,8,8,8,8,8,8,8,8,8,8,8,8,8,8,8,8,8,8,8,8,8,8,8,8,8,8,8,8,8,8,8,8,8,8,8,8,8,8,8,8,8,8,8,8,8,8,8,8,8,8,8,8,8,8,8,8,8,8,8,8,8,8,8,8]
theorem Ch6:∀ x,(h:x < 256)→(tab8[x]'(by simpa [tab8] using h)).toNat=bitsLen x:=by decide +kernel
theorem sw_kix {dst:Option Pa} {v:Value} {y:Operand} {call:CallT} {es:ES} {Q:ES→Prop} : SW (sU dst (xAny (.ixs (.const v) y))) call es Q↔XW (ixsD (ofV v) (es.ds.ev y)) fun d=>Q (es.putE dst d):=sw_k (k_ixs (.const v) y)
theorem Ch7 {x:Nat} {d:DV} (hx:x < 256) (hd:d=ub x) {K:DV→Prop} (h:K (ub (bitsLen x))):XW (ixsD (ofV (.string (bs [0,1,2,2,3,3,3,3,4,4,4,4,4,4,4,4,5,5,5,5,5,5,5,5,5,5,5,5,5,5,5,5,6,6,6,6,6,6,6,6,6,6,6,6,6,6,6,6,6,6,6,6,6,6,6,6,6,6,6,6,6,6,6,6,7,7,7,7,7,7,7,7,7,7,7,7,7,7,7,7,7,7,7,7,7,7,7,7,7,7,7,7,7,7,7,7,7,7,7,7,7,7,7,7,7,7,7,7,7,7,7,7,7,7,7,7,7,7,7,7,7,7,7,7,7,7,7,7,8,8,8,8,8,8,8,8,8,8,8,8,8,8,8,8,8,8,8,8,8,8,8,8,8,8,8,8,8,8,8,8,8,8,8,8,8,8,8,8,8,8,8,8,8,8,8,8,8,8,8,8,8,8,8,8,8,8,8,8,8,8,8,8,8,8,8,8,8,8,8,8,8,8,8,8,8,8,8,8,8,8,8,8,8,8,8,8,8,8,8,8,8,8,8,8,8,8,8,8,8,8,8,8,8,8,8,8,8,8,8,8,8,8,8,8,8,8,8,8,8,8,8,8,8,8,8,8]))) d) K:=by
 subst hd
 have hl:x < (bs tab8).data.toList.length:=by rw [show (bs tab8).data.toList.length=256 from rfl]; exact hx
 have e:=Be5 (s:=bs tab8) (k:=.u8) hl
 have e2:((bs tab8).data.toList[x]'hl).toNat=bitsLen x:=Ch6 x hx
 rw [e2] at e
 show XW (ixsD (.v (.string (bs tab8))) (.v (.int .u8 (x:Int)))) K
 rw [e]
 exact ⟨_,rfl,h⟩
theorem Ax9 {x:Nat} (h:x < 256):bitsLen x < 9:=by
 have:=(bitsLen_le_iff x 8).2 h
 omega
section
variable (k n0:Nat) (hp:Tr DObj) (nx:Nat) (K:DV→Tr DObj→Nat→Prop)
theorem B18 (x:Nat) (hx:x < 256) (hK:K (iv (bitsLen x:Nat)) hp nx):KW (kN (k+1)) (.fn 201) [.v (.int .u64 (x:Int))] hp nx K:=by
 refine kn_1 (Aa2 (by decide)) t201 (Nat.le_of_ble_eq_true rfl) fun es e1 e2 he=>?_
 have a0:rawE es (.t .o)=.v (.int .u64 (x:Int)):=he 0 _ rfl
 unfold r201
 subst e1 e2
 have h9:=Ax9 hx
 simp only [bSa,↓bSb,bP,a0,show ¬ (4294967296:Int)≤(x:Int) by omega,show ¬ (65536:Int)≤(x:Int) by omega,show ¬ (256:Int)≤(x:Int) by omega,Co0 hx]
 refine sw_kix.2 (Ch7 hx (by simp only [ub,n_ev,bP,bR]; rfl) ?_)
 simp only [ub]
 simp only [bSa,A84 (k:=.u8) (show bitsLen x < _ by omega)]
 have e:binD .add (.v (.int .i64 0)) (.v (.int .i64 ((bitsLen x:Nat):Int)))=some (.v (.int .i64 ((bitsLen x:Nat):Int))):=by
  rw [show (DV.v (.int .i64 0))=.v (.int .i64 ((0:Nat):Int)) from rfl,Ae0 (by omega),Nat.zero_add]
 simp only [bSa,e]
 exact hK
theorem Bu4 (x:Nat) (hx:x < 256) (hK:K (iv (bitsLen x:Nat)) hp nx):KW (kN (k+2)) (.fn 176) [.v (.int .u64 (x:Int))] hp nx K:=by
 refine kn_1 (Aa2 (by decide)) t176 (Nat.le_of_ble_eq_true rfl) fun es e1 e2 he=>?_
 have a0:rawE es (.t .o)=.v (.int .u64 (x:Int)):=he 0 _ rfl
 unfold r176
 subst e1 e2
 simp only [bSa,↓bSb,a0]
 refine kws (B18 k _ _ _ x hx ?_)
 simp only [bSa,↓bSb,bP]
 exact hK
theorem Ch8 (x:Nat) (hx:x < 256) (hK:K (.v (.int .u64 ((2 ^ bitsLen x:Nat):Int))) hp nx):KW (kN (k+3)) (.fn 218) [iv x] hp nx K:=by
 refine kn_1 (Aa2 (by decide)) t218 (Nat.le_of_ble_eq_true rfl) fun es e1 e2 he=>?_
 have a0:rawE es (.t .o)=iv x:=he 0 _ rfl
 unfold r218
 subst e1 e2
 simp only [bSa,↓bSb,bP,a0,A26 (k:=.i64) (show x < _ by omega)]
 refine kws (Bu4 k _ _ _ x hx ?_)
 have h9:=Ax9 hx
 have e:binD .shl (.v (.int .u64 1)) (.v (.int .i64 ((bitsLen x:Nat):Int)))=some (.v (.int .u64 ((2 ^ bitsLen x:Nat):Int))):=by
  generalize bitsLen x=y at h9 ⊢
  have:y=0∨y=1∨y=2∨y=3∨y=4∨y=5∨y=6∨y=7∨y=8:=by omega
  rcases this with h | h | h | h | h | h | h | h | h <;> subst h <;> rfl
 simp only [bSa,↓bSb,bP,e]
 exact hK
def Rnd (hp:Tr DObj) (c:Nat) (s:Nat):Prop:=hp.get c=some (.row 267 [.v (.int .u64 (s:Int))])
theorem Ch9 (c s:Nat) (hc:c < nx) (_:s < 18446744073709551616) (hg:Rnd hp c s) (hK:∀ hp' nx' s',s' < 18446744073709551616→Fr hp nx c hp' nx'→Rnd hp' c s'→K (.v (.int .u64 (s':Int))) hp' nx'):KW (kN (k+1)) (.fn 219) [.pt c 0] hp nx K:=by
 refine kn_1 (Aa2 (by decide)) t219 (Nat.le_of_ble_eq_true rfl) fun es e1 e2 he=>?_
 have a0:rawE es (.t .o)=.pt c 0:=he 0 _ rfl
 unfold r219
 subst e1 e2
 obtain ⟨y1,_,ey1⟩:=sh_l s 13
 obtain ⟨z1,hz1,ez1⟩:=xr_64 s y1
 obtain ⟨y2,_,ey2⟩:=sh_r z1 7 hz1
 obtain ⟨z2,hz2,ez2⟩:=xr_64 z1 y2
 obtain ⟨y3,_,ey3⟩:=sh_l z2 17
 obtain ⟨z3,hz3,ez3⟩:=xr_64 z2 y3
 have ey1':binD .shl (.v (.int .u64 (s:Int))) (.v (.int .u64 13))=some (.v (.int .u64 (y1:Int))):=ey1
 have ey2':binD .shr (.v (.int .u64 (z1:Int))) (.v (.int .u64 7))=some (.v (.int .u64 (y2:Int))):=ey2
 have ey3':binD .shl (.v (.int .u64 (z2:Int))) (.v (.int .u64 17))=some (.v (.int .u64 (y3:Int))):=ey3
 unfold Rnd at hg
 simp only [bSa,↓bSb,bP,a0,↓Bu1,Aq9 hg,A69,Ah9 hg,Aa1 (n0:=es.nx) (m:=10) hg hc,ey1',ez1]
 refine Aa0 rfl (Am8 (id:=c) (off:=0) (by simp only [bR]) hg (by simp only [evt,bR,reduceCtorEq]; rfl) ⟨rfl,rfl⟩ (by simp) fun hp1 hg1 hk1=>?_)
 simp only [bR] at hg1 hk1
 simp only [bSa,↓bSb,bP,a0,↓Bu1,Aq9 hg1,A69,Ah9 hg1,Aa1 (n0:=es.nx+10) (m:=10) hg1 (show c < _ by omega),ey2',ez2]
 refine Aa0 rfl (Am8 (id:=c) (off:=0) (by simp only [bR]) hg1 (by simp only [evt,bR,reduceCtorEq]; rfl) ⟨rfl,rfl⟩ (by simp) fun hp2 hg2 hk2=>?_)
 simp only [bR] at hg2 hk2
 simp only [bSa,↓bSb,bP,a0,↓Bu1,Aq9 hg2,A69,Ah9 hg2,Aa1 (n0:=es.nx+10+10) (m:=10) hg2 (show c < _ by omega),ey3',ez3]
 refine Aa0 rfl (Am8 (id:=c) (off:=0) (by simp only [bR]) hg2 (by simp only [evt,bR,reduceCtorEq]; rfl) ⟨rfl,rfl⟩ (by simp) fun hp3 hg3 hk3=>?_)
 simp only [bR] at hg3 hk3
 simp only [bSa,↓bSb,bP,a0,Aq9 hg3,↓Cb4,A69,Ah9 hg3]
 exact hK _ _ z3 hz3 ⟨by omega,fun j hj hjc=>by rw [hk3 j hjc,hk2 j hjc,hk1 j hjc]⟩ hg3
theorem Bu5 {a:Nat} (h:a < 4000000000000000000):binD .mul (.v (.int .i64 (a:Int))) (.v (.int .i64 2))=some (.v (.int .i64 ((a*2:Nat):Int))):=by
 rw [b_mul,wrap_in (by omega)]; congr 3
theorem Ci0 {M:Nat} (h:0 < M) (hM:M < 18446744073709551616):binD .sub (.v (.int .u64 (M:Int))) (.v (.int .u64 1))=some (.v (.int .u64 ((M - 1:Nat):Int))):=by
 show some (DV.v (.int .u64 (IntKind.u64.wrap ((M:Int) - 1))))=_
 rw [IntWalk.u64_in _ (by omega)]
 congr 3; omega
theorem B19 (id n a b:Nat) (d:Array PCell) (hn:n0≤nx) (hs:SR hp n0 id n d) (hab:a+8≤b) (hb:b≤d.size) (hz:d.size < 256)
  (hK:∀ hp' nx' d',Fr hp nx id hp' nx'→SR hp' n0 id n d'→PermIn a b d d'→K (.tup []) hp' nx'):KW (kN (k+4)) (.fn 205) [.ms id 0 n 2,iv a,iv b,cmpC] hp nx K:=by
 refine kn_0 (Aa2 (by decide)) t205 (Nat.le_of_ble_eq_true rfl) fun es e1 e2 he=>?_
 have a0:rawE es (.t .o)=.ms id 0 n 2:=he 0 _ rfl
 have a1:rawE es (.t (.l .o))=iv a:=he 1 _ rfl
 have a2:rawE es (.t (.r .o))=iv b:=he 2 _ rfl
 have a3:rawE es (.t (.l (.l .o)))=cmpC:=he 3 _ rfl
 unfold r205
 subst e1 e2
 have hsub:binD .sub (.v (.int .i64 (b:Int))) (.v (.int .i64 (a:Int)))=some (.v (.int .i64 ((b - a:Nat):Int))):=Al6 (by omega) (by omega)
 simp only [bSa,↓bSb,bP,a1,a2,hsub,show (8:Int)≤((b - a:Nat):Int) by omega,A26 (k:=.i64) (show b - a < _ by omega)]
 refine Ac5 fun hp1 hg1 hk1=>?_
 simp only [bR] at hg1 hk1
 simp only [bSa,↓bSb]
 refine Am8 (id:=es.nx) (off:=0) (by simp only [bR]) hg1 (by simp only [evt,bR,reduceCtorEq]; rfl) ⟨rfl,rfl⟩ (by simp) fun hp2 hg2 hk2=>?_
 simp only [bR] at hg2 hk2
 simp only [bSa,↓bSb]
 refine kws (Ch8 k _ _ _ (b - a) (by omega) ?_)
 simp only [bSa,↓bSb,a1,Bg3 (show b - a < _ by omega),Bu5 (show (b - a) / 4 < _ by omega),Ae0 (show a+(b - a) / 4*2 < _ by omega),Ag4 (a+(b - a) / 4*2) (by omega) (by omega)]
 have hM:=two_pow_bitsLen_le (n:=b - a) (by omega)
 have hM0:0 < 2 ^ bitsLen (b - a):=Nat.two_pow_pos _
 have hidn:=hs.h
 refine EW.l (I:=fun m es1=>∃ i' d1 s,m=a+(b - a) / 4*2+2 - i'∧a+(b - a) / 4*2≤i'+1∧i'≤a+(b - a) / 4*2+2∧s < 18446744073709551616∧Rnd es1.hp es.nx s∧Fr es.hp es.nx id es1.hp es1.nx∧es.nx < es1.nx∧SR es1.hp n0 id n d1∧PermIn a b d d1∧rawE es1 (.t .o)=.ms id 0 n 2∧rawE es1 (.t (.l .o))=iv a∧rawE es1 (.t (.r (.l (.l .o))))=iv ((b - a:Nat))∧rawE es1 (.t (.l (.r (.l .o))))=.pt es.nx 0∧rawE es1 (.t (.r (.r (.l .o))))=.v (.int .u64 ((2 ^ bitsLen (b - a):Nat):Int))∧rawE es1 (.t (.l (.l (.r .o))))=iv (i':Nat)) ?_ 3 1000000 _ ?_ (by omega)
 ·rintro m es1 ⟨i',d1,s,hm,hi1,hi2,hs64,hR,g,hnx,hs1,hP,b0,b1,b8,b9,b10,b11⟩
  unfold Ca9
  have hd1:d1.size=d.size:=hP.1
  have hle:=g.le
  by_cases hi:i'≤a+(b - a) / 4*2+1
  ·simp only [bSa,↓bSb,b1,b8,b9,b11,Bg3 (show b - a < _ by omega),Bu5 (show (b - a) / 4 < _ by omega),Ae0 (show a+(b - a) / 4*2 < _ by omega),Aa3 (show a+(b - a) / 4*2 < _ by omega),hi]
   refine kws (Ch9 (k+2) _ _ _ es.nx s hnx hs64 hR fun hp2 nx2 s2 hs2 gN hR2=>?_)
   have hle2:=gN.le
   have hs2':SR hp2 n0 id n d1:=hs1.keepC hn (by omega) gN
   have g2:Fr es.hp es.nx id hp2 nx2:=⟨by omega,fun j hj hji=>by rw [gN.fr j (by omega) (by omega),g.fr j hj hji]⟩
   obtain ⟨o,ho,eo⟩:=an_64 s2 (2 ^ bitsLen (b - a) - 1) (by omega)
   have em:binD .sub (.v (.int .u64 ((2 ^ bitsLen (b - a):Nat):Int))) (.v (.int .u64 1))=some (.v (.int .u64 ((2 ^ bitsLen (b - a) - 1:Nat):Int))):=Ci0 hM0 (by omega)
   by_cases hc:b - a≤o
   ·have eS:binD .sub (.v (.int .i64 (o:Int))) (.v (.int .i64 ((b - a:Nat):Int)))=some (.v (.int .i64 ((o - (b - a):Nat):Int))):=Al6 hc (by omega)
    obtain ⟨pA,vA,rpA,rvA,lA⟩:=hs2'.at (show i' < d1.size by omega)
    obtain ⟨pB,vB,rpB,rvB,lB⟩:=hs2'.at (show (a+(o - (b - a))) < d1.size by omega)
    have rpA':=rpA.mono (bl_of (id:=id))
    have rvA':=rvA.mono (bl_of (id:=id))
    have rpB':=rpB.mono (bl_of (id:=id))
    have rvB':=rvB.mono (bl_of (id:=id))
    simp only [bSa,↓bSb,bP,b0,b1,b8,b10,b11,eo,em,A84 (k:=.u64) (show o < _ by omega),hc,eS,Ae0 (show a+(o - (b - a)) < _ by omega),hs2'.ia (show i' < d1.size by omega),hs2'.ia (show (a+(o - (b - a))) < d1.size by omega),lA,lB,hs2'.rox (m:=20) (show n0≤nx2 by omega),Aa9]
    refine ⟨ro_pr (rpB'.rox (by omega)) (rvB'.rox (by omega)),?_⟩
    refine Aa0 rfl (Ac4 (R:=rChange) (i:=i') (n:=n) (id:=id) (v:=[pB,vB]) (y:=d1[(a+(o - (b - a)))]!) (p:=fun j=>j < n0∧j≠id) (by simp only [bR]; rfl) hs2'.o (by simp only [evt,bR,reduceCtorEq]; exact Aa5 rpB rvB) (rChange_rd.2 ⟨pB,vB,rfl,rpB,rvB⟩) (by simp; omega) (fun h=>h.2 rfl) fun hp5b ho5b hk5b=>?_)
    simp only [bR] at hk5b
    obtain ⟨_,_,fl5b,hg5b,_⟩:=ho5b.get
    have hidn5:=hs2'.h
    have rpA5b:=rpA.keep (hp':=hp5b) fun j hj=>hk5b j hj.2
    have rvA5b:=rvA.keep (hp':=hp5b) fun j hj=>hk5b j hj.2
    have i5b:iaD hp5b 2 (.ms id 0 n 2) (.v (.int .i64 (((a+(o - (b - a))):Nat):Int)))=some (adrE 2 (.ms id 0 n 2) ((a+(o - (b - a))))):=Ad6 ho5b.rl (by simp; omega)
    simp only [bSa,↓bSb,i5b,Aa9,Aa1 (n0:=nx2) (m:=20) hg5b (show id < nx2 by omega)]
    refine ⟨ro_pr ((rpA5b.mono (bl_of (id:=id))).rox (by omega)) ((rvA5b.mono (bl_of (id:=id))).rox (by omega)),?_⟩
    refine Aa0 rfl (Ac4 (R:=rChange) (i:=(a+(o - (b - a)))) (n:=n) (id:=id) (v:=[pA,vA]) (y:=d1[i']!) (p:=fun j=>j < n0∧j≠id) (by simp only [bR]; rfl) ho5b (by simp only [evt,bR,reduceCtorEq]; exact Aa5 rpA5b rvA5b) (rChange_rd.2 ⟨pA,vA,rfl,rpA5b,rvA5b⟩) (by simp; omega) (fun h=>h.2 rfl) fun hp5 ho5 hk5=>?_)
    simp only [bR] at hk5
    have hs5:=hs2'.swp (show i' < d1.size by omega) (show (a+(o - (b - a))) < d1.size by omega) ho5
    have g5:Fr es.hp es.nx id hp5 (nx2+20):=g2.up (by omega) fun q hq hqi=>by rw [hk5 q hqi,hk5b q hqi]
    obtain ⟨flx5,hgx5⟩:=hs2'.get
    obtain ⟨fly5,hgy5⟩:=hs5.get
    have hlk5:∀ {a1 a2:List Nat} {q1 q2:Nat} (p:Past),p∈[(⟨q1,a1,hp5b,hp5⟩:Past),⟨q2,a2,hp2,hp5b⟩]→(p.a.get id).isSome=true∧(p.b.get id).isSome=true:=fun p hp=>by
     simp only [List.mem_cons,List.not_mem_nil,or_false] at hp
     rcases hp with rfl | rfl
     ·exact ⟨by rw [hg5b]; rfl,by rw [hgy5]; rfl⟩
     ·exact ⟨by rw [hgx5]; rfl,by rw [hg5b]; rfl⟩
    simp only [bSa,↓bSb,b0,b1,b8,b9,b10,b11,Aa3 (show i' < _ by omega)]
    exact ⟨Ad3 (Ai0 id n) (by omega) (fun p hp=>hlk5 p hp) rfl,a+(b - a) / 4*2+2 - (i'+1),by omega,i'+1,_,s2,rfl,by omega,by omega,hs2,(hk5 _ (by omega)).trans ((hk5b _ (by omega)).trans hR2),g5,by omega,hs5,permIn_trans _ _ _ a b hP (swp_permIn d1 a b i' (a+(o - (b - a))) (by omega) (by omega) (by omega) (by omega) (by omega)),rfl⟩
   ·have hc':¬ b - a≤o:=hc
    obtain ⟨pA,vA,rpA,rvA,lA⟩:=hs2'.at (show i' < d1.size by omega)
    obtain ⟨pB,vB,rpB,rvB,lB⟩:=hs2'.at (show (a+o) < d1.size by omega)
    have rpA':=rpA.mono (bl_of (id:=id))
    have rvA':=rvA.mono (bl_of (id:=id))
    have rpB':=rpB.mono (bl_of (id:=id))
    have rvB':=rvB.mono (bl_of (id:=id))
    simp only [bSa,↓bSb,bP,b0,b1,b8,b10,b11,eo,em,A84 (k:=.u64) (show o < _ by omega),hc,Ae0 (show a+o < _ by omega),hs2'.ia (show i' < d1.size by omega),hs2'.ia (show (a+o) < d1.size by omega),lA,lB,hs2'.rox (m:=20) (show n0≤nx2 by omega),Aa9]
    refine ⟨ro_pr (rpB'.rox (by omega)) (rvB'.rox (by omega)),?_⟩
    refine Aa0 rfl (Ac4 (R:=rChange) (i:=i') (n:=n) (id:=id) (v:=[pB,vB]) (y:=d1[(a+o)]!) (p:=fun j=>j < n0∧j≠id) (by simp only [bR]; rfl) hs2'.o (by simp only [evt,bR,reduceCtorEq]; exact Aa5 rpB rvB) (rChange_rd.2 ⟨pB,vB,rfl,rpB,rvB⟩) (by simp; omega) (fun h=>h.2 rfl) fun hp5b ho5b hk5b=>?_)
    simp only [bR] at hk5b
    obtain ⟨_,_,fl5b,hg5b,_⟩:=ho5b.get
    have hidn5:=hs2'.h
    have rpA5b:=rpA.keep (hp':=hp5b) fun j hj=>hk5b j hj.2
    have rvA5b:=rvA.keep (hp':=hp5b) fun j hj=>hk5b j hj.2
    have i5b:iaD hp5b 2 (.ms id 0 n 2) (.v (.int .i64 (((a+o):Nat):Int)))=some (adrE 2 (.ms id 0 n 2) ((a+o))):=Ad6 ho5b.rl (by simp; omega)
    simp only [bSa,↓bSb,i5b,Aa9,Aa1 (n0:=nx2) (m:=20) hg5b (show id < nx2 by omega)]
    refine ⟨ro_pr ((rpA5b.mono (bl_of (id:=id))).rox (by omega)) ((rvA5b.mono (bl_of (id:=id))).rox (by omega)),?_⟩
    refine Aa0 rfl (Ac4 (R:=rChange) (i:=(a+o)) (n:=n) (id:=id) (v:=[pA,vA]) (y:=d1[i']!) (p:=fun j=>j < n0∧j≠id) (by simp only [bR]; rfl) ho5b (by simp only [evt,bR,reduceCtorEq]; exact Aa5 rpA5b rvA5b) (rChange_rd.2 ⟨pA,vA,rfl,rpA5b,rvA5b⟩) (by simp; omega) (fun h=>h.2 rfl) fun hp5 ho5 hk5=>?_)
    simp only [bR] at hk5
    have hs5:=hs2'.swp (show i' < d1.size by omega) (show (a+o) < d1.size by omega) ho5
    have g5:Fr es.hp es.nx id hp5 (nx2+20):=g2.up (by omega) fun q hq hqi=>by rw [hk5 q hqi,hk5b q hqi]
    obtain ⟨flx5,hgx5⟩:=hs2'.get
    obtain ⟨fly5,hgy5⟩:=hs5.get
    have hlk5:∀ {a1 a2:List Nat} {q1 q2:Nat} (p:Past),p∈[(⟨q1,a1,hp5b,hp5⟩:Past),⟨q2,a2,hp2,hp5b⟩]→(p.a.get id).isSome=true∧(p.b.get id).isSome=true:=fun p hp=>by
     simp only [List.mem_cons,List.not_mem_nil,or_false] at hp
     rcases hp with rfl | rfl
     ·exact ⟨by rw [hg5b]; rfl,by rw [hgy5]; rfl⟩
     ·exact ⟨by rw [hgx5]; rfl,by rw [hg5b]; rfl⟩
    simp only [bSa,↓bSb,b0,b1,b8,b9,b10,b11,Aa3 (show i' < _ by omega)]
    exact ⟨Ad3 (Ai0 id n) (by omega) (fun p hp=>hlk5 p hp) rfl,a+(b - a) / 4*2+2 - (i'+1),by omega,i'+1,_,s2,rfl,by omega,by omega,hs2,(hk5 _ (by omega)).trans ((hk5b _ (by omega)).trans hR2),g5,by omega,hs5,permIn_trans _ _ _ a b hP (swp_permIn d1 a b i' (a+o) (by omega) (by omega) (by omega) (by omega) (by omega)),rfl⟩
  ·simp only [bSa,↓bSb,b1,b8,b11,Bg3 (show b - a < _ by omega),Bu5 (show (b - a) / 4 < _ by omega),Ae0 (show a+(b - a) / 4*2 < _ by omega),Aa3 (show a+(b - a) / 4*2 < _ by omega),hi]
   exact hK _ _ _ g hs1 hP
 ·simp only [bSa,a0,a1]
  exact ⟨a+(b - a) / 4*2 - 1,d,b - a,by omega,by omega,by omega,by omega,hg2,⟨by omega,fun j hj hji=>by rw [hk2 j (by omega),hk1 j (by omega)]⟩,by omega,hs.keep fun j hj=>by rw [hk2 j (by omega),hk1 j (by omega)],permIn_refl _ _ _,rfl⟩
end
end Go.DD

/- Contracts: pdqsort of changes. Conditions: those that each theorem states. -/
namespace Go.DD
open Go Go.Proofs Go.Sort
theorem extIa {hp:Tr DObj} (x:Int) (w:Bool):extD hp (.tup [iv x,bv w]) 0=some (iv x):=Ao4 fun id hid=>by simp [DV.refs,DV.refsL] at hid
theorem Cb5 {a:Nat} (h:a < 9000000000000000000):binD .quo (.v (.int .i64 (a:Int))) (.v (.int .i64 8))=some (.v (.int .i64 ((a / 8:Nat):Int))):=by
 have e:(a:Int).tdiv 8=((a / 8:Nat):Int):=rfl
 have hlt:a / 8≤a:=Nat.div_le_self _ _
 generalize a / 8=q at e hlt ⊢
 have e2:binI .quo .i64 (a:Int) 8=some (.int .i64 (q:Int)):=by
  unfold binI
  simp only
  rw [if_neg (by decide),e,wrap_in (by omega)]
 simp only [binD,binV,isSh]
 simp [e2]
structure At (es:ES) (x:EO) (v:DV):Prop where
 e:rawE es x=v
structure PQ (hp:Tr DObj) (nx n0 id n a b l:Nat) (wb wp:Bool) (d:Array PCell) (es:ES):Prop where
 g:Fr hp nx id es.hp es.nx
 s:SR es.hp n0 id n d
 b0:rawE es (.t .o)=.ms id 0 n 2
 b1:rawE es (.t (.l .o))=iv (a:Nat)
 b2:rawE es (.t (.r .o))=iv (b:Nat)
 b3:rawE es (.t (.l (.l .o)))=iv (l:Nat)
 b4:rawE es (.t (.r (.l .o)))=cmpC
 b10:rawE es (.t (.r (.r (.l .o))))=bv wb
 b11:rawE es (.t (.l (.l (.r .o))))=bv wp
section
variable (k n0:Nat)
theorem Bu6 (M:Nat) (id n:Nat) (rec:12 < M→∀ (hp:Tr DObj) (nx:Nat) (K:DV→Tr DObj→Nat→Prop) (a b l:Nat) (d:Array PCell),n0≤nx→SR hp n0 id n d→a≤b→b≤d.size→2*(b - a)+1 < M→Below ltC a b d→l < 100000→d.size < 256→
  (∀ hp' nx' d',Fr hp nx id hp' nx'→SR hp' n0 id n d'→PermIn a b d d'→SortedIn ltC a b d'→K (.tup []) hp' nx')→KW (kN (k+9)) (.fn 186) [.ms id 0 n 2,iv a,iv b,iv l,cmpC] hp nx K)
  (hp:Tr DObj) (nx:Nat) (K:DV→Tr DObj→Nat→Prop) (a b l:Nat) (d:Array PCell) (hn:n0≤nx) (hs:SR hp n0 id n d) (hab:a≤b) (hb:b≤d.size) (hM:b - a < M) (hB:Below ltC a b d) (hl:l < 100000) (hz:d.size < 256)
  (hK:∀ hp' nx' d',Fr hp nx id hp' nx'→SR hp' n0 id n d'→PermIn a b d d'→SortedIn ltC a b d'→K (.tup []) hp' nx'):KW (kN (k+10)) (.fn 186) [.ms id 0 n 2,iv a,iv b,iv l,cmpC] hp nx K:=by
 refine kn_0 (Aa2 (by decide)) t186 (Nat.le_of_ble_eq_true rfl) fun es e1 e2 he=>?_
 have a0:rawE es (.t .o)=.ms id 0 n 2:=he 0 _ rfl
 have a1:rawE es (.t (.l .o))=iv a:=he 1 _ rfl
 have a2:rawE es (.t (.r .o))=iv b:=he 2 _ rfl
 have a3:rawE es (.t (.l (.l .o)))=iv l:=he 3 _ rfl
 have a4:rawE es (.t (.r (.l .o)))=cmpC:=he 4 _ rfl
 unfold r186
 subst e1 e2
 simp only [bSa,↓bSb]
 refine EW.l (I:=fun m es1=>∃ a' b' l' wb wp d1,m=b' - a'∧a'≤b'∧b'≤d.size∧b' - a' < M∧l' < 100000∧Below ltC a' b' d1∧(∀ R,PermIn a' b' d1 R→SortedIn ltC a' b' R→PermIn a b d R∧SortedIn ltC a b R)∧PQ es.hp es.nx n0 id n a' b' l' wb wp d1 es1) ?_ (b - a) 1000000 _ ?_ (by have:=hs.s; omega)
 ·rintro m es1 ⟨a',b',l',wb,wp,d1,hm,hab',hb',hM',hl',hB',hR,g,hs1,b0,b1,b2,b3,b4,b10,b11⟩
  unfold Bs7
  have hd1:d1.size=d.size:=hs1.n.symm.trans hs.n
  have hle1:=g.le
  have hsub:binD .sub (.v (.int .i64 (b':Int))) (.v (.int .i64 (a':Int)))=some (.v (.int .i64 ((b' - a':Nat):Int))):=Al6 (by omega) (by omega)
  refine ew_b.2 (EW.seq (fun es2=>PQ es.hp es.nx n0 id n a' b' l' wb wp d1 es2∧At es2 (.t (.r (.l (.r .o)))) (iv ((b' - a':Nat)))) ?_ fun es2 ⟨⟨g,hs1,b0,b1,b2,b3,b4,b10,b11⟩,⟨b12⟩⟩=>?_)
  ·simp only [bSa,↓bSb,b1,b2,hsub]
   exact ⟨⟨by simpa only [bR] using g,by simpa only [bR] using hs1,by simp only [bR,b0],by simp only [bR,b1],by simp only [bR,b2],by simp only [bR,b3],by simp only [bR,b4],by simp only [bR,b10],by simp only [bR,b11]⟩,⟨by simp only [bR]⟩⟩
  have hle2:=g.le
  by_cases c12:b' - a'≤12
  ·simp only [bSa,↓bSb,b0,b1,b2,b4,b12,show decide (((b' - a':Nat):Int)≤12)=true from decide_eq_true (by omega)]
   refine kws (Cp5 (k+3) n0 _ _ _ id n a' b' d1 (by omega) hs1 (by omega) (by omega) fun hp3 nx3 g3 hs3=>?_)
   simp only [bSa,↓bSb]
   obtain ⟨r1,r2⟩:=insertionSort_holds swoC d1 a' b' hab' (by omega)
   obtain ⟨r3,r4⟩:=hR _ r1 r2
   exact hK _ _ _ (g.trans g3) hs3 r3 r4
  refine EW.seq (fun es3=>PQ es.hp es.nx n0 id n a' b' l' wb wp d1 es3∧At es3 (.t (.r (.l (.r .o)))) (iv ((b' - a':Nat)))) ?_ fun es3 ⟨⟨g,hs1,b0,b1,b2,b3,b4,b10,b11⟩,⟨b12⟩⟩=>?_
  ·simp only [bSa,↓bSb,b12,show decide (((b' - a':Nat):Int)≤12)=false from decide_eq_false (by omega)]
   exact ⟨⟨by simpa only [bR] using g,by simpa only [bR] using hs1,by simp only [bR,b0],by simp only [bR,b1],by simp only [bR,b2],by simp only [bR,b3],by simp only [bR,b4],by simp only [bR,b10],by simp only [bR,b11]⟩,⟨by simp only [bR,b12]⟩⟩
  have hle3:=g.le
  by_cases cl:l'=0
  ·subst cl
   simp only [bSa,↓bSb,b0,b1,b2,b3,b4]
   refine kws (Ch2 (k+2) n0 _ _ _ id n a' b' d1 (by omega) hs1 (by omega) (by omega) fun hp3 nx3 g3 hs3=>?_)
   simp only [bSa,↓bSb]
   obtain ⟨r1,r2⟩:=heapSort_holds swoC d1 a' b' hab' (by omega)
   obtain ⟨r3,r4⟩:=hR _ r1 r2
   exact hK _ _ _ (g.trans g3) hs3 r3 r4
  refine EW.seq (fun es4=>PQ es.hp es.nx n0 id n a' b' l' wb wp d1 es4∧At es4 (.t (.r (.l (.r .o)))) (iv ((b' - a':Nat)))) ?_ fun es4 ⟨⟨g,hs1,b0,b1,b2,b3,b4,b10,b11⟩,⟨b12⟩⟩=>?_
  ·simp only [bSa,↓bSb,b3,show decide ((l':Int)=0)=false from decide_eq_false (by omega)]
   exact ⟨⟨by simpa only [bR] using g,by simpa only [bR] using hs1,by simp only [bR,b0],by simp only [bR,b1],by simp only [bR,b2],by simp only [bR,b3],by simp only [bR,b4],by simp only [bR,b10],by simp only [bR,b11]⟩,⟨by simp only [bR,b12]⟩⟩
  have hle4:=g.le
  -- breakPatterns
  refine EW.seq (fun es5=>∃ l2 d2,l2 < 100000∧PermIn a' b' d1 d2∧PQ es.hp es.nx n0 id n a' b' l2 wb wp d2 es5∧At es5 (.t (.r (.l (.r .o)))) (iv ((b' - a':Nat)))) ?_ fun es5 ⟨l2,d2,hl2,hP2,⟨g,hs2,b0,b1,b2,b3,b4,b10,b11⟩,⟨b12⟩⟩=>?_
  ·cases wb with
   | true=>
    simp only [bSa,↓bSb,b10]
    exact ⟨l',d1,hl',permIn_refl _ _ _,⟨by simpa only [bR] using g,by simpa only [bR] using hs1,by simp only [bR,b0],by simp only [bR,b1],by simp only [bR,b2],by simp only [bR,b3],by simp only [bR,b4],by simp only [bR,b10],by simp only [bR,b11]⟩,⟨by simp only [bR,b12]⟩⟩
   | false=>
    simp only [bSa,↓bSb,b0,b1,b2,b4,b10]
    refine kws (B19 (k+5) n0 _ _ _ id n a' b' d1 (by omega) hs1 (by omega) (by omega) (by omega) fun hp3 nx3 d3 g3 hs3 hP3=>?_)
    simp only [bSa,↓bSb,b3,Ag4 l' (by omega) (by omega)]
    exact ⟨l' - 1,d3,by omega,hP3,⟨g.trans g3,hs3,by simp only [bR,b0],by simp only [bR,b1],by simp only [bR,b2],by simp only [bR],by simp only [bR,b4],by simp only [bR,b10],by simp only [bR,b11]⟩,⟨by simp only [bR,b12]⟩⟩
  have hd2:d2.size=d.size:=hs2.n.symm.trans hs.n
  have hB2:Below ltC a' b' d2:=hB'.perm (by omega) hP2
  have hle5:=g.le
  -- choosePivot
  refine EW.seq (fun es6=>∃ pv h,a'≤pv∧pv < b'∧PQ es.hp es.nx n0 id n a' b' l2 wb wp d2 es6∧At es6 (.t (.r (.l (.r .o)))) (iv ((b' - a':Nat)))∧At es6 (.t (.l (.r (.r .o)))) (iv (pv:Nat))∧At es6 (.t (.r (.r (.r .o)))) (iv h)) ?_ fun es6 ⟨pv,h,hp1,hp2,⟨g,hs2,b0,b1,b2,b3,b4,b10,b11⟩,⟨b12⟩,⟨b13⟩,⟨b14⟩⟩=>?_
  ·simp only [bSa,↓bSb,b0,b1,b2,b4]
   refine kws (B14 k n0 _ _ _ id n a' b' d2 (by omega) hs2 (by omega) (by omega) fun hp3 nx3 x h g3 hx=>?_)
   simp only [bSa,↓bSb,ext2a]
   exact ⟨x,h,hx.1,hx.2,⟨g.al g3,hs2.al (by omega) g3,by simp only [bR,b0],by simp only [bR,b1],by simp only [bR,b2],by simp only [bR,b3],by simp only [bR,b4],by simp only [bR,b10],by simp only [bR,b11]⟩,⟨by simp only [bR,b12]⟩,⟨by simp only [bR]⟩,⟨by simp only [bR]⟩⟩
  have hle6:=g.le
  -- reverseRange
  refine EW.seq (fun es7=>∃ pv h d3,a'≤pv∧pv < b'∧PermIn a' b' d2 d3∧PQ es.hp es.nx n0 id n a' b' l2 wb wp d3 es7∧At es7 (.t (.r (.l (.r .o)))) (iv ((b' - a':Nat)))∧At es7 (.t (.l (.r (.r .o)))) (iv (pv:Nat))∧At es7 (.t (.r (.r (.r .o)))) (iv h)) ?_ fun es7 ⟨pv,h,d3,hp1,hp2,hP3,⟨g,hs3,b0,b1,b2,b3,b4,b10,b11⟩,⟨b12⟩,⟨b13⟩,⟨b14⟩⟩=>?_
  ·by_cases c2:h=2
   ·subst c2
    simp only [bSa,↓bSb,b0,b1,b2,b4,b14]
    refine kws (Cp8 (k+8) n0 _ _ _ id n a' b' d2 (by omega) hs2 (by omega) (by omega) fun hp3 nx3 g3 hs3=>?_)
    simp only [bSa,↓bSb,b1,b2,b13,Ag4 b' (by omega) (by omega),Al6 (a:=a') (b:=pv) hp1 (by omega),Al6 (a:=pv - a') (b:=b' - 1) (by omega) (by omega)]
    exact ⟨b' - 1 - (pv - a'),1,_,by omega,by omega,reverseRange_holds d2 a' b' hab' (by omega),⟨g.trans g3,hs3,by simp only [bR,b0],by simp only [bR,b1],by simp only [bR,b2],by simp only [bR,b3],by simp only [bR,b4],by simp only [bR,b10],by simp only [bR,b11]⟩,⟨by simp only [bR,b12]⟩,⟨by simp only [bR]⟩,⟨by simp only [bR]⟩⟩
   ·simp only [bSa,↓bSb,b14,decide_eq_false c2]
    exact ⟨pv,h,d2,hp1,hp2,permIn_refl _ _ _,⟨by simpa only [bR] using g,by simpa only [bR] using hs2,by simp only [bR,b0],by simp only [bR,b1],by simp only [bR,b2],by simp only [bR,b3],by simp only [bR,b4],by simp only [bR,b10],by simp only [bR,b11]⟩,⟨by simp only [bR,b12]⟩,⟨by simp only [bR,b13]⟩,⟨by simp only [bR,b14]⟩⟩
  have hd3:d3.size=d.size:=hs3.n.symm.trans hs.n
  have hB3:Below ltC a' b' d3:=hB2.perm (by omega) hP3
  have hle7:=g.le
  have hP13:=permIn_trans _ _ _ a' b' hP2 hP3
  -- partialInsertionSort
  refine EW.seq (fun es8=>∃ d4,PermIn a' b' d1 d4∧PQ es.hp es.nx n0 id n a' b' l2 wb wp d4 es8∧At es8 (.t (.r (.l (.r .o)))) (iv ((b' - a':Nat)))∧At es8 (.t (.l (.r (.r .o)))) (iv (pv:Nat))) ?_ fun es8 ⟨d4,hP4,⟨g,hs4,b0,b1,b2,b3,b4,b10,b11⟩,⟨b12⟩,⟨b13⟩⟩=>?_
  ·have no:∀ {es9:ES},PQ es.hp es.nx n0 id n a' b' l2 wb wp d3 es9→At es9 (.t (.r (.l (.r .o)))) (iv ((b' - a':Nat)))→At es9 (.t (.l (.r (.r .o)))) (iv (pv:Nat))→∃ d4,PermIn a' b' d1 d4∧PQ es.hp es.nx n0 id n a' b' l2 wb wp d4 es9∧At es9 (.t (.r (.l (.r .o)))) (iv ((b' - a':Nat)))∧At es9 (.t (.l (.r (.r .o)))) (iv (pv:Nat)):=fun q1 q2 q3=>⟨d3,hP13,q1,q2,q3⟩
   cases wb with
   | false=>
    simp only [bSa,↓bSb,b10]
    exact no ⟨by simpa only [bR] using g,by simpa only [bR] using hs3,by simp only [bR,b0],by simp only [bR,b1],by simp only [bR,b2],by simp only [bR,b3],by simp only [bR,b4],by simp only [bR,b10],by simp only [bR,b11]⟩ ⟨by simp only [bR,b12]⟩ ⟨by simp only [bR,b13]⟩
   | true=>
    cases wp with
    | false=>
     simp only [bSa,↓bSb,b10,b11]
     exact no ⟨by simpa only [bR] using g,by simpa only [bR] using hs3,by simp only [bR,b0],by simp only [bR,b1],by simp only [bR,b2],by simp only [bR,b3],by simp only [bR,b4],by simp only [bR,b10],by simp only [bR,b11]⟩ ⟨by simp only [bR,b12]⟩ ⟨by simp only [bR,b13]⟩
    | true=>
     by_cases c1:h=1
     ·subst c1
      simp only [bSa,↓bSb,b0,b1,b2,b4,b10,b11,b14]
      refine kws (Ch5 (k+3) n0 _ _ _ id n a' b' d3 (by omega) hs3 (by omega) (by omega) fun hp3 nx3 g3 hs4=>?_)
      obtain ⟨r1,r2⟩:=partialInsertionSort_holds swoC d3 a' b' (by omega) (by omega) hB3
      cases hres:(partialInsertionSort ltC d3 a' b').2 with
      | true=>
       simp only [bSa,↓bSb]
       obtain ⟨r3,r4⟩:=hR _ (permIn_trans _ _ _ a' b' hP13 r1) (r2 hres)
       exact hK _ _ _ (g.trans g3) hs4 r3 r4
      | false=>
       simp only [bSa,↓bSb]
       exact ⟨_,permIn_trans _ _ _ a' b' hP13 r1,⟨g.trans g3,hs4,by simp only [bR,b0],by simp only [bR,b1],by simp only [bR,b2],by simp only [bR,b3],by simp only [bR,b4],by simp only [bR,b10],by simp only [bR,b11]⟩,⟨by simp only [bR,b12]⟩,⟨by simp only [bR,b13]⟩⟩
     ·simp only [bSa,↓bSb,b10,b11,b14,decide_eq_false c1]
      exact no ⟨by simpa only [bR] using g,by simpa only [bR] using hs3,by simp only [bR,b0],by simp only [bR,b1],by simp only [bR,b2],by simp only [bR,b3],by simp only [bR,b4],by simp only [bR,b10],by simp only [bR,b11]⟩ ⟨by simp only [bR,b12]⟩ ⟨by simp only [bR,b13]⟩
  have hd4:d4.size=d.size:=hs4.n.symm.trans hs.n
  have hB4:Below ltC a' b' d4:=hB'.perm (by omega) hP4
  have hR4:∀ R,PermIn a' b' d4 R→SortedIn ltC a' b' R→PermIn a b d R∧SortedIn ltC a b R:=fun R q1 q2=>hR R (permIn_trans _ _ _ a' b' hP4 q1) q2
  have hle8:=g.le
  -- the greatest of what lies to the left
  refine EW.seq (fun es9=>PQ es.hp es.nx n0 id n a' b' l2 wb wp d4 es9∧At es9 (.t (.r (.l (.r .o)))) (iv ((b' - a':Nat)))∧At es9 (.t (.l (.r (.r .o)))) (iv (pv:Nat))) ?_ fun es9 ⟨⟨g,hs4,b0,b1,b2,b3,b4,b10,b11⟩,⟨b12⟩,⟨b13⟩⟩=>?_
  ·by_cases ca:a'=0
   ·simp only [bSa,↓bSb,b1,show decide ((0:Int) < (a':Int))=false from decide_eq_false (by omega)]
    exact ⟨⟨g.up (by simp only []; omega) fun j hj hji=>by simp only [],by simpa only [bR] using hs4,by simp only [bR,b0],by simp only [bR,b1],by simp only [bR,b2],by simp only [bR,b3],by simp only [bR,b4],by simp only [bR,b10],by simp only [bR,b11]⟩,⟨by simp only [bR,b12]⟩,⟨by simp only [bR,b13]⟩⟩
   ·have ea:(decide ((0:Int) < (a':Int)))=true:=decide_eq_true (by omega)
    obtain ⟨pA,vA,rpA,rvA,lA⟩:=hs4.at (show (a' - 1) < d4.size by omega)
    obtain ⟨pB,vB,rpB,rvB,lB⟩:=hs4.at (show pv < d4.size by omega)
    have rpA':=rpA.mono (bl_of (id:=id))
    have rvA':=rvA.mono (bl_of (id:=id))
    have rpB':=rpB.mono (bl_of (id:=id))
    have rvB':=rvB.mono (bl_of (id:=id))
    simp only [bSa,↓bSb,b0,b1,b4,b13,ea,Ag4 a' (by omega) (by omega),hs4.ia (show (a' - 1) < d4.size by omega),hs4.ia (show pv < d4.size by omega),lA,lB,hs4.rox (m:=17) (show n0≤es8.nx by omega),Aa9,Ag0]
    refine ⟨⟨ro_pr (rpA'.rox (by omega)) (rvA'.rox (by omega)),ro_pr (rpB'.rox (by omega)) (rvB'.rox (by omega))⟩,?_⟩
    refine Aa0 rfl (Af2 (f:=126) (fs:=[]) (cs:=[]) (by rw [evt]; simp only [bR]; exact Ac9 _) ?_)
    simp only [bR,List.map_cons,List.map_nil,List.append_nil,List.nil_append]
    refine Ag1 (k+4) n0 _ _ _ pA vA pB vB d4[(a' - 1)]! d4[pv]! (by omega) rpA' rvA' rpB' rvB' (hs4.bA (show (a' - 1) < d4.size by omega)) fun hp5c nx5c hal5c=>?_
    have hle5c:=hal5c.le
    have hs5c:=hs4.al (nx:=es8.nx+17) (by omega) hal5c
    have g5c:Fr es.hp es.nx id hp5c nx5c:=g.up (by omega) fun j hj _=>hal5c.same j (by omega)
    by_cases hc:cmpL d4[a' - 1]!.pos d4[pv]!.pos < 0
    ·simp only [bSa,↓bSb,hle5c,decide_eq_true hc]
     exact ⟨⟨g5c,hs5c,by simp only [bR,b0],by simp only [bR,b1],by simp only [bR,b2],by simp only [bR,b3],by simp only [bR,b4],by simp only [bR,b10],by simp only [bR,b11]⟩,⟨by simp only [bR,b12]⟩,⟨by simp only [bR,b13]⟩⟩
    ·simp only [bSa,↓bSb,b0,b1,b2,b4,b13,hle5c,decide_eq_false hc]
     refine kws (B17 (k+3) n0 _ _ _ id n a' b' pv d4 (by omega) hs5c ⟨hp1,hp2⟩ (by omega) (by omega) fun hp3 nx3 g3 hs6=>?_)
     obtain ⟨m1,m2,m3,m4,m5⟩:=round_eq swoC (partitionEqual_holds ltC) (d3:=d4) (d4:=(partitionEqual ltC d4 a' b' pv).2) (mid:=(partitionEqual ltC d4 a' b' pv).1) (show 0 < a' by omega) hp1 hp2 (by omega) hB4 (ltC_f hc) rfl
     simp only [bSa,↓bSb]
     exact ⟨b' - (partitionEqual ltC d4 a' b' pv).1,by omega,(partitionEqual ltC d4 a' b' pv).1,b',l2,wb,wp,_,rfl,m2,by omega,by omega,hl2,m4,fun R q1 q2=>by
      obtain ⟨w1,w2⟩:=m5 R q1 q2
      exact hR4 R w1 w2,⟨g5c.trans g3,hs6,by simp only [bR,b0],by simp only [bR],by simp only [bR,b2],by simp only [bR,b3],by simp only [bR,b4],by simp only [bR,b10],by simp only [bR,b11]⟩⟩
  have hle9:=g.le
  -- partition
  refine EW.seq (fun es10=>∃ ap,(partition ltC d4 a' b' pv).2.1=ap∧PQ es.hp es.nx n0 id n a' b' l2 wb wp (partition ltC d4 a' b' pv).2.2 es10∧At es10 (.t (.r (.l (.r .o)))) (iv ((b' - a':Nat)))∧At es10 (.t (.r (.l (.l (.l .o))))) (iv ((partition ltC d4 a' b' pv).1:Nat))∧At es10 (.t (.l (.r (.l (.l .o))))) (bv ap)) ?_ fun es10 ⟨ap,hap,⟨g,hs5,b0,b1,b2,b3,b4,b10,b11⟩,⟨b12⟩,⟨b16⟩,⟨b17⟩⟩=>?_
  ·simp only [bSa,↓bSb,b0,b1,b2,b4,b13]
   refine kws (Ch4 (k+3) n0 _ _ _ id n a' b' pv d4 (by omega) hs4 ⟨hp1,hp2⟩ (by omega) (by omega) fun hp3 nx3 g3 hs5=>?_)
   simp only [bSa,↓bSb,extIa]
   exact ⟨_,rfl,⟨g.trans g3,hs5,by simp only [bR,b0],by simp only [bR,b1],by simp only [bR,b2],by simp only [bR,b3],by simp only [bR,b4],by simp only [bR,b10],by simp only [bR,b11]⟩,⟨by simp only [bR,b12]⟩,⟨by simp only [bR]⟩,⟨by simp only [bR]⟩⟩
  have hle10:=g.le
  obtain ⟨m1,m2,m3,m4,m5,m6,m7⟩:=round_part swoC (partition_holds ltC) (d3:=d4) (d4:=(partition ltC d4 a' b' pv).2.2) (mid:=(partition ltC d4 a' b' pv).1) (ap:=(partition ltC d4 a' b' pv).2.1) hp1 hp2 (by omega) hB4 rfl
  generalize (partition ltC d4 a' b' pv).1=mid at m1 m2 m4 m5 m6 m7 b16
  generalize (partition ltC d4 a' b' pv).2.2=d5 at hs5 m3 m4 m5 m6 m7
  have e1:binD .sub (.v (.int .i64 (mid:Int))) (.v (.int .i64 (a':Int)))=some (.v (.int .i64 ((mid - a':Nat):Int))):=Al6 m1 (by omega)
  have e2:binD .sub (.v (.int .i64 (b':Int))) (.v (.int .i64 (mid:Int)))=some (.v (.int .i64 ((b' - mid:Nat):Int))):=Al6 (by omega) (by omega)
  by_cases hlr:mid - a' < b' - mid
  ·simp only [bSa,↓bSb,b0,b1,b2,b3,b4,b12,b16,b17,e1,e2,Cb5 (show b' - a' < _ by omega),hlr]
   refine kws (rec (by omega) _ _ _ a' mid l2 d5 (by omega) hs5 m1 (by omega) (by omega) m4 hl2 (by omega) fun hp3 nx3 d6 g3 hs6 hP6 hS6=>?_)
   simp only [bSa,↓bSb,b16,Aa3 (show mid < _ by omega)]
   obtain ⟨w1,w2⟩:=m6 d6 hP6 hS6
   exact ⟨b' - (mid+1),by omega,mid+1,b',l2,decide ((b' - a') / 8≤mid - a'),ap,d6,rfl,by omega,by omega,by omega,hl2,w1,fun R q1 q2=>by
    obtain ⟨v1,v2⟩:=w2 R q1 q2
    exact hR4 R v1 v2,⟨g.trans g3,hs6,by simp only [bR,b0],by simp only [bR],by simp only [bR,b2],by simp only [bR,b3],by simp only [bR,b4],by simp only [bR],by simp only [bR]⟩⟩
  ·simp only [bSa,↓bSb,b0,b1,b2,b3,b4,b12,b16,b17,e1,e2,Cb5 (show b' - a' < _ by omega),hlr,Aa3 (show mid < _ by omega)]
   refine kws (rec (by omega) _ _ _ (mid+1) b' l2 d5 (by omega) hs5 (by omega) (by omega) (by omega) m5 hl2 (by omega) fun hp3 nx3 d6 g3 hs6 hP6 hS6=>?_)
   simp only [bSa,↓bSb,b16]
   obtain ⟨w1,w2⟩:=m7 d6 hP6 hS6
   exact ⟨mid - a',by omega,a',mid,l2,decide ((b' - a') / 8≤b' - mid),ap,d6,rfl,m1,by omega,by omega,hl2,w1,fun R q1 q2=>by
    obtain ⟨v1,v2⟩:=w2 R q1 q2
    exact hR4 R v1 v2,⟨g.trans g3,hs6,by simp only [bR,b0],by simp only [bR,b1],by simp only [bR],by simp only [bR,b3],by simp only [bR,b4],by simp only [bR],by simp only [bR]⟩⟩
 ·exact ⟨a,b,l,true,true,d,rfl,hab,hb,hM,hl,hB,fun R q1 q2=>⟨q1,q2⟩,Fr.refl _ _ _,hs,by simp only [bR,a0],by simp only [bR,a1],by simp only [bR,a2],by simp only [bR,a3],by simp only [bR,a4],by simp only [bR],by simp only [bR]⟩
theorem Cb6 (id n:Nat):∀ (f:Nat) (M:Nat) (hp:Tr DObj) (nx:Nat) (K:DV→Tr DObj→Nat→Prop) (a b l:Nat) (d:Array PCell),M≤8*2 ^ f→n0≤nx→SR hp n0 id n d→a≤b→b≤d.size→b - a < M→Below ltC a b d→l < 100000→d.size < 256→
  (∀ hp' nx' d',Fr hp nx id hp' nx'→SR hp' n0 id n d'→PermIn a b d d'→SortedIn ltC a b d'→K (.tup []) hp' nx')→KW (kN (k+f+10)) (.fn 186) [.ms id 0 n 2,iv a,iv b,iv l,cmpC] hp nx K
 | 0,M,hp,nx,K,a,b,l,d,hM,hn,hs,hab,hb,h1,hB,hl,hz,hK=>Bu6 k n0 M id n (fun h=>absurd h (by omega)) hp nx K a b l d hn hs hab hb h1 hB hl hz hK
 | f+1,M,hp,nx,K,a,b,l,d,hM,hn,hs,hab,hb,h1,hB,hl,hz,hK=>by
  have hp2:2 ^ (f+1)=2*2 ^ f:=by rw [Nat.pow_succ,Nat.mul_comm]
  exact Bu6 (k+f+1) n0 M id n (fun _ hp nx K a b l d hn hs hab hb h1 hB hl hz hK=>Cb6 id n f (b - a+1) hp nx K a b l d (by omega) hn hs hab hb (by omega) hB hl hz hK) hp nx K a b l d hn hs hab hb h1 hB hl hz hK
end
end Go.DD

/- Contracts: slices.Values, AppendSeq, Collect over changes. Conditions: those that each theorem states. -/
namespace Go.DD
open Go Go.Proofs Go.Sort
def CJ (n0:Nat) (sl:Tr DV) (L bo:Nat) (W:List PCell) (hp:Tr DObj) (nx:Nat):Prop:=
 ∃ z T,hp.get L=some (.loop ⟨13,.t sl,[7],Ar2,Ar3,.ready,none⟩)∧hp.get bo=some (.row T [z])∧OL rChange hp (Bl n0) z W∧(∀ j∈z.refs,n0≤j∧j < nx∧j≠L∧j≠bo)∧n0≤L∧L < nx∧n0≤bo∧bo < nx∧L≠bo∧rawE ⟨sl,.e,0⟩ (.t (.r .o))=.pt bo 0
theorem CJ.keep {n0:Nat} {sl:Tr DV} {L bo:Nat} {W:List PCell} {hp hp':Tr DObj} {nx nx':Nat} (h:CJ n0 sl L bo W hp nx) (hn:nx≤nx') (hk:∀ j,j < nx→hp'.get j=hp.get j):CJ n0 sl L bo W hp' nx':=by
 obtain ⟨z,T,h1,h2,h3,h4,h5,h6,h7,h8,h9,h10⟩:=h
 refine ⟨z,T,(hk L h6).trans h1,(hk bo h8).trans h2,h3.keep fun j hj=>hk j (hj.elim (fun h=>?_) fun h=>(h4 j h).2.1),fun j hj=>?_,h5,by omega,h7,by omega,h9,h10⟩
 ·have:j < n0:=h
  omega
 ·have:=h4 j hj
  exact ⟨this.1,by omega,this.2.2⟩
section
variable (k n0:Nat) (hp:Tr DObj) (nx:Nat) (K:DV→Tr DObj→Nat→Prop)
theorem Bu7 (sl:Tr DV) (L bo:Nat) (W:List PCell) (a b:DV) (c:PCell) (hn:n0≤nx) (hJ:CJ n0 sl L bo W hp nx) (ha:RL rInt hp (Bl n0) a c.pos) (hb:RL rVal hp (Bl n0) b c.vals) (hW:W.length < 900000)
  (hK:∀ hp' nx',nx≤nx'→(∀ j,j < n0→hp'.get j=hp.get j)→CJ n0 sl L bo (W ++ [c]) hp' nx'→K (bv true) hp' nx') :
  KW (kN (k+1)) (.yl L) [.agg [a,b]] hp nx K:=by
 obtain ⟨z,T,j1,j2,j3,j4,j5,j6,j7,j8,j9,s2⟩:=hJ
 refine kn_yl j1 rfl rfl rfl rfl rfl ?_
 rw [show evalE 1000000 13 true Ar2=A88 from Cg9]
 unfold A88
 have hz7:∀ hp nx,rawE ⟨zipT [7] [.agg [a,b]] sl,hp,nx⟩ (.t (.l (.l (.l .o))))=.agg [a,b]:=fun hp nx=>by
  show rawE ((ES.mk sl hp nx).putE (some (.l (.l (.l .o)))) (.agg [a,b])) (.t (.l (.l (.l .o))))=.agg [a,b]
  simp only [bR]
 have hz2:∀ hp nx,rawE ⟨zipT [7] [.agg [a,b]] sl,hp,nx⟩ (.t (.r .o))=.pt bo 0:=fun hp nx=>by
  show rawE ((ES.mk sl hp nx).putE (some (.l (.l (.l .o)))) (.agg [a,b])) (.t (.r .o))=.pt bo 0
  simp only [bR]
  exact s2
 generalize zipT [7] [.agg [a,b]] sl=zz at hz7 hz2
 simp only [↓bSb]
 refine Ac5 fun hp1 hg1 hk1=>?_
 simp only [bR] at hg1 hk1
 have ha1:=ha.keep (hp':=hp1) fun j (hj:j < n0)=>hk1 j (by omega)
 have hb1:=hb.keep (hp':=hp1) fun j (hj:j < n0)=>hk1 j (by omega)
 simp only [↓bSb]
 refine Ac0 (n:=2) (id:=nx) (ds:=[a,b]) (by simp only [bR]) hg1 (by simp only [evt,bR,reduceCtorEq,hz7]; exact Aa5 ha1 hb1) rfl rfl fun hp2 hg2 hk2=>?_
 simp only [bR] at hg2 hk2
 simp only [bSa,↓bSb]
 refine ⟨_,(hk2 L (by omega)).trans ((hk1 L (by omega)).trans j1),rfl,?_⟩
 rw [show evalE 1000000 13 true Ar3=A89 from Ch0]
 unfold A89
 obtain ⟨lp,hlp⟩:∃ lp:DLoop,lp=⟨13,.t sl,[7],Ar2,Ar3,.busy,none⟩:=⟨_,rfl⟩
 have hb1':∀ j,j≠L→(hp2.set L (some (.loop lp))).get j=hp2.get j:=fun j hj=>by rw [Tr.get_set,if_neg (Ne.symm hj)]
 have hbL:(hp2.set L (some (.loop lp))).get L=some (.loop lp):=by rw [Tr.get_set,if_pos rfl]
 rw [← hlp]
 generalize hp2.set L (some (.loop lp))=hq at hb1' hbL ⊢
 have kq:∀ j,j < nx→j≠L→hq.get j=hp.get j:=fun j hj hL=>by rw [hb1' j hL,hk2 j (by omega),hk1 j (by omega)]
 have gbo:hq.get bo=some (.row T [z]):=(kq bo j8 (Ne.symm j9)).trans j2
 have g5:hq.get nx=some (.row 62 [a,b]):=(hb1' nx (by omega)).trans hg2
 have haq:=ha.keep (hp':=hq) fun j (hj:j < n0)=>kq j (by omega) (by omega)
 have hbq:=hb.keep (hp':=hq) fun j (hj:j < n0)=>kq j (by omega) (by omega)
 have hzq:=j3.keep (hp':=hq) fun j hj=>hj.elim (fun (h:j < n0)=>kq j (by omega) (by omega)) fun h=>kq j (j4 j h).2.1 (j4 j h).2.2.1
 have l5:ldD hq (some 2) (.pt nx 0)=some (.agg [a,b]):=by rw [ld_p g5]; rfl
 have live2:=Aa5 haq hbq
 simp only [bSa,↓bSb,hz2,Ah9 gbo,l5]
 refine Ah5 (fl:=[a,b]) rfl (by simp only [List.map_cons,List.map_nil,n_ev,bR,bP,live2]; rfl) fun hp3 hg3 hk3=>?_
 simp only [bR] at hg3 hk3
 have haq3:=haq.keep (hp':=hp3) fun j (hj:j < n0)=>hk3 j (by omega)
 have hbq3:=hbq.keep (hp':=hp3) fun j (hj:j < n0)=>hk3 j (by omega)
 have hzq3:=hzq.keep (hp':=hp3) fun j hj=>hk3 j (hj.elim (fun (h:j < n0)=>by omega) fun h=>by have:=(j4 j h).2.1; omega)
 simp only [bSa,↓bSb]
 refine Ad7 (R:=rChange) (p:=Bl n0) (p2:=Bl n0) (d:=z) (d2:=.ms (nx+1) 0 1 2) (l:=W) (m:=[c]) (by simp only [bR,bP]) hzq3 (by simp only [n_ev,bR,bP]; exact Ah4 hg3) (Aw6 (R:=rChange) (x:=c) hg3 (rChange_rd.2 ⟨a,b,rfl,haq3,hbq3⟩)) rfl rfl (by rw [List.length_singleton]; omega) (by decide) fun hp4 hk4 h4=>?_
 simp only [bR] at hk4 h4
 have o4:=h4 (Bl n0) fun j hj=>by
  have:j < n0:=hj.elim id id
  exact ⟨this,by omega,fun h=>by have:=(j4 j h).1; omega⟩
 have hbo4:hp4.get bo=some (.row T [z]):=by rw [hk4 bo (by omega) fun h=>(j4 bo h).2.2.2 rfl,hk3 bo (by omega),gbo]
 obtain ⟨_,_,flN,hgN,_⟩:=o4.get
 simp only [bSa,↓bSb]
 refine Am8 (id:=bo) (off:=0) (by simp only [bR,hz2]) hbo4 (by simp only [evt,bR]; exact Ah4 hgN) (ok_ms _ _ _ _) (by simp) fun hp5 hg5 hk5=>?_
 simp only [bR] at hg5 hk5
 simp only [bSa,↓bSb]
 have hL4:hp5.get L=some (.loop lp):=by rw [hk5 L j9,hk4 L (by omega) fun h=>(j4 L h).2.2.1 rfl,hk3 L (by omega),hbL]
 have k6:∀ j,j≠L→(hp5.set L (some (.loop { lp with st:=.ready,pend:=none }))).get j=hp5.get j:=fun j hj=>by rw [Tr.get_set,if_neg (Ne.symm hj)]
 refine ⟨lp,hL4,hK _ _ (by omega) (fun j hj=>?_) ⟨_,T,by rw [Tr.get_set,if_pos rfl,hlp],(k6 bo (Ne.symm j9)).trans hg5,o4.keep fun j hj=>?_,fun j hj=>?_,j5,by omega,j7,by omega,j9,s2⟩⟩
 ·rw [k6 j (by omega),hk5 j (by omega),hk4 j (by omega) fun h=>by have:=(j4 j h).1; omega,hk3 j (by omega),kq j (by omega) (by omega)]
 ·have hj':j≠bo∧j≠L:=hj.elim (fun (h:j < n0)=>⟨by omega,by omega⟩) fun h=>by
   have:j=nx+1+1:=by simpa [DV.refs] using h
   exact ⟨by omega,by omega⟩
  rw [k6 j hj'.2,hk5 j hj'.1]
 ·have:j=nx+1+1:=by simpa [DV.refs] using hj
  exact ⟨by omega,by omega,by omega,by omega⟩
end
end Go.DD

/- Contracts: slices.Values over changes, Collect, SortFunc, SortedFunc. Conditions: those that each theorem states. -/
namespace Go.DD
open Go Go.Proofs Go.Sort
section
variable (k n0:Nat) (hp:Tr DObj) (nx:Nat) (K:DV→Tr DObj→Nat→Prop)
theorem B20 (sl:Tr DV) (L bo bx T:Nat) (d:DV) (l:List PCell) (hn:n0≤nx) (hbx:hp.get bx=some (.row T [d])) (hd:RL rChange hp (Bl n0) d l) (hl:l.length < 900000) (hJ:CJ n0 sl L bo [] hp nx)
  (hK:∀ hp' nx',nx≤nx'→(∀ j,j < n0→hp'.get j=hp.get j)→CJ n0 sl L bo l hp' nx'→K (.tup []) hp' nx') :
  KW (kN (k+2)) (.fn 161) [.yl L,.pt bx 0] hp nx K:=by
 refine kn_0 (Aa2 (by decide)) t161 (Nat.le_of_ble_eq_true rfl) fun es e1 e2 he=>?_
 have a0:rawE es (.t .o)=.yl L:=he 0 _ rfl
 have a1:rawE es (.t (.l .o))=.pt bx 0:=he 1 _ rfl
 unfold r161
 subst e1 e2
 simp only [bSa,↓bSb,a1,Ah9 hbx,hd.len]
 refine EW.up l.length (fun i es1=>es.nx≤es1.nx∧(∀ j,j < n0→es1.hp.get j=es.hp.get j)∧CJ n0 sl L bo (l.take i) es1.hp es1.nx∧rawE es1 (.t .o)=.yl L∧rawE es1 (.t (.l (.r .o)))=d∧rawE es1 (.t (.r (.r .o)))=iv l.length∧rawE es1 (.t (.l (.l (.l .o))))=iv (i:Nat)) ?_ ?_ (by omega)
 ·rintro i es1 hi ⟨hle,hfr,hJ1,b0,b5,b6,b7⟩
  unfold Ca5
  have hd1:=hd.keep (hp':=es1.hp) fun j hj=>hfr j hj
  by_cases h:i < l.length
  ·obtain ⟨a,b,ra,rb,lA,_,_⟩:=Ao0 hd1 h
   simp only [bSa,↓bSb,b5,b6,b7,h,Ad6 hd1 h,lA]
   refine Ac5 fun hp1 hg1 hk1=>?_
   simp only [bR] at hg1 hk1
   have ra1:=ra.keep (hp':=hp1) fun j (hj:j < n0)=>hk1 j (by omega)
   have rb1:=rb.keep (hp':=hp1) fun j (hj:j < n0)=>hk1 j (by omega)
   simp only [bSa,↓bSb]
   refine Ac0 (n:=2) (id:=es1.nx) (ds:=[a,b]) (by simp only [bR]) hg1 (by simp only [evt,bR,reduceCtorEq]; exact Aa5 ra1 rb1) rfl rfl fun hp2 hg2 hk2=>?_
   simp only [bR] at hg2 hk2
   have kq:∀ j,j < es1.nx→hp2.get j=es1.hp.get j:=fun j hj=>by rw [hk2 j (by omega),hk1 j (by omega)]
   have ra2:=ra.keep (hp':=hp2) fun j (hj:j < n0)=>kq j (by omega)
   have rb2:=rb.keep (hp':=hp2) fun j (hj:j < n0)=>kq j (by omega)
   have l2:ldD hp2 (some 2) (.pt es1.nx 0)=some (.agg [a,b]):=by rw [ld_p hg2]; rfl
   have hJ2:=hJ1.keep (hp':=hp2) (nx':=es1.nx+1) (by omega) kq
   obtain ⟨_,_,gL,_⟩:=hJ2
   simp only [bSa,↓bSb,b0,l2]
   refine sws_y (L:=L) (by simp only [bR]) gL ?_
   simp only [List.map_cons,List.map_nil,bR]
   refine Bu7 k n0 _ _ _ sl L bo (l.take i) a b l[i] (by omega) (hJ1.keep (by omega) kq) ra2 rb2 (by rw [List.length_take]; omega) fun hp3 nx3 hle3 hfr3 hJ3=>?_
   simp only [bSa,↓bSb,b0,b5,b6,b7,Aa3 (show i < _ by omega)]
   refine ⟨h,by omega,fun j hj=>?_,?_⟩
   ·rw [hfr3 j hj,kq j (by omega),hfr j hj]
   ·rw [← List.take_append_getElem h]
    exact hJ3
  ·have hil:i=l.length:=by omega
   subst hil
   rw [List.take_length] at hJ1
   simp only [bSa,↓bSb,b6,b7,Nat.lt_irrefl l.length]
   exact hK _ _ hle hfr hJ1
 ·exact ⟨Nat.le_refl _,fun _ _=>rfl,hJ,by simp only [bR,a0],by simp only [bR],by simp only [bR],by simp only [bR]; rfl⟩
theorem Bu8 (d:DV) (hd:d.okC=true∧d.cells=[d]) (hl:liveE hp d=d) (hK:∀ hp',hp'.get nx=some (.row 27 [d])→(∀ j,j≠nx→hp'.get j=hp.get j)→K (.fn (.func 161) [.tup [],.pt nx 0]) hp' (nx+1)):KW (kN (k+1)) (.fn 125) [d] hp nx K:=by
 refine kn_1 (Aa2 (by decide)) t125 (Nat.le_of_ble_eq_true rfl) fun es e1 e2 he=>?_
 have a0:rawE es (.t .o)=d:=he 0 _ rfl
 unfold r125
 subst e1 e2
 simp only [↓bSb]
 refine Bp2 (v:=d) (by simp only [evt,a0,hl]) hd fun hp1 hg1 hk1=>?_
 simp only [bR] at hg1 hk1
 simp only [bSa,↓bSb,bP]
 have e1:liveE hp1 (.pt es.nx 0)=.pt es.nx 0:=Ah8 fun id hid=>by
  have:id=es.nx:=by simpa [DV.refs] using hid
  rw [this,hg1]; rfl
 rw [e1]
 have e2:liveE hp1 (.fn (.func 161) [.tup [],.pt es.nx 0])=.fn (.func 161) [.tup [],.pt es.nx 0]:=Ah8 fun id hid=>by
  have:id=es.nx:=by simpa [DV.refs,DV.refsL] using hid
  rw [this,hg1]; rfl
 rw [e2]
 exact hK _ hg1 hk1
def itC (bx:Nat):DV:=.fn (.func 161) [.tup [],.pt bx 0]
theorem Cq3 {es1:ES} {Q:Exit→ES→Prop} (bo bx T T2:Nat) (d:DV) (l:List PCell) (hn:n0≤bo) (hb:es1.nx=bo+1) (hgb:es1.hp.get bo=some (.row T2 [nilS])) (hgx:es1.hp.get bx=some (.row T [d])) (hbx:bx < bo) (hd:RL rChange es1.hp (Bl n0) d l) (hl:l.length < 900000) (b2:rawE es1 (.t (.r .o))=.pt bo 0) (b6:rawE es1 (.t (.r (.r .o)))=itC bx)
  (hQ:∀ hp' nx' z T,es1.nx≤nx'→(∀ j,j < n0→hp'.get j=es1.hp.get j)→hp'.get bo=some (.row T [z])→OL rChange hp' (Bl n0) z l→(∀ j∈z.refs,n0≤j∧j < nx')→Q .normal ⟨es1.sl,hp',nx'⟩) :
  EW (cR 13 false (.t (.r (.r .o))) [7] Ar2 Ar3) (kN (k+2)) es1 Q:=by
 have hset:∀ (x:Option DObj) j,j≠bo+1→(es1.hp.set (bo+1) x).get j=es1.hp.get j:=fun x j hj=>by rw [Tr.get_set,if_neg (Ne.symm hj)]
 refine Cn8 (f:=161) (cs:=[.pt bx 0]) ?_ ?_
 ·rw [evt,b6]
  exact Ah8 fun id hid=>by
   have:id=bx:=by simpa [itC,DV.refs,DV.refsL] using hid
   rw [this,hgx]; rfl
 ·rw [hb]
  refine B20 k n0 _ _ _ es1.sl (bo+1) bo bx T d l (by omega) ((hset _ _ (by omega)).trans hgx) (hd.keep fun j (hj:j < n0)=>hset _ j (by omega)) hl ⟨nilS,T2,by rw [Tr.get_set,if_pos rfl],(hset _ _ (by omega)).trans hgb,.nil,fun j hj=>by (cases hj),by omega,by omega,hn,by omega,by omega,b2⟩ fun hp' nx' hle hfr ⟨z,T,g1,g2,g3,g4,g5,g6,g7,g8,g9,g10⟩=>?_
  have hs4:∀ j,j≠bo+1→(hp'.set (bo+1) none).get j=hp'.get j:=fun j hj=>by rw [Tr.get_set,if_neg (Ne.symm hj)]
  refine ⟨_,g1,by simp,.inl ⟨rfl,?_⟩⟩
  refine hQ _ _ z T (by omega) (fun j hj=>?_) ((hs4 _ (by omega)).trans g2) (g3.keep fun j hj=>hs4 j (hj.elim (fun (h:j < n0)=>by omega) fun h=>(g4 j h).2.2.1)) fun j hj=>⟨(g4 j hj).1,(g4 j hj).2.1⟩
  rw [hs4 j (by omega),hfr j hj,hset _ j (by omega)]
theorem Bu9 (bx T:Nat) (d:DV) (l:List PCell) (hn:n0≤nx) (hbx:hp.get bx=some (.row T [d])) (hb:bx < nx) (hd:RL rChange hp (Bl n0) d l) (hl:l.length < 900000)
  (hK:∀ hp' nx' z,nx≤nx'→(∀ j,j < n0→hp'.get j=hp.get j)→OL rChange hp' (Bl n0) z l→(∀ j∈z.refs,n0≤j∧j < nx')→K z hp' nx') :
  KW (kN (k+3)) (.fn 185) [nilS,itC bx] hp nx K:=by
 refine kn_1 (Aa2 (by decide)) t185 (Nat.le_of_ble_eq_true rfl) fun es e1 e2 he=>?_
 have a0:rawE es (.t .o)=nilS:=he 0 _ rfl
 have a1:rawE es (.t (.l .o))=itC bx:=he 1 _ rfl
 unfold r185
 subst e1 e2
 simp only [↓bSb]
 refine Bp2 (v:=nilS) (by simp only [evt,a0]; rfl) ⟨rfl,rfl⟩ fun hp1 hg1 hk1=>?_
 simp only [bR] at hg1 hk1
 simp only [bSa,↓bSb,a1]
 refine Cq3 k n0 es.nx bx T _ d l hn rfl hg1 ((hk1 bx (by omega)).trans hbx) hb (hd.keep fun j (hj:j < n0)=>hk1 j (by omega)) hl (by simp only [bR]) (by simp only [bR]) fun hp4 nx4 z T hnx4 hfr4 hgb4 hr4 hz4=>?_
 simp only [bSa,↓bSb,bP,Ah9 hgb4,hr4.rl.live]
 exact hK _ _ z (by simp only [] at hnx4; omega) (fun j hj=>by rw [hfr4 j hj]; simp only []; exact hk1 j (by omega)) hr4 hz4
theorem Bj2 (bx T:Nat) (d:DV) (l:List PCell) (hn:n0≤nx) (hbx:hp.get bx=some (.row T [d])) (hb:bx < nx) (hd:RL rChange hp (Bl n0) d l) (hl:l.length < 900000)
  (hK:∀ hp' nx' z,nx≤nx'→(∀ j,j < n0→hp'.get j=hp.get j)→OL rChange hp' (Bl n0) z l→(∀ j∈z.refs,n0≤j∧j < nx')→K z hp' nx') :
  KW (kN (k+4)) (.fn 159) [itC bx] hp nx K:=by
 refine kn_1 (Aa2 (by decide)) t159 (Nat.le_of_ble_eq_true rfl) fun es e1 e2 he=>?_
 have a0:rawE es (.t .o)=itC bx:=he 0 _ rfl
 unfold r159
 subst e1 e2
 simp only [bSa,↓bSb,a0]
 refine kws (Bu9 k n0 _ _ _ bx T d l hn hbx hb hd hl fun hp4 nx4 z hnx4 hfr4 hr4 hz4=>?_)
 simp only [bSa,↓bSb,bP,hr4.rl.live]
 exact hK _ _ z hnx4 hfr4 hr4 hz4
end
end Go.DD

/- Contracts: SortFunc, SortedFunc over changes. Conditions: those that each theorem states. -/
namespace Go.DD
open Go Go.Proofs Go.Sort
theorem A90 {d d':Array PCell} (hP:PermIn 0 d.size d d') (hS:SortedIn ltC 0 d.size d'):d'.toList.Perm d.toList∧d'.toList.Pairwise (fun x y=>ltC y x=false):=by
 obtain ⟨h1,_,h3⟩:=hP
 have e:d.extract 0 d.size=d:=by simp
 have e':d'.extract 0 d.size=d':=by rw [← h1]; simp
 rw [e,e'] at h3
 refine ⟨h3,List.pairwise_iff_getElem.2 fun i j hi hj hij=>?_⟩
 have hi':i < d'.size:=by simpa using hi
 have hj':j < d'.size:=by simpa using hj
 have:=hS i j (Nat.zero_le _) hij (by omega)
 rw [getElem!_pos d' i hi',getElem!_pos d' j hj'] at this
 simpa using this
section
variable (k n0:Nat) (hp:Tr DObj) (nx:Nat) (K:DV→Tr DObj→Nat→Prop)
theorem Ci1 (hK:∀ nx',nx≤nx'→K (.tup []) hp nx'):KW (kN (k+1)) (.fn 203) [nilS,iv 0,iv 0,cmpC] hp nx K:=by
 refine kn_0 (Aa2 (by decide)) t203 (Nat.le_of_ble_eq_true rfl) fun es e1 e2 he=>?_
 have a0:rawE es (.t .o)=nilS:=he 0 _ rfl
 have a1:rawE es (.t (.l .o))=iv 0:=he 1 _ rfl
 have a2:rawE es (.t (.r .o))=iv 0:=he 2 _ rfl
 have a3:rawE es (.t (.l (.l .o)))=cmpC:=he 3 _ rfl
 unfold r203
 subst e1 e2
 have e01:binD .add (iv 0) (.v (.int .i64 1))=some (iv 1):=rfl
 simp only [bSa,↓bSb,a1,e01]
 refine EW.l (I:=fun _ es1=>es1.hp=es.hp∧es.nx≤es1.nx∧rawE es1 (.t (.r .o))=iv 0∧rawE es1 (.t (.r (.l (.l .o))))=iv 1) ?_ 0 1000000 _ ⟨rfl,Nat.le_refl _,by simp only [bR,a2],by simp only [bR]⟩ (by omega)
 rintro m es1 ⟨h1,h2,b2,b8⟩
 unfold Bs8
 simp only [bSa,↓bSb,b2,b8,show decide ((1:Int) < 0)=false from rfl]
 rw [h1]
 exact hK _ h2
theorem Ci2 (l:Nat) (hK:∀ nx',nx≤nx'→K (.tup []) hp nx'):KW (kN (k+2)) (.fn 186) [nilS,iv 0,iv 0,iv l,cmpC] hp nx K:=by
 refine kn_0 (Aa2 (by decide)) t186 (Nat.le_of_ble_eq_true rfl) fun es e1 e2 he=>?_
 have a0:rawE es (.t .o)=nilS:=he 0 _ rfl
 have a1:rawE es (.t (.l .o))=iv 0:=he 1 _ rfl
 have a2:rawE es (.t (.r .o))=iv 0:=he 2 _ rfl
 have a3:rawE es (.t (.l (.l .o)))=iv l:=he 3 _ rfl
 have a4:rawE es (.t (.r (.l .o)))=cmpC:=he 4 _ rfl
 unfold r186
 subst e1 e2
 simp only [bSa,↓bSb]
 refine EW.l (I:=fun _ es1=>es1.hp=es.hp∧es.nx≤es1.nx∧rawE es1 (.t .o)=nilS∧rawE es1 (.t (.l .o))=iv 0∧rawE es1 (.t (.r .o))=iv 0∧rawE es1 (.t (.r (.l .o)))=cmpC) ?_ 0 1000000 _ ⟨rfl,Nat.le_refl _,by simp only [bR,a0],by simp only [bR,a1],by simp only [bR,a2],by simp only [bR,a4]⟩ (by omega)
 rintro m es1 ⟨h1,h2,b0,b1,b2,b4⟩
 unfold Bs7
 have e00:binD .sub (iv 0) (iv 0)=some (iv 0):=rfl
 simp only [bSa,↓bSb,b0,b1,b2,b4,e00,show decide ((0:Int)≤12)=true from rfl]
 refine kws (Ci1 k _ _ _ fun nx' hle=>?_)
 simp only [bSa,↓bSb]
 rw [h1]
 exact hK _ (by omega)
theorem Ci3 (id n:Nat) (d:Array PCell) (hn:n0≤nx) (hs:SR hp n0 id n d) (hz:d.size < 256)
  (hK:∀ hp' nx' d',Fr hp nx id hp' nx'→SR hp' n0 id n d'→d'.toList.Perm d.toList→d'.toList.Pairwise (fun x y=>ltC y x=false)→K (.tup []) hp' nx'):KW (kN (k+16)) (.fn 160) [.ms id 0 n 2,cmpC] hp nx K:=by
 refine kn_0 (Aa2 (by decide)) t160 (Nat.le_of_ble_eq_true rfl) fun es e1 e2 he=>?_
 have a0:rawE es (.t .o)=.ms id 0 n 2:=he 0 _ rfl
 have a1:rawE es (.t (.l .o))=cmpC:=he 1 _ rfl
 unfold r160
 subst e1 e2
 have hne:=hs.n
 have h9:=Ax9 (x:=n) (by omega)
 have hln:d.toList.length=n:=by rw [hne]; simp
 have hnl:=hs.s
 simp only [bSa,↓bSb,bP,a0,hs.rl.len,hln,A26 (k:=.i64) (show n < _ by omega)]
 refine kws (Bu4 (k+13) _ _ _ n (by omega) ?_)
 simp only [bSa,↓bSb,a1]
 refine kws (Cb6 k n0 id n 5 256 _ _ _ 0 n (bitsLen n) d (by decide) hn hs (by omega) (by omega) (by omega) (.inl rfl) (by omega) hz fun hp' nx' d' g1 hs1 hP hS=>?_)
 rw [hne] at hP hS
 obtain ⟨p1,p2⟩:=A90 hP hS
 simp only [bSa,↓bSb]
 exact hK _ _ d' g1 hs1 p1 p2
theorem B21 (hK:∀ nx',nx≤nx'→K (.tup []) hp nx'):KW (kN (k+16)) (.fn 160) [nilS,cmpC] hp nx K:=by
 refine kn_0 (Aa2 (by decide)) t160 (Nat.le_of_ble_eq_true rfl) fun es e1 e2 he=>?_
 have a0:rawE es (.t .o)=nilS:=he 0 _ rfl
 have a1:rawE es (.t (.l .o))=cmpC:=he 1 _ rfl
 unfold r160
 subst e1 e2
 have h0:∀ hp,lenD hp nilS=some (iv ((0:Nat):Int)):=fun _=>rfl
 have hc:cviE .u64 (.v (.int .i64 0))=some (.v (.int .u64 ((0:Nat):Int))):=rfl
 simp only [bSa,↓bSb,bP,a0,h0,hc]
 refine kws (Bu4 (k+13) _ _ _ 0 (by omega) ?_)
 simp only [bSa,↓bSb,a1]
 refine kws (Ci2 (k+13) _ _ _ (bitsLen 0) fun nx' hle=>?_)
 simp only [bSa,↓bSb]
 exact hK _ hle
def SrtC (l m:List PCell):Prop:=m.Perm l∧m.Pairwise (fun x y=>ltC y x=false)
theorem Bj3 (bx T:Nat) (d:DV) (l:List PCell) (hn:n0≤nx) (hbx:hp.get bx=some (.row T [d])) (hb:bx < nx) (hd:RL rChange hp (Bl n0) d l) (hl:l.length < 256) (hbp:∀ c∈l,c.pos.length < 900000)
  (hK:∀ hp' nx' z m,nx≤nx'→(∀ j,j < n0→hp'.get j=hp.get j)→RL rChange hp' (Bl nx') z m→SrtC l m→K z hp' nx') :
  KW (kN (k+17)) (.fn 124) [itC bx,cmpC] hp nx K:=by
 refine kn_1 (Aa2 (by decide)) t124 (Nat.le_of_ble_eq_true rfl) fun es e1 e2 he=>?_
 have a0:rawE es (.t .o)=itC bx:=he 0 _ rfl
 have a1:rawE es (.t (.l .o))=cmpC:=he 1 _ rfl
 unfold r124
 subst e1 e2
 simp only [bSa,↓bSb,a0]
 refine kws (Bj2 (k+12) n0 _ _ _ bx T d l hn hbx hb hd (by omega) fun hp4 nx4 z hnx4 hfr4 hr4 hz4=>?_)
 simp only [bSa,↓bSb,a1]
 cases hr4 with
 | nil=>
  refine kws (B21 k _ _ _ fun nx5 hle5=>?_)
  simp only [bSa,↓bSb,bP]
  exact hK _ _ _ [] (by omega) hfr4 .nil ⟨.refl _,.nil⟩
 | ms id fl l h hr=>
  have hid:=hz4 id (by simp [DV.refs])
  have hs:SR hp4 nx4 id l.length l.toArray:=⟨(OL.ms id fl l h hr).mono fun j (hj:j < n0)=>⟨by omega,by omega⟩,hid.2,by simpa using hbp,by simpa using (show l.length < 100000 by omega)⟩
  refine kws (Ci3 k nx4 _ _ _ id l.length l.toArray (Nat.le_refl _) hs (by simpa using hl) fun hp5 nx5 d5 g5 hs5 p1 p2=>?_)
  have hr5:RL rChange hp5 (Bl nx5) (.ms id 0 l.length 2) d5.toList:=hs5.rl.mono fun j (hj:j < nx4)=>by
   have:=g5.le
   show j < nx5
   omega
  simp only [bSa,↓bSb,bP]
  show K (liveE hp5 (.ms id 0 l.length 2)) hp5 nx5
  rw [hr5.live]
  exact hK _ _ _ d5.toList (by have:=g5.le; omega) (fun j hj=>by rw [g5.fr j (by omega) (by omega),hfr4 j hj]) hr5 ⟨by simpa using p1,p2⟩
end
end Go.DD

/- Contracts: the inner loops of checked. Conditions: those that each theorem states. -/
namespace Go.DD
open Go Go.Proofs Go.Sort
section
variable (k n0:Nat)
structure CK (hp:Tr DObj) (nx B C:Nat) (v1 v14 v15 v16:DV) (es:ES):Prop where
 g:Al hp nx es.hp es.nx
 b1:rawE es (.t (.l .o))=v1
 b2:rawE es (.t (.r .o))=.pt B 0
 b7:rawE es (.t (.l (.l (.l .o))))=.pt C 0
 b14:rawE es (.t (.r (.r (.r .o))))=v14
 b15:rawE es (.t (.l (.l (.l (.l .o)))))=v15
 b16:rawE es (.t (.r (.l (.l (.l .o)))))=v16
theorem Cb7 {es:ES} {Q:Exit→ES→Prop} {hp:Tr DObj} {nx B C TC:Nat} {v1 v14 v15 v16 d x y:DV} {l:List PDim} {c:PCell} (hn:n0≤nx) (hc:CK hp nx B C v1 v14 v15 v16 es) (hC:hp.get C=some (.row TC [x,y])) (hCl:C < nx) (h1:RL rDim hp (Bl n0) d l) (h3:RL rInt hp (Bl n0) x c.pos) (hlen:c.pos.length=l.length) (hl:l.length < 900000) (b43:rawE es (.t (.l (.l (.r (.r (.l .o))))))=d) (b44:rawE es (.t (.r (.l (.r (.r (.l .o))))))=iv l.length) (b45:rawE es (.t (.l (.r (.r (.r (.l .o))))))=iv (0:Nat))
  (hQ:ofF l c.pos=true→∀ es',CK hp nx B C v1 v14 v15 v16 es'→Q (.exit 2) es')
  (hR:ofF l c.pos=false→∀ es',Al hp nx es'.hp es'.nx→rawE es' (.t (.r (.l .o)))=nilS→rawE es' (.t (.l (.r .o)))=iv 3→Q .ret es') :
  EW (cL 1000000 l58_1) (kN (k+6)) es Q:=by
 refine EW.up l.length (fun i es1=>CK hp nx B C v1 v14 v15 v16 es1∧ofF l c.pos=ofF (l.drop i) (c.pos.drop i)∧rawE es1 (.t (.l (.l (.r (.r (.l .o))))))=d∧rawE es1 (.t (.r (.l (.r (.r (.l .o))))))=iv l.length∧rawE es1 (.t (.l (.r (.r (.r (.l .o))))))=iv (i:Nat)) ?_ ⟨hc,rfl,b43,b44,b45⟩ (by omega)
 rintro i es1 hi ⟨⟨g,b1,b2,b7,b14,b15,b16⟩,hof,b43,b44,b45⟩
 unfold l58_1
 have hle:=g.le
 by_cases h:i < l.length
 ·have h':i < c.pos.length:=by omega
  rw [ofF_s h h'] at hof
  have r1:=h1.ka hn g
  simp only [bSa,↓bSb,b43,b44,b45,h,Ad8 r1 h,(Ad1 r1 h).1]
  refine Ac5 fun hp1 hg1 hk1=>?_
  simp only [bR] at hg1 hk1
  simp only [bSa,↓bSb]
  refine Ac0 (n:=3) (id:=es1.nx) (ds:=dc l[i]) (by simp only [bR]) hg1 (by simp only [evt,bR,reduceCtorEq]; exact Ab6 rfl) rfl rfl fun hp2 hg2 hk2=>?_
  simp only [bR] at hg2 hk2
  have g2:Al hp nx hp2 (es1.nx+1):=⟨by omega,fun j hj=>by rw [hk2 j (by omega),hk1 j (by omega),g.same j hj]⟩
  have r3:=h3.ka hn g2
  have hC2:=(g2.same C hCl).trans hC
  obtain ⟨⟨f0,f1⟩,l0,l1,_⟩:=Ac6 hC2
  obtain ⟨⟨q0,q1,q2⟩,m0,m1,m2⟩:=dc_fa hg2
  by_cases c1:c.pos[i] < l[i].lo
  ·rw [if_pos (.inl c1)] at hof
   simp only [bSa,↓bSb,b7,f0,l0,q1,m1,Ad5 r3 h',ints_at r3 h',decide_eq_true c1,r3.rox (m:=19) (show n0≤es1.nx+1 by omega),Ac2 (m:=19) r3 (show n0≤es1.nx+1 by omega),Aa1 (n0:=es1.nx+1) (m:=19) hC2 (show C < es1.nx+1 by omega),Aa1 (n0:=es1.nx+1) (m:=19) hg2 (show es1.nx < es1.nx+1 by omega)]
   exact hR hof _ (by simpa only [bR] using g2.nx (show es1.nx+1≤es1.nx+1+19 by omega)) (by simp only [bR]; rfl) (by simp only [bR])
  ·by_cases c2:lastC l[i] < c.pos[i]
   ·rw [if_pos (.inr c2)] at hof
    simp only [bSa,↓bSb,bP,b7,f0,l0,q1,m1,q2,m2,Ad5 r3 h',ints_at r3 h',At7,decide_eq_false c1,show decide (min l[i].hi 1073741824 < c.pos[i])=true from decide_eq_true c2,r3.rox (m:=19) (show n0≤es1.nx+1 by omega),Ac2 (m:=19) r3 (show n0≤es1.nx+1 by omega),Aa1 (n0:=es1.nx+1) (m:=19) hC2 (show C < es1.nx+1 by omega),Aa1 (n0:=es1.nx+1) (m:=19) hg2 (show es1.nx < es1.nx+1 by omega)]
    exact hR hof _ (by simpa only [bR] using g2.nx (show es1.nx+1≤es1.nx+1+19 by omega)) (by simp only [bR]; rfl) (by simp only [bR])
   ·rw [if_neg (by omega)] at hof
    simp only [bSa,↓bSb,bP,b7,f0,l0,q1,m1,q2,m2,Ad5 r3 h',ints_at r3 h',At7,decide_eq_false c1,show decide (min l[i].hi 1073741824 < c.pos[i])=false from decide_eq_false c2,r3.rox (m:=19) (show n0≤es1.nx+1 by omega),Ac2 (m:=19) r3 (show n0≤es1.nx+1 by omega),Aa1 (n0:=es1.nx+1) (m:=19) hC2 (show C < es1.nx+1 by omega),Aa1 (n0:=es1.nx+1) (m:=19) hg2 (show es1.nx < es1.nx+1 by omega),b43,b44,b45,h,Aa3 (show i < _ by omega)]
    exact ⟨⟨by simpa only [bR] using g2.nx (show es1.nx+1≤es1.nx+1+19 by omega),by simp only [bR,b1],by simp only [bR,b2],by simp only [bR,b7],by simp only [bR,b14],by simp only [bR,b15],by simp only [bR,b16]⟩,hof⟩
 ·rw [ofF_e (by omega)] at hof
  simp only [bSa,↓bSb,b44,b45,h]
  exact hQ hof _ ⟨by simpa only [bR] using g,by simp only [bR,b1],by simp only [bR,b2],by simp only [bR,b7],by simp only [bR,b14],by simp only [bR,b15],by simp only [bR,b16]⟩
theorem Cb8 {es:ES} {Q:Exit→ES→Prop} {hp:Tr DObj} {nx B C TB:Nat} {v1 v14 v15 v16 d a cc y:DV} {m:List PAttr} {c:PCell} (hn:n0≤nx) (hc:CK hp nx B C v1 v14 v15 v16 es) (hB:hp.get B=some (.row TB [d,a,cc])) (hBl:B < nx) (h2:RL rAttr hp (Bl n0) a m) (h4:RL rVal hp (Bl n0) y c.vals) (hlen:c.vals.length≤m.length) (hl:m.length < 900000) (hsl:∀ v∈c.vals,slen v) (b71:rawE es (.t (.l (.l (.l (.r (.l (.l .o)))))))=y) (b72:rawE es (.t (.r (.l (.l (.r (.l (.l .o)))))))=iv c.vals.length) (b73:rawE es (.t (.l (.r (.l (.r (.l (.l .o)))))))=iv (0:Nat))
  (hQ:fitsL c.vals m=true→∀ es',CK hp nx B C v1 v14 v15 v16 es'→Q (.exit 4) es')
  (hR:fitsL c.vals m=false→∀ es',Al hp nx es'.hp es'.nx→rawE es' (.t (.r (.l .o)))=nilS→rawE es' (.t (.l (.r .o)))=iv 12→Q .ret es') :
  EW (cL 1000000 l58_2) (kN (k+6)) es Q:=by
 refine EW.up c.vals.length (fun i es1=>CK hp nx B C v1 v14 v15 v16 es1∧fitsL c.vals m=fitsL (c.vals.drop i) (m.drop i)∧rawE es1 (.t (.l (.l (.l (.r (.l (.l .o)))))))=y∧rawE es1 (.t (.r (.l (.l (.r (.l (.l .o)))))))=iv c.vals.length∧rawE es1 (.t (.l (.r (.l (.r (.l (.l .o)))))))=iv (i:Nat)) ?_ ⟨hc,rfl,b71,b72,b73⟩ (by omega)
 rintro i es1 hi ⟨⟨g,b1,b2,b7,b14,b15,b16⟩,hof,b71,b72,b73⟩
 unfold l58_2
 have hle:=g.le
 by_cases h:i < c.vals.length
 ·have h':i < m.length:=by omega
  rw [A86 h h'] at hof
  have w4:=h4.ka hn g
  simp only [bSa,↓bSb,b71,b72,b73,h,An0 w4 h,Ao5 w4 h]
  refine Ac5 fun hp1 hg1 hk1=>?_
  simp only [bR] at hg1 hk1
  simp only [bSa,↓bSb]
  refine Ac0 (n:=4) (id:=es1.nx) (ds:=vc c.vals[i]) (by simp only [bR]) hg1 (by simp only [evt,bR,reduceCtorEq]; exact Ab6 rfl) rfl rfl fun hp2 hg2 hk2=>?_
  simp only [bR] at hg2 hk2
  have g2:Al hp nx hp2 (es1.nx+1):=⟨by omega,fun j hj=>by rw [hk2 j (by omega),hk1 j (by omega),g.same j hj]⟩
  have w2:=h2.ka hn g2
  have hB2:=(g2.same B hBl).trans hB
  obtain ⟨⟨f0,f1,f2⟩,l0,l1,l2,_⟩:=Aa4 hB2
  obtain ⟨_,_,_,_,_,t4⟩:=vc_fa hg2
  simp only [bSa,↓bSb,b2,f1,l1,t4,Ae6 w2 h',Ai4 (k:=1) w2 h',(Ae5 w2 h').2.2.2,w2.rox (m:=9) (show n0≤es1.nx+1 by omega),Aj2 (m:=9) w2 (show n0≤es1.nx+1 by omega),Aw7 (m:=9) w2 (show n0≤es1.nx+1 by omega),Aa1 (n0:=es1.nx+1) (m:=9) hg2 (show es1.nx < es1.nx+1 by omega),Aa1 (n0:=es1.nx+1) (m:=9) hB2 (show B < es1.nx+1 by omega),An8 (show DV.refsL (vc c.vals[i])=[] from rfl)]
  refine Aa0 rfl (Aa7 ?_)
  simp only [bR,List.map_cons,List.map_nil]
  refine Bq4 (k:=k+1) _ _ _ c.vals[i] m[i].type (hsl _ (List.getElem_mem h)) fun hp5 nx5 hal5=>?_
  have hle5:=hal5.le
  have g5:=(g2.nx (by omega:es1.nx+1≤es1.nx+1+9)).trans hal5
  cases c4:fitsV c.vals[i] m[i].type with
  | false=>
   rw [if_pos c4] at hof
   simp only [bSa,↓bSb,hle5]
   exact hR hof _ (by simpa only [bR] using g5) (by simp only [bR]; rfl) (by simp only [bR])
  | true=>
   rw [if_neg (by rw [c4]; simp)] at hof
   simp only [bSa,↓bSb,b71,b72,b73,h,hle5,Aa3 (show i < _ by omega)]
   exact ⟨⟨by simpa only [bR] using g5,by simp only [bR,b1],by simp only [bR,b2],by simp only [bR,b7],by simp only [bR,b14],by simp only [bR,b15],by simp only [bR,b16]⟩,hof⟩
 ·rw [A87 (by omega)] at hof
  simp only [bSa,↓bSb,b72,b73,h]
  exact hQ hof _ ⟨by simpa only [bR] using g,by simp only [bR,b1],by simp only [bR,b2],by simp only [bR,b7],by simp only [bR,b14],by simp only [bR,b15],by simp only [bR,b16]⟩
end
end Go.DD

/- Contracts: the outer loop of checked. Conditions: those that each theorem states. -/
namespace Go.DD
open Go Go.Proofs Go.Sort
def chgE (d:List PDim) (a:List PAttr) (c:PCell):Int:=if c.pos.length≠d.length∨(c.vals.length≠0∧c.vals.length≠a.length) then 13 else if ofF d c.pos=false then 3 else if fitsL c.vals a=false then 12 else 0
def chgsE (d:List PDim) (a:List PAttr):List PCell→Int
 | []=>0
 | c :: l=>if chgE d a c≠0 then chgE d a c else chgsE d a l
theorem Bv0 {d:List PDim} {a:List PAttr} {l:List PCell} {i:Nat} (h:i < l.length):chgsE d a (l.drop i)=if chgE d a l[i]≠0 then chgE d a l[i] else chgsE d a (l.drop (i+1)):=by
 rw [List.drop_eq_getElem_cons h]; rfl
section
variable (k n0:Nat)
theorem Cq4 {es:ES} {Q:Exit→ES→Prop} {hp:Tr DObj} {nx B TB:Nat} {ls d a cc:DV} {l:List PCell} {D:List PDim} {A:List PAttr} (hn:n0≤nx) (hB:hp.get B=some (.row TB [d,a,cc])) (hBl:B < nx) (hL:RL rChange hp (Bl n0) ls l) (h1:RL rDim hp (Bl n0) d D) (h2:RL rAttr hp (Bl n0) a A) (hl:l.length < 900000) (hD:D.length < 900000) (hA:A.length < 900000) (hc:∀ c∈l,∀ v∈c.vals,slen v)
  (g:Al hp nx es.hp es.nx) (b1:rawE es (.t (.l .o))=ls) (b2:rawE es (.t (.r .o))=.pt B 0) (b14:rawE es (.t (.r (.r (.r .o))))=ls) (b15:rawE es (.t (.l (.l (.l (.l .o)))))=iv l.length) (b16:rawE es (.t (.r (.l (.l (.l .o)))))=iv (0:Nat))
  (hQ:chgsE D A l=0→∀ es',Al hp nx es'.hp es'.nx→rawE es' (.t (.l .o))=ls→Q (.exit 0) es')
  (hR:chgsE D A l≠0→∀ es',Al hp nx es'.hp es'.nx→rawE es' (.t (.r (.l .o)))=nilS→rawE es' (.t (.l (.r .o)))=iv (chgsE D A l)→Q .ret es') :
  EW (cL 1000000 l58_3) (kN (k+6)) es Q:=by
 refine EW.up l.length (fun i es1=>Al hp nx es1.hp es1.nx∧chgsE D A l=chgsE D A (l.drop i)∧rawE es1 (.t (.l .o))=ls∧rawE es1 (.t (.r .o))=.pt B 0∧rawE es1 (.t (.r (.r (.r .o))))=ls∧rawE es1 (.t (.l (.l (.l (.l .o)))))=iv l.length∧rawE es1 (.t (.r (.l (.l (.l .o)))))=iv (i:Nat)) ?_ ⟨g,rfl,b1,b2,b14,b15,b16⟩ (by omega)
 rintro i es1 hi ⟨g,hof,b1,b2,b14,b15,b16⟩
 unfold l58_3
 have hle:=g.le
 by_cases h:i < l.length
 ·rw [Bv0 h] at hof
  have hcv:=hc _ (List.getElem_mem h)
  have r:=hL.ka hn g
  obtain ⟨x,y,rx,ry,lC,_,_⟩:=Ao0 r h
  simp only [bSa,↓bSb,b14,b15,b16,h,Ad6 r h,lC]
  refine Ac5 fun hp1 hg1 hk1=>?_
  simp only [bR] at hg1 hk1
  have rx1:=rx.keep (hp':=hp1) fun j (hj:j < n0)=>hk1 j (by omega)
  have ry1:=ry.keep (hp':=hp1) fun j (hj:j < n0)=>hk1 j (by omega)
  simp only [bSa,↓bSb]
  refine Ac0 (n:=2) (id:=es1.nx) (ds:=[x,y]) (by simp only [bR]) hg1 (by simp only [evt,bR,reduceCtorEq]; exact Aa5 rx1 ry1) rfl rfl fun hp2 hg2 hk2=>?_
  simp only [bR] at hg2 hk2
  have g2:Al hp nx hp2 (es1.nx+1):=⟨by omega,fun j hj=>by rw [hk2 j (by omega),hk1 j (by omega),g.same j hj]⟩
  have rx2:=rx1.keep (hp':=hp2) fun j (hj:j < n0)=>hk2 j (by omega)
  have ry2:=ry1.keep (hp':=hp2) fun j (hj:j < n0)=>hk2 j (by omega)
  have r1:=h1.ka hn g2
  have r2:=h2.ka hn g2
  have hB2:=(g2.same B hBl).trans hB
  obtain ⟨⟨F0,F1,F2⟩,L0,L1,L2,_⟩:=Aa4 hB2
  obtain ⟨⟨f0,f1⟩,l0,l1,_⟩:=Ac6 hg2
  generalize l[i]=c at rx2 ry2 hof hcv rx1 ry1 rx ry
  by_cases c1:c.pos.length=D.length
  ·by_cases c2:c.vals.length=0
   ·have sh:¬ (c.pos.length≠D.length∨(c.vals.length≠0∧c.vals.length≠A.length)):=by omega
    simp only [bSa,↓bSb,b2,F0,L0,f0,f1,l0,l1,r1.len,rx2.len,ry2.len,show decide (¬ c.pos.length=D.length)=false by simp [c1],show decide (¬ ((c.vals.length:Int)=0))=false by simp [c2]]
    refine Cb7 k n0 (hp:=hp2) (nx:=es1.nx+1) (B:=B) (C:=es1.nx) (v1:=ls) (v14:=ls) (v15:=iv l.length) (v16:=iv (i:Nat)) (d:=d) (x:=x) (y:=y) (l:=D) (c:=c) (by omega) ⟨by simpa only [bR] using Al.refl _ _,by simp only [bR,b1],by simp only [bR,b2],by simp only [bR],by simp only [bR,b14],by simp only [bR,b15],by simp only [bR,b16]⟩ hg2 (by omega) r1 rx2 c1 hD (by simp only [bR]) (by simp only [bR]) (by simp only [bR]; rfl) (fun ho es3 ck3=>?_) fun ho es3 g3 q4 q5=>?_
    ·obtain ⟨g3,x1,x2,x7,x14,x15,x16⟩:=ck3
     have hle3:=g3.le
     have hC3:=(g3.same es1.nx (by omega)).trans hg2
     obtain ⟨⟨p0,p1⟩,m0,m1,_⟩:=Ac6 hC3
     have ry3:=ry2.ka (by omega) g3
     simp only [bSa,↓bSb,x7,p1,m1,ry3.len]
     refine Cb8 k n0 (hp:=hp2) (nx:=es1.nx+1) (B:=B) (C:=es1.nx) (v1:=ls) (v14:=ls) (v15:=iv l.length) (v16:=iv (i:Nat)) (d:=d) (a:=a) (cc:=cc) (y:=y) (m:=A) (c:=c) (by omega) ⟨by simpa only [bR] using g3,by simp only [bR,x1],by simp only [bR,x2],by simp only [bR,x7],by simp only [bR,x14],by simp only [bR,x15],by simp only [bR,x16]⟩ hB2 (by omega) r2 ry2 (by omega) hA hcv (by simp only [bR]) (by simp only [bR]) (by simp only [bR]; rfl) (fun hf es4 ck4=>?_) fun hf es4 g4 q4 q5=>?_
     ·obtain ⟨g4,x1,x2,x7,x14,x15,x16⟩:=ck4
      have ce:chgE D A c=0:=by unfold chgE; rw [if_neg sh,if_neg (by rw [ho]; decide),if_neg (by rw [hf]; decide)]
      rw [ce,if_neg (by decide)] at hof
      simp only [bSa,↓bSb,x1,x2,x14,x15,x16,h,Aa3 (show i < _ by omega)]
      exact ⟨g2.trans g4,hof⟩
     ·have ce:chgE D A c=12:=by unfold chgE; rw [if_neg sh,if_neg (by rw [ho]; decide),if_pos hf]
      rw [ce,if_pos (by decide)] at hof
      simp only [↓bSb]
      exact hR (by rw [hof]; decide) _ (g2.trans g4) q4 (by rw [q5,hof])
    ·have ce:chgE D A c=3:=by unfold chgE; rw [if_neg sh,if_pos ho]
     rw [ce,if_pos (by decide)] at hof
     simp only [↓bSb]
     exact hR (by rw [hof]; decide) _ (g2.trans g3) q4 (by rw [q5,hof])
   ·by_cases c3:c.vals.length=A.length
    ·have sh:¬ (c.pos.length≠D.length∨(c.vals.length≠0∧c.vals.length≠A.length)):=by omega
     simp only [bSa,↓bSb,b2,F0,F1,L0,L1,f0,f1,l0,l1,r1.len,r2.len,rx2.len,ry2.len,show decide (¬ c.pos.length=D.length)=false by simp [c1],show decide (¬ ((c.vals.length:Int)=0))=true by simp [c2],show decide (¬ c.vals.length=A.length)=false by simp [c3]]
     refine Cb7 k n0 (hp:=hp2) (nx:=es1.nx+1) (B:=B) (C:=es1.nx) (v1:=ls) (v14:=ls) (v15:=iv l.length) (v16:=iv (i:Nat)) (d:=d) (x:=x) (y:=y) (l:=D) (c:=c) (by omega) ⟨by simpa only [bR] using Al.refl _ _,by simp only [bR,b1],by simp only [bR,b2],by simp only [bR],by simp only [bR,b14],by simp only [bR,b15],by simp only [bR,b16]⟩ hg2 (by omega) r1 rx2 c1 hD (by simp only [bR]) (by simp only [bR]) (by simp only [bR]; rfl) (fun ho es3 ck3=>?_) fun ho es3 g3 q4 q5=>?_
     ·obtain ⟨g3,x1,x2,x7,x14,x15,x16⟩:=ck3
      have hle3:=g3.le
      have hC3:=(g3.same es1.nx (by omega)).trans hg2
      obtain ⟨⟨p0,p1⟩,m0,m1,_⟩:=Ac6 hC3
      have ry3:=ry2.ka (by omega) g3
      simp only [bSa,↓bSb,x7,p1,m1,ry3.len]
      refine Cb8 k n0 (hp:=hp2) (nx:=es1.nx+1) (B:=B) (C:=es1.nx) (v1:=ls) (v14:=ls) (v15:=iv l.length) (v16:=iv (i:Nat)) (d:=d) (a:=a) (cc:=cc) (y:=y) (m:=A) (c:=c) (by omega) ⟨by simpa only [bR] using g3,by simp only [bR,x1],by simp only [bR,x2],by simp only [bR,x7],by simp only [bR,x14],by simp only [bR,x15],by simp only [bR,x16]⟩ hB2 (by omega) r2 ry2 (by omega) hA hcv (by simp only [bR]) (by simp only [bR]) (by simp only [bR]; rfl) (fun hf es4 ck4=>?_) fun hf es4 g4 q4 q5=>?_
      ·obtain ⟨g4,x1,x2,x7,x14,x15,x16⟩:=ck4
       have ce:chgE D A c=0:=by unfold chgE; rw [if_neg sh,if_neg (by rw [ho]; decide),if_neg (by rw [hf]; decide)]
       rw [ce,if_neg (by decide)] at hof
       simp only [bSa,↓bSb,x1,x2,x14,x15,x16,h,Aa3 (show i < _ by omega)]
       exact ⟨g2.trans g4,hof⟩
      ·have ce:chgE D A c=12:=by unfold chgE; rw [if_neg sh,if_neg (by rw [ho]; decide),if_pos hf]
       rw [ce,if_pos (by decide)] at hof
       simp only [↓bSb]
       exact hR (by rw [hof]; decide) _ (g2.trans g4) q4 (by rw [q5,hof])
     ·have ce:chgE D A c=3:=by unfold chgE; rw [if_neg sh,if_pos ho]
      rw [ce,if_pos (by decide)] at hof
      simp only [↓bSb]
      exact hR (by rw [hof]; decide) _ (g2.trans g3) q4 (by rw [q5,hof])
    ·have ce:chgE D A c=13:=by unfold chgE; rw [if_pos (.inr ⟨c2,c3⟩)]
     rw [ce,if_pos (by decide)] at hof
     simp only [bSa,↓bSb,b2,F0,F1,L0,L1,f0,f1,l0,l1,r1.len,r2.len,rx2.len,ry2.len,show decide (¬ c.pos.length=D.length)=false by simp [c1],show decide (¬ ((c.vals.length:Int)=0))=true by simp [c2],show decide (¬ c.vals.length=A.length)=true by simp [c3]]
     exact hR (by rw [hof]; decide) _ (by simpa only [bR] using g2) (by simp only [bR]; rfl) (by simp only [bR]; rw [hof])
  ·have ce:chgE D A c=13:=by unfold chgE; rw [if_pos (.inl c1)]
   rw [ce,if_pos (by decide)] at hof
   simp only [bSa,↓bSb,b2,F0,L0,f0,l0,r1.len,rx2.len,show decide (¬ c.pos.length=D.length)=true by simp [c1]]
   exact hR (by rw [hof]; decide) _ (by simpa only [bR] using g2) (by simp only [bR]; rfl) (by simp only [bR]; rw [hof])
 ·rw [List.drop_eq_nil_of_le (by omega)] at hof
  simp only [bSa,↓bSb,b15,b16,h]
  exact hQ hof _ (by simpa only [bR] using g) (by simp only [bR,b1])
end
end Go.DD

/- Contracts: checked. Conditions: those that each theorem states. -/
namespace Go.DD
open Go Go.Proofs Go.Sort
def Dup (m:List PCell) (i:Nat):Prop:=∃ (h:0 < i) (h2:i < m.length),cmpL (m[i - 1]'(by omega)).pos m[i].pos=0
def ChkR (D:List PDim) (A:List PAttr) (l:List PCell) (e:Int) (m:List PCell):Prop:=
 (chgsE D A l≠0∧e=chgsE D A l∧m=[])∨(chgsE D A l=0∧e=5∧m=[]∧∃ s i,SrtC l s∧Dup s i)∨(chgsE D A l=0∧e=0∧SrtC l m∧∀ i,¬ Dup m i)
section
variable (k n0:Nat)
theorem Cq5 {es:ES} {Q:Exit→ES→Prop} {z:DV} {m:List PCell} (hn:n0≤es.nx) (hz:RL rChange es.hp (Bl n0) z m) (hm:m.length < 900000) (hb:∀ c∈m,c.pos.length < 900000) (b12:rawE es (.t (.r (.l (.r .o))))=z) (b13:rawE es (.t (.l (.r (.r .o))))=iv (1:Nat))
  (hQ:(∀ i,¬ Dup m i)→∀ es',Al es.hp es.nx es'.hp es'.nx→rawE es' (.t (.r (.l (.r .o))))=z→Q (.exit 6) es')
  (hR:(∃ i,Dup m i)→∀ es',Al es.hp es.nx es'.hp es'.nx→rawE es' (.t (.r (.l .o)))=nilS→rawE es' (.t (.l (.r .o)))=iv 5→Q .ret es') :
  EW (cL 1000000 l58_4) (kN (k+5)) es Q:=by
 refine EW.up (m.length) (fun i es1=>Al es.hp es.nx es1.hp es1.nx∧(∀ j,j < i+1→¬ Dup m j)∧rawE es1 (.t (.r (.l (.r .o))))=z∧rawE es1 (.t (.l (.r (.r .o))))=iv (i+1:Nat)) ?_ ⟨Al.refl _ _,fun j hj ⟨h,_⟩=>by omega,b12,b13⟩ (by omega)
 rintro i es1 hi ⟨g,hof,b12,b13⟩
 unfold l58_4
 have hle:=g.le
 have r:=hz.ka hn g
 by_cases h:i+1 < m.length
 ·obtain ⟨pA,vA,rA,_,_,lA,_⟩:=Ao0 r (show i < m.length by omega)
  obtain ⟨pB,vB,rB,_,_,lB,_⟩:=Ao0 r h
  have hd:binD .sub (.v (.int .i64 ((i+1:Nat):Int))) (.v (.int .i64 1))=some (.v (.int .i64 (i:Int))):=Ag4 (i+1) (by omega) (by omega)
  simp only [bSa,↓bSb,b12,b13,r.len,h,hd,Ad6 r (show i < m.length by omega),Ad6 r h,As1 (k:=0) r (show i < m.length by omega),As1 (k:=0) r h,lA,lB,r.rox (m:=13) (show n0≤es1.nx by omega),Ax1 (m:=13) r (show n0≤es1.nx by omega),A30 (m:=13) r (show n0≤es1.nx by omega),rA.rox (m:=13) (show n0≤es1.nx by omega),rB.rox (m:=13) (show n0≤es1.nx by omega)]
  refine Aa0 rfl (Aa7 ?_)
  simp only [bR,List.map_cons,List.map_nil]
  refine Ai6 (k+1) n0 _ _ _ pA pB m[i].pos m[i+1].pos (by omega) rA rB (hb _ (List.getElem_mem _)) ?_
  by_cases c1:cmpL m[i].pos m[i+1].pos=0
  ·simp only [bSa,↓bSb,decide_eq_true c1]
   exact hR ⟨i+1,by omega,h,c1⟩ _ (by simpa only [bR] using g.nx (show es1.nx≤es1.nx+13 by omega)) (by simp only [bR]; rfl) (by simp only [bR])
  ·simp only [bSa,↓bSb,decide_eq_false c1,b12,b13,Aa3 (show i+1 < _ by omega)]
   refine ⟨by omega,g.nx (show es1.nx≤es1.nx+13 by omega),fun j hj=>?_⟩
   by_cases e:j=i+1
   ·subst e
    exact fun ⟨_,_,h3⟩=>c1 h3
   ·exact hof j (by omega)
 ·simp only [bSa,↓bSb,b12,b13,r.len,h]
  exact hQ (fun j ⟨h1,h2,h3⟩=>hof j (by omega) ⟨h1,h2,h3⟩) _ (by simpa only [bR] using g) (by simp only [bR,b12])
theorem Bj4 (hp:Tr DObj) (nx:Nat) (K:DV→Tr DObj→Nat→Prop) (d a cc ls:DV) (x:PArr) (l:List PCell) (hn:n0≤nx) (r1:RL rDim hp (Bl n0) d x.dims) (r2:RL rAttr hp (Bl n0) a x.attrs) (r3:RL rCell hp (Bl n0) cc x.cells) (hL:RL rChange hp (Bl n0) ls l) (hx:AOK x) (hl:l.length < 256) (hb:∀ c∈l,c.pos.length < 900000) (hc:∀ c∈l,∀ v∈c.vals,slen v)
  (hK:∀ hp' nx' z m e,Al hp nx hp' nx'→RL rChange hp' (Bl nx') z m→ChkR x.dims x.attrs l e m→K (.tup [z,iv e]) hp' nx'):KW (kN (k+18)) (.fn 58) [.agg [d,a,cc],ls] hp nx K:=by
 refine kn_2 (Aa2 (by decide)) t58 (Nat.le_of_ble_eq_true rfl) fun es e1 e2 he=>?_
 have a0:rawE es (.t .o)=.agg [d,a,cc]:=he 0 _ rfl
 have a1:rawE es (.t (.l .o))=ls:=he 1 _ rfl
 unfold r58
 subst e1 e2
 simp only [↓bSb]
 refine Ab0 (cs:=[d,a,cc]) (by rw [evt,a0]; exact AR.live r1 r2 r3) fun hp1 hg1 hk1=>?_
 simp only [bR] at hg1 hk1
 have hal1:Al es.hp es.nx hp1 (es.nx+1):=⟨by omega,fun j hj=>hk1 j (by omega)⟩
 have hL1:=hL.ka hn hal1
 simp only [bSa,↓bSb,a1,hL1.len]
 refine Cq4 (k+11) n0 (hp:=hp1) (nx:=es.nx+1) (B:=es.nx) (ls:=ls) (d:=d) (a:=a) (cc:=cc) (l:=l) (D:=x.dims) (A:=x.attrs) (by omega) hg1 (by omega) hL1 (r1.ka hn hal1) (r2.ka hn hal1) (by omega) hx.d hx.a hc (by simpa only [bR] using Al.refl _ _) (by simp only [bR,a1]) (by simp only [bR]) (by simp only [bR]) (by simp only [bR]) (by simp only [bR]; rfl) (fun h0 es2 g2 b1=>?_) fun h0 es2 g2 b4 b5=>?_
 ·have hal2:=hal1.trans g2
  have hle2:=hal2.le
  have hL2:=hL.ka hn hal2
  have hL2':RL rChange es2.hp (Bl es2.nx) ls l:=hL2.mono fun j (hj:j < n0)=>by show j < es2.nx; omega
  simp only [bSa,↓bSb,b1]
  refine kws (Bu8 (k+16) _ _ _ ls hL2.ok hL2.live fun hp3 hg3 hk3=>?_)
  have hal3:Al es.hp es.nx hp3 (es2.nx+1):=⟨by omega,fun j hj=>by rw [hk3 j (by omega),hal2.same j hj]⟩
  have hL3:=hL2'.keep (hp':=hp3) fun j (hj:j < es2.nx)=>hk3 j (by omega)
  simp only [bSa,↓bSb]
  refine kws (Bj3 k es2.nx _ _ _ es2.nx _ ls l (by omega) hg3 (by omega) hL3 hl hb fun hp4 nx4 z m hle4 hfr4 hr4 hs4=>?_)
  have hal4:Al es.hp es.nx hp4 nx4:=⟨by omega,fun j hj=>by rw [hfr4 j (by omega),hal3.same j hj]⟩
  have hml:m.length=l.length:=hs4.1.length_eq
  simp only [bSa,↓bSb]
  refine Cq5 (k+12) nx4 (z:=z) (m:=m) (by simpa only [bR] using Nat.le_refl _) (by simpa only [bR] using hr4) (by omega) (fun c hc=>hb c (hs4.1.subset hc)) (by simp only [bR]) (by simp only [bR]; rfl) (fun hd es5 g5 b12=>?_) fun hd es5 g5 b4 b5=>?_
  ·simp only [] at g5
   have hr5:=hr4.ka (Nat.le_refl nx4) g5
   have hr5':RL rChange es5.hp (Bl es5.nx) z m:=hr5.mono fun j (hj:j < nx4)=>by have:=g5.le; show j < es5.nx; omega
   simp only [bSa,↓bSb,bP,b12,hr5.live]
   exact hK _ _ _ m 0 (hal4.trans g5) hr5' (.inr (.inr ⟨h0,rfl,hs4,hd⟩))
  ·simp only [] at g5
   simp only [bSa,↓bSb,bP,b4,b5]
   obtain ⟨i,hi⟩:=hd
   exact hK _ _ _ [] 5 (hal4.trans g5) .nil (.inr (.inl ⟨h0,rfl,rfl,m,i,hs4,hi⟩))
 ·simp only [bSa,↓bSb,bP,b4,b5]
  exact hK _ _ _ _ _ (hal1.trans g2) .nil (.inl ⟨h0,rfl,rfl⟩)
end
end Go.DD

/- Contracts: BinarySearchFunc of cells by a place. Conditions: those that each theorem states. -/
namespace Go.DD
open Go Go.Proofs Go.Sort
def cmpO:DV:=.fn (.func 131) [.tup []]
theorem A70 (hp:Tr DObj):liveE hp cmpO=cmpO:=Ab6 (by simp [cmpO,DV.refs,DV.refsL])
structure Low (l:List PCell) (p:List Int) (w:Nat):Prop where
 le:w≤l.length
 lo:∀ t (h:t < l.length),t < w→cmpL l[t].pos p < 0
 hi:∀ t (h:t < l.length),w≤t→¬ cmpL l[t].pos p < 0
def isAt (l:List PCell) (p:List Int) (w:Nat):Bool:=match l[w]? with
 | some c=>decide (cmpL c.pos p=0)
 | none=>false
section
variable (k n0:Nat) (hp:Tr DObj) (nx:Nat) (K:DV→Tr DObj→Nat→Prop)
theorem Cb9 (x y t:DV) (c:PCell) (p:List Int) (hn:n0≤nx) (h1:RL rInt hp (Bl n0) x c.pos) (h2:RL rVal hp (Bl n0) y c.vals) (h3:RL rInt hp (Bl n0) t p) (hl:c.pos.length < 900000)
  (hK:∀ hp' nx',Al hp nx hp' nx'→K (iv (cmpL c.pos p)) hp' nx'):KW (kN (k+5)) (.fn 131) [.agg [x,y],t] hp nx K:=by
 refine kn_1 (Aa2 (by decide)) t131 (Nat.le_of_ble_eq_true rfl) fun es e1 e2 he=>?_
 have a0:rawE es (.t .o)=.agg [x,y]:=he 0 _ rfl
 have a1:rawE es (.t (.l .o))=t:=he 1 _ rfl
 unfold r131
 subst e1 e2
 simp only [↓bSb]
 refine Ab0 (cs:=[x,y]) (by rw [evt,a0]; exact Aa5 h1 h2) fun hp1 hg1 hk1=>?_
 simp only [bR] at hg1 hk1
 have hal1:Al es.hp es.nx hp1 (es.nx+1):=⟨by omega,fun j hj=>hk1 j (by omega)⟩
 obtain ⟨⟨f0,_⟩,l0,_,_⟩:=Ac6 hg1
 simp only [bSa,↓bSb,a1,f0,l0]
 refine kws (Ai6 (k:=k) n0 _ _ _ x t _ _ (by omega) (h1.ka hn hal1) (h3.ka hn hal1) hl ?_)
 simp only [bSa,↓bSb,bP]
 exact hK _ _ hal1
theorem Cq6 (d t:DV) (l:List PCell) (p:List Int) (w:Nat) (hn:n0≤nx) (h1:RL rCell hp (Bl n0) d l) (h3:RL rInt hp (Bl n0) t p) (hl:l.length < 900000) (hb:∀ c∈l,c.pos.length < 900000) (hw:Low l p w)
  (hK:∀ hp' nx',Al hp nx hp' nx'→K (.tup [iv (w:Nat),bv (isAt l p w)]) hp' nx'):KW (kN (k+6)) (.fn 130) [d,t,cmpO] hp nx K:=by
 refine kn_2 (Aa2 (by decide)) t130 (Nat.le_of_ble_eq_true rfl) fun es e1 e2 he=>?_
 have a0:rawE es (.t .o)=d:=he 0 _ rfl
 have a1:rawE es (.t (.l .o))=t:=he 1 _ rfl
 have a2:rawE es (.t (.r .o))=cmpO:=he 2 _ rfl
 unfold r130
 subst e1 e2
 have hwl:=hw.le
 simp only [bSa,↓bSb,a0,h1.len]
 refine EW.l (I:=fun m es1=>∃ i j:Nat,m=j - i∧i≤w∧w≤j∧j≤l.length∧Al es.hp es.nx es1.hp es1.nx∧rawE es1 (.t .o)=d∧rawE es1 (.t (.l .o))=t∧rawE es1 (.t (.r .o))=cmpO∧rawE es1 (.t (.r (.l (.l .o))))=iv l.length∧rawE es1 (.t (.l (.r (.l .o))))=iv (i:Nat)∧rawE es1 (.t (.r (.r (.l .o))))=iv (j:Nat)) ?_ l.length 1000000 _ ⟨0,l.length,rfl,by omega,by omega,by omega,Al.refl _ _,by simp only [bR,a0],by simp only [bR,a1],by simp only [bR,a2],by simp only [bR],by simp only [bR]; rfl,by simp only [bR]⟩ (by omega)
 rintro m es1 ⟨i,j,hm,hi,hj,hjl,g,b0,b1,b2,b8,b9,b10⟩
 unfold Ca4
 have hle:=g.le
 have r:=h1.ka hn g
 have rt:=h3.ka hn g
 by_cases h:i < j
 ·have hml:(i+j) / 2 < l.length:=by omega
  obtain ⟨M,hM⟩:∃ M,M=(i+j) / 2:=⟨_,rfl⟩
  have hM':M < l.length:=by omega
  have hh:binD .shr (.v (.int .u64 ((i+j:Nat):Int))) (.v (.int .u64 1))=some (.v (.int .u64 (M:Int))):=by rw [A68,← hM]
  obtain ⟨x,y,rx,ry,lx,_,_,_⟩:=cells_at r hM'
  simp only [bSa,↓bSb,bP,b0,b1,b2,b9,b10,h,Ae0 (show i+j < _ by omega),cvi_u (show i+j < _ by omega),hh,cvi_s (show M < _ by omega),Aa8 r hM',lx]
  refine sws_f (f:=131) (cs:=[]) (by simp only [evt,bR,reduceCtorEq]; exact A70 _) ?_
  simp only [bR,List.map_cons,List.map_nil,List.append_nil,List.nil_append]
  refine Cb9 k n0 _ _ _ x y t l[M] p (by omega) rx ry rt (hb _ (List.getElem_mem _)) fun hp2 nx2 hal2=>?_
  by_cases c1:cmpL l[M].pos p < 0
  ·simp only [bSa,↓bSb,decide_eq_true c1,Aa3 (show M < _ by omega)]
   have:M < w:=Nat.lt_of_not_le fun h=>hw.hi M hM' h c1
   exact ⟨j - (M+1),by omega,M+1,j,rfl,by omega,hj,hjl,g.trans hal2,b0,b1,b2,b8,rfl,b10⟩
  ·simp only [bSa,↓bSb,decide_eq_false c1]
   have:w≤M:=Nat.le_of_not_lt fun h=>c1 (hw.lo M hM' h)
   exact ⟨M - i,by omega,i,M,rfl,hi,by omega,by omega,g.trans hal2,b0,b1,b2,b8,b9,rfl⟩
 ·have hij:i=w:=by omega
  subst hij
  by_cases hx:i < l.length
  ·obtain ⟨x,y,rx,ry,lx,_,_,_⟩:=cells_at r hx
   have hia:isAt l p i=decide (cmpL l[i].pos p=0):=by unfold isAt; rw [List.getElem?_eq_getElem hx]
   simp only [bSa,↓bSb,b0,b1,b2,b8,b9,b10,h,hx,Aa8 r hx,lx]
   refine sws_f (f:=131) (cs:=[]) (by simp only [evt,bR,reduceCtorEq]; exact A70 _) ?_
   simp only [bR,List.map_cons,List.map_nil,List.append_nil,List.nil_append]
   refine Cb9 k n0 _ _ _ x y t l[i] p (by omega) rx ry rt (hb _ (List.getElem_mem _)) fun hp2 nx2 hal2=>?_
   rw [hia] at hK
   simp only [bSa,↓bSb,bP]
   exact hK _ _ (g.trans hal2)
  ·have hia:isAt l p i=false:=by unfold isAt; rw [List.getElem?_eq_none (by omega)]
   rw [hia] at hK
   simp only [bSa,↓bSb,bP,b8,b9,b10,h,hx]
   exact hK _ _ g
end
end Go.DD

/- Plain: where a place lies in sorted cells; changes laid over cells. -/
namespace Go.DD
open Go Go.Proofs Go.Sort
def lowW (p:List Int) (l:List PCell):Nat:=(l.takeWhile fun e=>decide (cmpL e.pos p < 0)).length
abbrev SrtL (l:List PCell):Prop:=l.Pairwise fun x y=>cmpL x.pos y.pos = -1
theorem lt_tr {a b p:List Int} (h1:cmpL a b = -1) (h2:cmpL b p < 0):cmpL a p < 0:=by
 have h:=swoC.trans ⟨a,[]⟩ ⟨b,[]⟩ ⟨p,[]⟩ (by unfold ltC; exact decide_eq_true (by show cmpL a b < 0; omega)) (by unfold ltC; exact decide_eq_true h2)
 unfold ltC at h
 exact of_decide_eq_true h
theorem A71 (p:List Int):∀ {l:List PCell},SrtL l→Low l p (lowW p l)
 | [],_=>⟨Nat.zero_le _,fun t h=>absurd h (by simp),fun t h=>absurd h (by simp)⟩
 | c :: l,h=>by
  obtain ⟨h1,h2⟩:=List.pairwise_cons.1 h
  by_cases hc:cmpL c.pos p < 0
  ·have e:lowW p (c :: l)=lowW p l+1:=by unfold lowW; rw [List.takeWhile_cons,if_pos (decide_eq_true hc),List.length_cons]
   rw [e]
   have ih:=A71 p h2
   refine ⟨by have:=ih.le; simp only [List.length_cons]; omega,fun t ht hlt=>?_,fun t ht hle=>?_⟩
   ·cases t with
    | zero=>exact hc
    | succ t=>exact ih.lo t (by simpa using ht) (by omega)
   ·cases t with
    | zero=>omega
    | succ t=>exact ih.hi t (by simpa using ht) (by omega)
  ·have e:lowW p (c :: l)=0:=by unfold lowW; rw [List.takeWhile_cons,if_neg (by simpa using hc)]; rfl
   rw [e]
   refine ⟨Nat.zero_le _,fun t _ hlt=>by omega,fun t ht _=>?_⟩
   cases t with
   | zero=>exact hc
   | succ t=>
    have ht':t < l.length:=by simpa using ht
    exact fun h3=>hc (lt_tr (h1 _ (List.getElem_mem ht')) h3)
def nxtW (p:List Int) (l:List PCell):Nat:=if isAt l p (lowW p l)=true then lowW p l+1 else lowW p l
theorem Cq7 {p:List Int} {l:List PCell} (h:SrtL l):nxtW p l≤l.length:=by
 have hw:=A71 p h
 unfold nxtW
 split
 ·rename_i hi
  have:lowW p l < l.length:=by
   refine Nat.lt_of_not_le fun hle=>?_
   unfold isAt at hi
   rw [List.getElem?_eq_none hle] at hi
   cases hi
  omega
 ·exact hw.le
def onF:List PCell→List PCell→List PCell
 | [],cs=>cs
 | c :: l,cs=>cs.take (lowW c.pos cs) ++ ((if c.vals=[] then [] else [c]) ++ onF l (cs.drop (nxtW c.pos cs)))
theorem Ay0:∀ (l cs:List PCell),(onF l cs).length≤l.length+cs.length
 | [],cs=>by simp [onF]
 | c :: l,cs=>by
  have ih:=Ay0 l (cs.drop (nxtW c.pos cs))
  have h1:lowW c.pos cs≤nxtW c.pos cs:=by unfold nxtW; split <;> omega
  have h2:lowW c.pos cs≤cs.length:=by unfold lowW; exact (List.takeWhile_sublist _).length_le
  have h3:(if c.vals=[] then ([]:List PCell) else [c]).length≤1:=by split <;> simp
  unfold onF
  simp only [List.length_append,List.length_take,List.length_drop,List.length_cons] at ih ⊢
  omega
end Go.DD

/- Contracts: changes laid over cells. Conditions: those that each theorem states. -/
namespace Go.DD
open Go Go.Proofs Go.Sort
section
variable (k n0:Nat) (hp:Tr DObj) (nx:Nat) (K:DV→Tr DObj→Nat→Prop)
theorem kn_on (ls d:DV) (l cs:List PCell) (hn:n0≤nx) (hL:RL rChange hp (Bl n0) ls l) (hd:RL rCell hp (Bl n0) d cs) (hl:l.length+cs.length < 900000) (hs:SrtL cs) (hb:∀ c∈cs,c.pos.length < 900000)
  (hK:∀ hp' nx' z,Al hp nx hp' nx'→RL rCell hp' (fun j=>j < n0∨(nx≤j∧j < nx')) z (onF l cs)→K z hp' nx'):KW (kN (k+7)) (.fn 60) [ls,d] hp nx K:=by
 refine kn_1 (Aa2 (by decide)) t60 (Nat.le_of_ble_eq_true rfl) fun es e1 e2 he=>?_
 have a0:rawE es (.t .o)=ls:=he 0 _ rfl
 have a1:rawE es (.t (.l .o))=d:=he 1 _ rfl
 unfold r60
 subst e1 e2
 simp only [bSa,↓bSb,a0,hL.len]
 refine EW.up l.length (fun i es1=>∃ d1 cs1 z O,Al es.hp es.nx es1.hp es1.nx∧RL rCell es1.hp (Bl n0) d1 cs1∧OL rCell es1.hp (Bl n0) z O∧(∀ j∈z.refs,es.nx≤j∧j < es1.nx)∧SrtL cs1∧(∀ c∈cs1,c.pos.length < 900000)∧O ++ onF (l.drop i) cs1=onF l cs∧O.length+cs1.length≤i+cs.length∧rawE es1 (.t (.l .o))=d1∧rawE es1 (.t (.l (.r .o)))=z∧rawE es1 (.t (.r (.r (.l .o))))=ls∧rawE es1 (.t (.l (.l (.r .o))))=iv l.length∧rawE es1 (.t (.r (.l (.r .o))))=iv (i:Nat)) ?_ ⟨d,cs,nilS,[],Al.refl _ _,hd,.nil,fun j hj=>by (cases hj),hs,hb,rfl,by simp,by simp only [bR,a1],by simp only [bR]; rfl,by simp only [bR],by simp only [bR],by simp only [bR]; rfl⟩ (by omega)
 rintro i es1 hi ⟨d1,cs1,z,O,g,rd,ro,rz,hs1,hb1,hO,hlen,b1,b5,b10,b11,b12⟩
 unfold l60_1
 have hle:=g.le
 by_cases h:i < l.length
 ·have r:=hL.keep (hp':=es1.hp) fun j (hj:j < n0)=>g.same j (by omega)
  obtain ⟨x,y,rx,ry,lC,_,_⟩:=Ao0 r h
  have hdr:onF (l.drop i) cs1=cs1.take (lowW l[i].pos cs1) ++ ((if l[i].vals=[] then [] else [l[i]]) ++ onF (l.drop (i+1)) (cs1.drop (nxtW l[i].pos cs1))):=by rw [List.drop_eq_getElem_cons h,onF]
  rw [hdr] at hO
  simp only [bSa,↓bSb,b10,b11,b12,h,Ad6 r h,lC]
  refine Ac5 fun hp1 hg1 hk1=>?_
  simp only [bR] at hg1 hk1
  have rx1:=rx.keep (hp':=hp1) fun j (hj:j < n0)=>hk1 j (by omega)
  have ry1:=ry.keep (hp':=hp1) fun j (hj:j < n0)=>hk1 j (by omega)
  simp only [bSa,↓bSb]
  refine Ac0 (n:=2) (id:=es1.nx) (ds:=[x,y]) (by simp only [bR]) hg1 (by simp only [evt,bR,reduceCtorEq]; exact Aa5 rx1 ry1) rfl rfl fun hp2 hg2 hk2=>?_
  simp only [bR] at hg2 hk2
  have k2:∀ j,j < es1.nx→hp2.get j=es1.hp.get j:=fun j hj=>by rw [hk2 j (by omega),hk1 j (by omega)]
  obtain ⟨⟨f0,f1⟩,l0,l1,_⟩:=Ac6 hg2
  have rx2:=rx.keep (hp':=hp2) fun j (hj:j < n0)=>k2 j (by omega)
  have ry2:=ry.keep (hp':=hp2) fun j (hj:j < n0)=>k2 j (by omega)
  have rd2:=rd.keep (hp':=hp2) fun j (hj:j < n0)=>k2 j (by omega)
  have hw:=A71 l[i].pos hs1
  have hnw:=Cq7 (p:=l[i].pos) hs1
  have hlw:=hw.le
  have hwn:lowW l[i].pos cs1≤nxtW l[i].pos cs1:=by unfold nxtW; split <;> omega
  simp only [bSa,↓bSb,b1,f0,l0]
  refine kws (Cq6 k n0 _ _ _ d1 x cs1 l[i].pos (lowW l[i].pos cs1) (by omega) rd2 rx2 (by omega) hb1 hw fun hp3 nx3 hal3=>?_)
  have hle3:=hal3.le
  have k3:∀ j,j < es1.nx→hp3.get j=es1.hp.get j:=fun j hj=>by rw [hal3.same j (by omega),k2 j hj]
  have rd3:=rd.keep (hp':=hp3) fun j (hj:j < n0)=>k3 j (by omega)
  have ro3:=ro.keep (hp':=hp3) fun j hj=>k3 j (hj.elim (fun (h:j < n0)=>by omega) fun h=>(rz j h).2)
  simp only [bSa,↓bSb,b1,b5,extIa]
  refine Al0 (R:=rCell) (a:=0) (z:=lowW l[i].pos cs1) (d:=d1) (by simp only [bR,bP]) rd3 rfl rfl (fun n hn=>by simp only [Af8,n_ev,bR,bP]; rfl) (by omega) hlw ?_
  have rs3:=rd3.part (a:=0) (z:=lowW l[i].pos cs1) (by omega) hlw
  simp only [List.drop_zero,Nat.sub_zero] at rs3
  simp only [bSa,↓bSb]
  refine Ad7 (R:=rCell) (p:=Bl n0) (p2:=Bl n0) (d:=z) (d2:=slD rCell.e 0 (lowW l[i].pos cs1) d1) (l:=O) (m:=cs1.take (lowW l[i].pos cs1)) (by simp only [bR,bP]) ro3 (by simp only [n_ev,bR,bP]; exact rs3.live) (rs3.srcD (es:=⟨_,hp3,_⟩)) rfl rfl (by rw [List.length_take]; omega) (by decide) fun hp4 hk4 h4=>?_
  simp only [bR] at hk4 h4
  have o4:=h4 (Bl n0) fun j hj=>by
   have:j < n0:=hj.elim id id
   exact ⟨this,by omega,fun h=>by have:=(rz j h).1; omega⟩
  have k4:∀ j,j < es.nx→hp4.get j=es1.hp.get j:=fun j hj=>by rw [hk4 j (by omega) fun h=>by (have:=(rz j h).1; omega),k3 j (by omega)]
  have gC4:hp4.get es1.nx=some (.row 62 [x,y]):=by rw [hk4 _ (by omega) fun h=>by (have:=(rz _ h).2; omega),hal3.same _ (by omega),hg2]
  obtain ⟨⟨p0,p1⟩,m0,m1,_⟩:=Ac6 gC4
  have ry4:=ry.keep (hp':=hp4) fun j (hj:j < n0)=>k4 j (by omega)
  have rx4:=rx.keep (hp':=hp4) fun j (hj:j < n0)=>k4 j (by omega)
  have rd4:=rd.keep (hp':=hp4) fun j (hj:j < n0)=>k4 j (by omega)
  have hOl:(O ++ cs1.take (lowW l[i].pos cs1)).length=O.length+lowW l[i].pos cs1:=by rw [List.length_append,List.length_take]; omega
  by_cases hv:l[i].vals=[]
  ·rw [if_pos hv,List.nil_append,← List.append_assoc] at hO
   have hv0:l[i].vals.length=0:=by rw [hv]; rfl
   cases hIs:isAt cs1 l[i].pos (lowW l[i].pos cs1) with
   | true=>
    ·have hnx:nxtW l[i].pos cs1=lowW l[i].pos cs1+1:=by unfold nxtW; rw [if_pos hIs]
     rw [hnx] at hO hnw
     simp only [bSa,↓bSb,p1,m1,ry4.len,show decide ((0:Int) < (l[i].vals.length:Int))=false from decide_eq_false (by omega),b1,Aa3 (show lowW l[i].pos cs1 < _ by omega)]
     refine Al0 (R:=rCell) (a:=lowW l[i].pos cs1+1) (z:=cs1.length) (d:=d1) (by simp only [bR,bP]) rd4 rfl (by simp only [Af8,n_ev,bR,bP]; rfl) (fun n hn=>by rw [Ak1,hn]) hnw (Nat.le_refl _) ?_
     have rs:=rd4.part (a:=lowW l[i].pos cs1+1) (z:=cs1.length) hnw (Nat.le_refl _)
     rw [List.take_of_length_le (by rw [List.length_drop]; omega)] at rs
     simp only [bSa,↓bSb,b10,b11,b12,h,Aa3 (show i < _ by omega)]
     exact ⟨_,_,_,_,⟨by omega,fun j hj=>by rw [k4 j hj,g.same j hj]⟩,rs,o4,fun j hj=>by (have:j=nx3:=by simpa [DV.refs] using hj); omega,hs1.sublist (List.drop_sublist _ _),fun c hc=>hb1 c (List.mem_of_mem_drop hc),hO,by (simp only [List.length_append,List.length_take,List.length_drop]; omega),rfl,rfl⟩
   | false=>
    ·have hnx:nxtW l[i].pos cs1=lowW l[i].pos cs1:=by unfold nxtW; rw [if_neg (by rw [hIs]; decide)]
     rw [hnx] at hO hnw
     simp only [bSa,↓bSb,p1,m1,ry4.len,show decide ((0:Int) < (l[i].vals.length:Int))=false from decide_eq_false (by omega),b1]
     refine Al0 (R:=rCell) (a:=lowW l[i].pos cs1) (z:=cs1.length) (d:=d1) (by simp only [bR,bP]) rd4 rfl (by simp only [Af8,n_ev,bR,bP]; rfl) (fun n hn=>by rw [Ak1,hn]) hnw (Nat.le_refl _) ?_
     have rs:=rd4.part (a:=lowW l[i].pos cs1) (z:=cs1.length) hnw (Nat.le_refl _)
     rw [List.take_of_length_le (by rw [List.length_drop]; omega)] at rs
     simp only [bSa,↓bSb,b10,b11,b12,h,Aa3 (show i < _ by omega)]
     exact ⟨_,_,_,_,⟨by omega,fun j hj=>by rw [k4 j hj,g.same j hj]⟩,rs,o4,fun j hj=>by (have:j=nx3:=by simpa [DV.refs] using hj); omega,hs1.sublist (List.drop_sublist _ _),fun c hc=>hb1 c (List.mem_of_mem_drop hc),hO,by (simp only [List.length_append,List.length_take,List.length_drop]; omega),rfl,rfl⟩
  ·rw [if_neg hv,← List.append_assoc,← List.append_assoc] at hO
   have hv0:0 < l[i].vals.length:=List.length_pos_iff.2 hv
   simp only [bSa,↓bSb,p0,p1,m0,m1,ry4.len,show decide ((0:Int) < (l[i].vals.length:Int))=true from decide_eq_true (by omega)]
   refine Ak9 (cs:=[x,y]) (by simp only [List.map_cons,List.map_nil,n_ev,bR,reduceCtorEq,bP,rx4.live,ry4.live]; exact Ax0 rx4.ok ry4.ok) ?_
   simp only [bSa,↓bSb]
   refine Ah5 (fl:=[x,y]) rfl (by simp only [List.map_cons,List.map_nil,n_ev,bR,bP,Aa5 rx4 ry4]; rfl) fun hp5 hg5 hk5=>?_
   simp only [bR] at hg5 hk5
   have rx5:=rx4.keep (hp':=hp5) fun j (hj:j < n0)=>hk5 j (by omega)
   have ry5:=ry4.keep (hp':=hp5) fun j (hj:j < n0)=>hk5 j (by omega)
   have o5:=o4.keep (hp':=hp5) fun j hj=>hk5 j (hj.elim (fun (h:j < n0)=>by omega) fun h=>by (have:j=nx3:=by simpa [DV.refs] using h); omega)
   simp only [bSa,↓bSb]
   refine Ad7 (R:=rCell) (p:=Bl n0) (p2:=Bl n0) (d:=.ms nx3 0 (O ++ cs1.take (lowW l[i].pos cs1)).length rCell.e) (d2:=.ms (nx3+1) 0 1 2) (l:=O ++ cs1.take (lowW l[i].pos cs1)) (m:=[l[i]]) (by simp only [bR,bP]) o5 (by simp only [n_ev,bR,bP]; exact Ah4 hg5) (Aw6 (R:=rCell) (x:=l[i]) hg5 (rCell_rd.2 ⟨x,y,rfl,rx5,ry5⟩)) rfl rfl (by rw [hOl,List.length_singleton]; omega) (by decide) fun hp6 hk6 h6=>?_
   simp only [bR] at hk6 h6
   have o6:=h6 (Bl n0) fun j hj=>by
    have:j < n0:=hj.elim id id
    exact ⟨this,by omega,fun h=>by (have:j=nx3:=by simpa [DV.refs] using h); omega⟩
   have k6:∀ j,j < es.nx→hp6.get j=es1.hp.get j:=fun j hj=>by rw [hk6 j (by omega) fun h=>by (have:j=nx3:=by simpa [DV.refs] using h); omega,hk5 j (by omega),k4 j hj]
   have rd6:=rd.keep (hp':=hp6) fun j (hj:j < n0)=>k6 j (by omega)
   cases hIs:isAt cs1 l[i].pos (lowW l[i].pos cs1) with
   | true=>
    ·have hnx:nxtW l[i].pos cs1=lowW l[i].pos cs1+1:=by unfold nxtW; rw [if_pos hIs]
     rw [hnx] at hO hnw
     simp only [bSa,↓bSb,b1,Aa3 (show lowW l[i].pos cs1 < _ by omega)]
     refine Al0 (R:=rCell) (a:=lowW l[i].pos cs1+1) (z:=cs1.length) (d:=d1) (by simp only [bR,bP]) rd6 rfl (by simp only [Af8,n_ev,bR,bP]; rfl) (fun n hn=>by rw [Ak1,hn]) hnw (Nat.le_refl _) ?_
     have rs:=rd6.part (a:=lowW l[i].pos cs1+1) (z:=cs1.length) hnw (Nat.le_refl _)
     rw [List.take_of_length_le (by rw [List.length_drop]; omega)] at rs
     simp only [bSa,↓bSb,b10,b11,b12,h,Aa3 (show i < _ by omega)]
     exact ⟨_,_,_,_,⟨by omega,fun j hj=>by rw [k6 j hj,g.same j hj]⟩,rs,o6,fun j hj=>by (have:j=nx3+1+1:=by simpa [DV.refs] using hj); omega,hs1.sublist (List.drop_sublist _ _),fun c hc=>hb1 c (List.mem_of_mem_drop hc),hO,by (simp only [List.length_append,List.length_take,List.length_drop,List.length_singleton]; omega),rfl,rfl⟩
   | false=>
    ·have hnx:nxtW l[i].pos cs1=lowW l[i].pos cs1:=by unfold nxtW; rw [if_neg (by rw [hIs]; decide)]
     rw [hnx] at hO hnw
     simp only [bSa,↓bSb,b1]
     refine Al0 (R:=rCell) (a:=lowW l[i].pos cs1) (z:=cs1.length) (d:=d1) (by simp only [bR,bP]) rd6 rfl (by simp only [Af8,n_ev,bR,bP]; rfl) (fun n hn=>by rw [Ak1,hn]) hnw (Nat.le_refl _) ?_
     have rs:=rd6.part (a:=lowW l[i].pos cs1) (z:=cs1.length) hnw (Nat.le_refl _)
     rw [List.take_of_length_le (by rw [List.length_drop]; omega)] at rs
     simp only [bSa,↓bSb,b10,b11,b12,h,Aa3 (show i < _ by omega)]
     exact ⟨_,_,_,_,⟨by omega,fun j hj=>by rw [k6 j hj,g.same j hj]⟩,rs,o6,fun j hj=>by (have:j=nx3+1+1:=by simpa [DV.refs] using hj); omega,hs1.sublist (List.drop_sublist _ _),fun c hc=>hb1 c (List.mem_of_mem_drop hc),hO,by (simp only [List.length_append,List.length_take,List.length_drop,List.length_singleton]; omega),rfl,rfl⟩
 ·rw [List.drop_eq_nil_of_le (by omega)] at hO
  have hO':O ++ cs1=onF l cs:=hO
  simp only [bSa,↓bSb,b1,b5,b11,b12,h]
  refine Ad7 (R:=rCell) (p:=Bl n0) (p2:=Bl n0) (d:=z) (d2:=d1) (l:=O) (m:=cs1) (by simp only [bR,bP]) ro (by simp only [n_ev,bR,bP]; exact rd.live) (rd.srcD (es:=⟨_,es1.hp,_⟩)) rfl rfl (by omega) (by decide) fun hp4 hk4 h4=>?_
  simp only [bR] at hk4 h4
  have o4:=h4 (Bl n0) fun j hj=>by
   have:j < n0:=hj.elim id id
   exact ⟨this,by omega,fun h=>by have:=(rz j h).1; omega⟩
  have r4:RL rCell hp4 (fun j=>j < n0∨(es.nx≤j∧j < es1.nx+1)) (.ms es1.nx 0 (O ++ cs1).length rCell.e) (O ++ cs1):=o4.rl.mono fun j hj=>by
   rcases hj with hj | hj
   ·exact .inl hj
   ·have:j=es1.nx:=by simpa [DV.refs] using hj
    exact .inr ⟨by omega,by omega⟩
  simp only [bSa,↓bSb,bP,r4.live]
  rw [hO'] at r4
  exact hK _ _ _ ⟨by omega,fun j hj=>by rw [hk4 j (by omega) fun h=>by (have:=(rz j h).1; omega),g.same j hj]⟩ (by rw [hO']; exact r4)
end
end Go.DD

/- Plain: sorted changes laid over sorted cells are sorted cells. -/
namespace Go.DD
open Go Go.Proofs Go.Sort
theorem A91 {a b:List Int} (h:¬ cmpL b a < 0):cmpL a b = -1∨a=b:=by
 have h1:=Ai3 a b
 rcases Ac1 a b with h2 | h2 | h2
 ·exact .inl h2
 ·exact .inr (cmpL_0.1 h2)
 ·omega
theorem Bg4 {l m:List PCell} (h:SrtC l m) (hd:∀ i,¬ Dup m i):SrtL m:=by
 refine List.pairwise_iff_getElem.2 fun i j hi hj hij=>?_
 have hp:=List.pairwise_iff_getElem.1 h.2
 have le:∀ (i j:Nat) (hi:i < m.length) (hj:j < m.length),i < j→cmpL m[i].pos m[j].pos = -1∨m[i].pos=m[j].pos:=fun i j hi hj hij=>by
  have h1:=hp i j hi hj hij
  exact A91 (by unfold ltC at h1; exact of_decide_eq_false h1)
 rcases le i j hi hj hij with h1 | h1
 ·exact h1
 ·refine absurd ?_ (hd (i+1))
  refine ⟨by omega,by omega,?_⟩
  show cmpL m[i].pos m[i+1].pos=0
  rcases le i (i+1) hi (by omega) (by omega) with h2 | h2
  ·by_cases e:i+1=j
   ·subst e; rw [h1]; exact Ab9 _
   ·rcases le (i+1) j (by omega) hj (by omega) with h3 | h3
    ·have h4:=Ad4 h2 h3
     rw [h1,Ab9] at h4
     cases h4
    ·rw [h1,← h3]; exact Ab9 _
  ·rw [← h2]; exact Ab9 _
theorem Bv1 {m:List PCell} (h:SrtL m):(m.map PCell.pos).Nodup:=by
 rw [List.Nodup,List.pairwise_map]
 exact h.imp fun h=>Bi9 h
theorem Ci4 {l m:List PCell} (h:SrtC l m) {i:Nat} (hd:Dup m i):¬ (l.map PCell.pos).Nodup:=fun hn=>by
 have h1:(m.map PCell.pos).Nodup:=(h.1.map _).nodup_iff.2 hn
 obtain ⟨h0,h2,h3⟩:=hd
 have h4:=List.pairwise_iff_getElem.1 h1 (i - 1) i (by simp; omega) (by simpa using h2) (by omega)
 simp only [List.getElem_map] at h4
 exact h4 (cmpL_0.1 h3)
theorem B22 {l m:List PCell} (h:SrtC l m) (hd:∀ i,¬ Dup m i):(l.map PCell.pos).Nodup:=(h.1.map _).nodup_iff.1 (Bv1 (Bg4 h hd))
theorem Bv2 {p:List Int} {cs:List PCell} (hs:SrtL cs):∀ e∈cs.take (lowW p cs),cmpL e.pos p = -1:=fun e he=>by
 obtain ⟨t,ht,rfl⟩:=List.getElem_of_mem he
 rw [List.getElem_take]
 have ht':t < lowW p cs∧t < cs.length:=by rw [List.length_take] at ht; omega
 have:=(A71 p hs).lo t ht'.2 ht'.1
 have:=Ac1 (cs[t]'ht'.2).pos p
 omega
theorem Bv3 {p:List Int} {cs:List PCell} (hs:SrtL cs):∀ e∈cs.drop (nxtW p cs),cmpL p e.pos = -1:=fun e he=>by
 obtain ⟨t,ht,rfl⟩:=List.getElem_of_mem he
 rw [List.getElem_drop]
 have ht':nxtW p cs+t < cs.length:=by rw [List.length_drop] at ht; omega
 have hw:=A71 p hs
 have hwn:lowW p cs≤nxtW p cs:=by unfold nxtW; split <;> omega
 have h1:=hw.hi (nxtW p cs+t) ht' (by omega)
 rcases A91 h1 with h2 | h2
 ·exact h2
 ·exfalso
  have hwl:lowW p cs < cs.length:=by omega
  by_cases hi:isAt cs p (lowW p cs)=true
  ·have hn:nxtW p cs=lowW p cs+1:=by unfold nxtW; rw [if_pos hi]
   unfold isAt at hi
   rw [List.getElem?_eq_getElem hwl] at hi
   have h3:=cmpL_0.1 (of_decide_eq_true hi)
   have h4:=List.pairwise_iff_getElem.1 hs (lowW p cs) (nxtW p cs+t) hwl ht' (by omega)
   rw [h3,← h2,Ab9] at h4
   cases h4
  ·have hn:nxtW p cs=lowW p cs:=by unfold nxtW; rw [if_neg hi]
   unfold isAt at hi
   rw [List.getElem?_eq_getElem hwl] at hi
   have h3:¬ cmpL cs[lowW p cs].pos p=0:=fun h=>hi (decide_eq_true h)
   have h5:=hw.hi (lowW p cs) hwl (Nat.le_refl _)
   rcases A91 h5 with h6 | h6
   ·by_cases e:t=0
    ·subst e
     have:cs[nxtW p cs+0].pos=cs[lowW p cs].pos:=by congr 1; simp [hn]
     rw [← this,← h2] at h3
     exact h3 (Ab9 _)
    ·have h4:=List.pairwise_iff_getElem.1 hs (lowW p cs) (nxtW p cs+t) hwl ht' (by omega)
     have:=Ad4 h6 h4
     rw [← h2,Ab9] at this
     cases this
   ·rw [← h6] at h3; exact h3 (Ab9 _)
theorem A32:∀ {l cs:List PCell},∀ e∈onF l cs,e∈cs∨(e∈l∧e.vals≠[])
 | [],cs,e,h=>.inl h
 | c :: l,cs,e,h=>by
  unfold onF at h
  rcases List.mem_append.1 h with h | h
  ·exact .inl (List.mem_of_mem_take h)
  ·rcases List.mem_append.1 h with h | h
   ·split at h
    ·cases h
    ·rename_i hv
     have:e=c:=by simpa using h
     subst this
     exact .inr ⟨by simp,hv⟩
   ·rcases A32 e h with h | h
    ·exact .inl (List.mem_of_mem_drop h)
    ·exact .inr ⟨List.mem_cons_of_mem _ h.1,h.2⟩
theorem A92:∀ {l cs:List PCell},SrtL l→SrtL cs→SrtL (onF l cs)
 | [],cs,_,h=>h
 | c :: l,cs,hl,hs=>by
  obtain ⟨h1,h2⟩:=List.pairwise_cons.1 hl
  have ih:=A92 (l:=l) (cs:=cs.drop (nxtW c.pos cs)) h2 (hs.sublist (List.drop_sublist _ _))
  have hi:∀ e∈onF l (cs.drop (nxtW c.pos cs)),cmpL c.pos e.pos = -1:=fun e he=>by
   rcases A32 e he with h | h
   ·exact Bv3 hs e h
   ·exact h1 e h.1
  unfold onF
  refine List.pairwise_append.2 ⟨hs.sublist (List.take_sublist _ _),List.pairwise_append.2 ⟨by split <;> simp,ih,fun a ha b hb=>?_⟩,fun a ha b hb=>?_⟩
  ·split at ha
   ·cases ha
   ·have:a=c:=by simpa using ha
    rw [this]; exact hi b hb
  ·have h3:=Bv2 hs a ha
   rcases List.mem_append.1 hb with hb | hb
   ·split at hb
    ·cases hb
    ·have:b=c:=by simpa using hb
     rw [this]; exact h3
   ·exact Ad4 h3 (hi b hb)
end Go.DD

/- Contracts: the program's Apply. Conditions: those that each theorem states. -/
namespace Go.DD
open Go Go.Proofs Go.Sort
theorem Bv4 {d:List PDim} {a:List PAttr} {c:PCell} (h:chgE d a c=0) (hv:c.vals≠[]):cellE d a c=0:=by
 have hl:c.vals.length≠0:=fun e=>hv (List.length_eq_zero_iff.1 e)
 unfold chgE at h
 by_cases h1:c.pos.length≠d.length∨(c.vals.length≠0∧c.vals.length≠a.length)
 ·rw [if_pos h1] at h; cases h
 ·rw [if_neg h1] at h
  by_cases h2:ofF d c.pos=false
  ·rw [if_pos h2] at h; cases h
  ·rw [if_neg h2] at h
   by_cases h3:fitsL c.vals a=false
   ·rw [if_pos h3] at h; cases h
   ·have e1:c.pos.length=d.length:=by omega
    have e2:c.vals.length=a.length:=by omega
    have h4:ofB d c.pos=true:=by unfold ofB; rw [decide_eq_true e1]; simpa using h2
    unfold cellE
    rw [if_neg (by omega),if_neg (by rw [h4]; decide),if_neg h3]
theorem Bg5 {d:List PDim} {a:List PAttr} : ∀ {l:List PCell},chgsE d a l=0→∀ c∈l,chgE d a c=0
 | [],_=>fun c hc=>by cases hc
 | c :: l,h=>by
  unfold chgsE at h
  by_cases h1:chgE d a c≠0
  ·rw [if_pos h1] at h; exact absurd h h1
  ·rw [if_neg h1] at h
   intro e he
   rcases List.mem_cons.1 he with rfl | he
   ·omega
   ·exact Bg5 h e he
theorem Bg6 {x:PArr} {l m:List PCell} (hx:Ac3 x=0) (hc:chgsE x.dims x.attrs l=0) (hm:m.Perm l) (hs:SrtL m) (hl:x.cells.length+l.length≤128):Ac3 ⟨x.dims,x.attrs,onF m x.cells⟩=0:=by
 obtain ⟨h1,h2,h3⟩:=Ae1 hx
 have hlen:=Ay0 m x.cells
 have hml:=hm.length_eq
 refine B13 h3 (by show (onF m x.cells).length≤4096; omega) (fun c hcm=>?_) (A92 hs h1)
 rcases A32 c hcm with h | h
 ·exact h2 c h
 ·exact Bv4 (Bg5 hc c (hm.subset h.1)) h.2
theorem on_ok {x:PArr} {l m:List PCell} (ho:AOK x) (hm:m.Perm l) (hl:x.cells.length+l.length≤128) (hb:∀ c∈l,c.pos.length < 900000∧c.vals.length < 900000∧∀ v∈c.vals,slen v):AOK ⟨x.dims,x.attrs,onF m x.cells⟩:=by
 have hlen:=Ay0 m x.cells
 have hml:=hm.length_eq
 refine ⟨ho.d,ho.a,by show (onF m x.cells).length < 900000; omega,fun c hcm=>?_⟩
 rcases A32 c hcm with h | h
 ·exact ho.e c h
 ·exact hb c (hm.subset h.1)
def ApR (x:PArr) (l:List PCell) (e:Int) (r:PArr):Prop:=
 (Ac3 x≠0∧e=2∧r=⟨[],[],[]⟩)∨(Ac3 x=0∧chgsE x.dims x.attrs l≠0∧e=chgsE x.dims x.attrs l∧r=⟨[],[],[]⟩)∨
 (Ac3 x=0∧chgsE x.dims x.attrs l=0∧¬ (l.map PCell.pos).Nodup∧e=5∧r=⟨[],[],[]⟩)∨
 (Ac3 x=0∧chgsE x.dims x.attrs l=0∧(l.map PCell.pos).Nodup∧e=0∧∃ m,m.Perm l∧SrtL m∧r=⟨x.dims,x.attrs,onF m x.cells⟩)
section
variable (k n0:Nat) (hp:Tr DObj) (nx:Nat) (K:DV→Tr DObj→Nat→Prop)
theorem Bg7 (d1 ls:DV) (x:PArr) (l:List PCell) (hn:n0≤nx) (h1:AR hp (Bl n0) d1 x) (hL:RL rChange hp (Bl n0) ls l) (hx:AOK x) (hl:x.cells.length+l.length≤128) (hb:∀ c∈l,c.pos.length < 900000∧c.vals.length < 900000∧∀ v∈c.vals,slen v)
  (hK:∀ hp' nx' d' r e,Al hp nx hp' nx'→AR hp' (Bw nx nx') d' r→ApR x l e r→AOw hp' d'→K (.tup [d',iv e]) hp' nx'):KW (kN (k+19)) (.fn 17) [d1,ls] hp nx K:=by
 obtain ⟨d,a,c,rfl,r1,r2,r3⟩:=h1
 refine kn_r2 (Aa2 (by decide)) t17 (Nat.le_of_ble_eq_true rfl) fun es e1 e2 he=>?_
 have a0:rawE es (.t .o)=.agg [d,a,c]:=he 0 _ rfl
 have a1:rawE es (.t (.l .o))=ls:=he 1 _ rfl
 unfold r17
 subst e1 e2
 simp only [↓bSb]
 refine Ab0 (cs:=[d,a,c]) (by rw [evt,a0]; exact AR.live r1 r2 r3) fun hp1 hg1 hk1=>?_
 simp only [bR] at hg1 hk1
 have hal1:Al es.hp es.nx hp1 (es.nx+1):=⟨by omega,fun j hj=>hk1 j (by omega)⟩
 simp only [bSa,↓bSb]
 refine Ac5 fun hp2 hg2 hk2=>?_
 simp only [bR] at hg2 hk2
 have hal2:Al es.hp es.nx hp2 (es.nx+1+1):=⟨by omega,fun j hj=>by rw [hk2 j (by omega),hk1 j (by omega)]⟩
 have hgA:hp2.get es.nx=_:=(hk2 es.nx (by omega)).trans hg1
 obtain ⟨_,_,_,_,lA⟩:=Aa4 hgA
 simp only [bSa,↓bSb,lA]
 refine kws (B09 (k:=k+11) n0 _ _ _ _ x (by omega) ⟨d,a,c,rfl,r1.ka hn hal2,r2.ka hn hal2,r3.ka hn hal2⟩ hx fun hp3 nx3 hal3=>?_)
 have hle3:=hal3.le
 have ha3:=hal2.trans hal3
 have hgA3:=(hal3.same es.nx (by omega)).trans hgA
 have hgR3:=(hal3.same (es.nx+1) (by omega)).trans hg2
 obtain ⟨_,_,_,_,lA3⟩:=Aa4 hgA3
 by_cases cx:Ac3 x=0
 ·simp only [bSa,↓bSb,a1,show decide (¬ Ac3 x=0)=false by simp [cx],lA3]
  refine kws (Bj4 k n0 _ _ _ d a c ls x l (by omega) (r1.ka hn ha3) (r2.ka hn ha3) (r3.ka hn ha3) (hL.ka hn ha3) hx (by omega) (fun c hc=>(hb c hc).1) (fun c hc=>(hb c hc).2.2) fun hp4 nx4 z m e hal4 hz hC=>?_)
  have hle4:=hal4.le
  have ha4:=ha3.trans hal4
  have hgA4:=(hal4.same es.nx (by omega)).trans hgA3
  have hgR4:=(hal4.same (es.nx+1) (by omega)).trans hgR3
  have y0:extD hp4 (.tup [z,iv e]) 0=some z:=Ao4 fun id hid=>(hz.refs id (by simpa [DV.refsL,DV.refs] using hid)).2
  by_cases he:e=0
  ·obtain ⟨h0,hs,hd⟩:chgsE x.dims x.attrs l=0∧SrtC l m∧∀ i,¬ Dup m i:=by
    rcases hC with ⟨h0,h1,_⟩ | ⟨_,h1,_⟩ | ⟨h0,_,h2,h3⟩
    ·exact absurd (h1.symm.trans he) h0
    ·rw [h1] at he; cases he
    ·exact ⟨h0,h2,h3⟩
   have hsm:=Bg4 hs hd
   obtain ⟨⟨f0,f1,f2⟩,l0,l1,l2,_⟩:=Aa4 hgA4
   have q1:RL rDim hp4 (Bl nx4) d x.dims:=(r1.ka hn ha4).mono fun j (hj:j < n0)=>by show j < nx4; omega
   have q2:RL rAttr hp4 (Bl nx4) a x.attrs:=(r2.ka hn ha4).mono fun j (hj:j < n0)=>by show j < nx4; omega
   have q3:RL rCell hp4 (Bl nx4) c x.cells:=(r3.ka hn ha4).mono fun j (hj:j < n0)=>by show j < nx4; omega
   simp only [bSa,↓bSb,y0,show decide (¬ e=0)=false by simp [he],f0,f1,f2,l0,l1,l2,Aa1 (n0:=nx4) (m:=13) hgA4 (show es.nx < nx4 by omega),q3.rox (m:=13) (Nat.le_refl nx4),hz.rox (m:=13) (Nat.le_refl nx4)]
   refine Aa0 rfl (Aa7 ?_)
   simp only [bR,List.map_cons,List.map_nil]
   have hml:=hs.1.length_eq
   refine kn_on (k+11) nx4 _ _ _ z c m x.cells (by omega) hz q3 (by omega) (Ae1 cx).1 (fun c hc=>(hx.e c hc).1) fun hp5 nx5 z5 hal5 hz5=>?_
   have hle5:=hal5.le
   have q15:=q1.ka (nx:=nx4+13) (by omega) hal5
   have q25:=q2.ka (nx:=nx4+13) (by omega) hal5
   have roZ:∀ an,Aa6 z5 (fun id=>okRef nx4 13 an hp5 id):=fun an=>hz5.ro' (n:=nx4) (m:=13) fun j hj=>hj.imp id fun h=>h.1
   simp only [bSa,↓bSb,hle5,q15.rox (m:=13) (Nat.le_refl nx4),q25.rox (m:=13) (Nat.le_refl nx4),iff_true_intro (roZ _)]
   refine Aa0 rfl (Aa7 ?_)
   simp only [bR,List.map_cons,List.map_nil]
   refine Cg8 (k+1) nx5 _ _ _ 7 d a z5 ⟨x.dims,x.attrs,onF m x.cells⟩ (Nat.le_refl _) (q15.mono fun j (hj:j < nx4)=>by show j < nx5; omega) (q25.mono fun j (hj:j < nx4)=>by show j < nx5; omega) (hz5.mono fun j hj=>by show j < nx5; omega) (Bg6 cx h0 hs.1 hsm (by omega)) (on_ok hx hs.1 (by omega) hb) (by have:=Ay0 m x.cells; show (onF m x.cells).length≤2 ^ 7; omega) fun hp6 nx6 d6 hal6 har6 how6=>?_
   have hle6:=hal6.le
   obtain ⟨dd,da,dcc,rfl,v1,v2,v3⟩:=har6
   have x0:extD hp6 (.tup [.agg [dd,da,dcc],iv 0]) 0=some (.agg [dd,da,dcc]):=Ao4 fun id hid=>by
    have:id∈dd.refs∨id∈da.refs∨id∈dcc.refs:=by simpa [DV.refs,DV.refsL] using hid
    rcases this with h | h | h
    ·exact (v1.refs id h).2
    ·exact (v2.refs id h).2
    ·exact (v3.refs id h).2
   have x1:extD hp6 (.tup [.agg [dd,da,dcc],iv 0]) 1=some (iv 0):=ext21
   have gA6:=(hal6.same es.nx (by omega)).trans ((hal5.same es.nx (by omega)).trans hgA4)
   have gR6:=(hal6.same (es.nx+1) (by omega)).trans ((hal5.same (es.nx+1) (by omega)).trans hgR4)
   have roD:∀ an,Aa6 (.agg [dd,da,dcc]) (fun id=>okRef nx4 13 an hp6 id):=fun an id hid=>by
    have:id∈dd.refs∨id∈da.refs∨id∈dcc.refs:=by simpa [DV.refs,DV.refsL] using hid
    have w1:=v1.ro' (n:=nx4) (m:=13) (an:=an) fun j hj=>.inr (by have:=hj.1; omega)
    have w2:=v2.ro' (n:=nx4) (m:=13) (an:=an) fun j hj=>.inr (by have:=hj.1; omega)
    have w3:=v3.ro' (n:=nx4) (m:=13) (an:=an) fun j hj=>.inr (by have:=hj.1; omega)
    rcases this with h | h | h
    ·exact w1 id h
    ·exact w2 id h
    ·exact w3 id h
   have roT:∀ an,Aa6 (.tup [.agg [dd,da,dcc],iv 0]) (fun id=>okRef nx4 13 an hp6 id):=fun an id hid=>roD an id (by simpa [DV.refs,DV.refsL,iv] using hid)
   simp only [bSa,↓bSb,hle6,x0,x1,iff_true_intro (roD _),iff_true_intro (roT _),Aa1 (n0:=nx4) (m:=13) gR6 (show es.nx+1 < nx4 by omega)]
   refine Aa0 rfl (Ac0 (n:=3) (id:=es.nx+1) (ds:=[dd,da,dcc]) (by simp only [bR]) gR6 (by simp only [evt,bR,reduceCtorEq]; exact AR.live (x:=⟨x.dims,x.attrs,onF m x.cells⟩) v1 v2 v3) rfl rfl fun hp7 hg7 hk7=>?_)
   simp only [bR] at hg7 hk7
   have gA5:=(hal5.same es.nx (by omega)).trans hgA4
   have gA7:=(hk7 es.nx (by omega)).trans gA6
   have hps:∀ {a1 a2 a3:List Nat} {q1 q2 q3:Nat} (p:Past),p∈[(⟨q1,a1,hp6,hp7⟩:Past),⟨q2,a2,hp5,hp6⟩,⟨q3,a3,hp4,hp5⟩]→p.a.get es.nx=some (.row _ [d,a,c])∧p.b.get es.nx=some (.row _ [d,a,c]):=fun p hp=>by
    simp only [List.mem_cons,List.not_mem_nil,or_false] at hp
    rcases hp with rfl | rfl | rfl
    ·exact ⟨gA6,gA7⟩
    ·exact ⟨gA5,gA6⟩
    ·exact ⟨hgA4,gA5⟩
   have up:∀ j,Bw nx5 nx6 j→Bw es.nx nx6 j:=fun j hj=>⟨by have:=hj.1; omega,hj.2⟩
   have kp:∀ j,Bw nx5 nx6 j→hp7.get j=hp6.get j:=fun j hj=>hk7 j (by have:=hj.1; omega)
   simp only [bSa,↓bSb]
   refine ⟨Ah7 (fun j hj=>by simpa [DV.refs] using hj) (show es.nx < nx4 by omega) hps (AR.same r1 r2 r3) (Ah7 (fun j hj=>by simpa [DV.refs] using hj) (show es.nx < nx4 by omega) hps (AR.same r1 r2 r3) (Ah7 (fun j hj=>by simpa [DV.refs] using hj) (show es.nx < nx4 by omega) hps (AR.same r1 r2 r3) (Ah7 (fun j hj=>by simpa [DV.refs] using hj) (show es.nx < nx4 by omega) hps (AR.same r1 r2 r3) rfl))),_,_,Ak5 (by simp only [bR,bP]) hg7 rfl,by rw [Ax3]; simp only [bR,bP,Aj0],hK _ _ _ ⟨x.dims,x.attrs,onF m x.cells⟩ 0 ⟨by omega,fun j hj=>by rw [hk7 j (by omega),hal6.same j (by omega),hal5.same j (by omega),ha4.same j hj]⟩ ⟨dd,da,dcc,rfl,(v1.keep kp).mono up,(v2.keep kp).mono up,(v3.keep kp).mono up⟩ (.inr (.inr (.inr ⟨cx,h0,B22 hs hd,rfl,m,hs.1,hsm,rfl⟩))) (.of ((how6 _ _ _ rfl).keep fun j hj=>kp j (v3.refs j hj).1))⟩
  ·simp only [bSa,↓bSb,y0,show decide (¬ e=0)=true by simp [he]]
   refine Ak9 (cs:=[nilS,nilS,nilS]) rfl ?_
   simp only [bSa,↓bSb]
   refine Ac0 (n:=3) (id:=es.nx+1) (ds:=[nilS,nilS,nilS]) (by simp only [bR]) hgR4 (by simp only [evt,bR,reduceCtorEq]; rfl) rfl rfl fun hpA hgB hkB=>?_
   simp only [bR] at hgB hkB
   simp only [bSa,↓bSb]
   exact ⟨_,_,Ak5 (by simp only [bR,bP]) hgB rfl,by rw [Ax3]; simp only [bR,bP,Aj0],hK _ _ _ ⟨[],[],[]⟩ e ⟨by omega,fun j hj=>by rw [hkB j (by omega),ha4.same j hj]⟩ ⟨nilS,nilS,nilS,rfl,.nil,.nil,.nil⟩ (by
    rcases hC with ⟨h0,h1,_⟩ | ⟨h0,h1,_,s,i,hs,hd⟩ | ⟨_,h1,_⟩
    ·exact .inr (.inl ⟨cx,h0,h1,rfl⟩)
    ·exact .inr (.inr (.inl ⟨cx,h0,Ci4 hs hd,h1,rfl⟩))
    ·exact absurd h1 he) (.of (.nil _))⟩
 ·simp only [bSa,↓bSb,show decide (¬ Ac3 x=0)=true by simp [cx]]
  refine Ak9 (cs:=[nilS,nilS,nilS]) rfl ?_
  simp only [bSa,↓bSb]
  refine Ac0 (n:=3) (id:=es.nx+1) (ds:=[nilS,nilS,nilS]) (by simp only [bR]) hgR3 (by simp only [evt,bR]; rfl) rfl rfl fun hpA hgB hkB=>?_
  simp only [bR] at hgB hkB
  simp only [bSa,↓bSb]
  exact ⟨_,_,Ak5 (by simp only [bR,bP]) hgB rfl,by rw [Ax3]; simp only [bR,bP,Aj0],hK _ _ _ ⟨[],[],[]⟩ 2 ⟨by omega,fun j hj=>by rw [hkB j (by omega),ha3.same j hj]⟩ ⟨nilS,nilS,nilS,rfl,.nil,.nil,.nil⟩ (.inl ⟨cx,rfl,rfl⟩) (.of (.nil _))⟩
end
end Go.DD

/- Plain: the difference leads from one to the other. -/
namespace Go.DD
open Go Go.Proofs Go.Sort
theorem Bg8:∀ {l m:List PCell},SrtL l→SrtL m→(∀ e,e∈l↔e∈m)→l=m
 | [],[],_,_,_=>rfl
 | [],b :: m,_,_,h=>by have:=(h b).2 (by simp); cases this
 | a :: l,[],_,_,h=>by have:=(h a).1 (by simp); cases this
 | a :: l,b :: m,hl,hm,h=>by
  obtain ⟨h1,h2⟩:=List.pairwise_cons.1 hl
  obtain ⟨h3,h4⟩:=List.pairwise_cons.1 hm
  have hab:a=b:=by
   rcases List.mem_cons.1 ((h a).1 (by simp)) with e | ha
   ·exact e
   ·rcases List.mem_cons.1 ((h b).2 (by simp)) with e | hb
    ·exact e.symm
    ·have x1:=h3 a ha
     have x2:=h1 b hb
     have:=Ai3 a.pos b.pos
     omega
  subst hab
  congr 1
  refine Bg8 h2 h4 fun e=>⟨fun he=>?_,fun he=>?_⟩
  ·rcases List.mem_cons.1 ((h e).1 (List.mem_cons_of_mem _ he)) with x | x
   ·subst x; exact absurd (h1 _ he) (by rw [Ab9]; decide)
   ·exact x
  ·rcases List.mem_cons.1 ((h e).2 (List.mem_cons_of_mem _ he)) with x | x
   ·subst x; exact absurd (h3 _ he) (by rw [Ab9]; decide)
   ·exact x
theorem Bv5:∀ {l cs:List PCell},SrtL l→SrtL cs→∀ e,e∈onF l cs↔(e∈cs∧∀ c∈l,c.pos≠e.pos)∨(e∈l∧e.vals≠[])
 | [],cs,_,_,e=>by simp [onF]
 | c :: l,cs,hl,hs,e=>by
  obtain ⟨h1,h2⟩:=List.pairwise_cons.1 hl
  have ih:=Bv5 h2 (hs.sublist (List.drop_sublist (nxtW c.pos cs) cs)) e
  unfold onF
  rw [List.mem_append,List.mem_append,ih]
  constructor
  ·rintro (h | h | ⟨h,h3⟩ | h)
   ·have h4:=Bv2 hs e h
    refine .inl ⟨List.mem_of_mem_take h,fun c' hc'=>?_⟩
    rcases List.mem_cons.1 hc' with rfl | hc'
    ·exact fun x=>by rw [x,Ab9] at h4; cases h4
    ·have h5:=Ad4 h4 (h1 c' hc')
     exact fun x=>by rw [x,Ab9] at h5; cases h5
   ·split at h
    ·cases h
    ·rename_i hv
     have:e=c:=by simpa using h
     subst this
     exact .inr ⟨by simp,hv⟩
   ·have h4:=Bv3 hs e h
    refine .inl ⟨List.mem_of_mem_drop h,fun c' hc'=>?_⟩
    rcases List.mem_cons.1 hc' with rfl | hc'
    ·exact fun x=>by rw [x,Ab9] at h4; cases h4
    ·exact h3 c' hc'
   ·exact .inr ⟨List.mem_cons_of_mem _ h.1,h.2⟩
  ·rintro (⟨h,h3⟩ | ⟨h,h3⟩)
   ·by_cases hd:e∈cs.drop (nxtW c.pos cs)
    ·exact .inr (.inr (.inl ⟨hd,fun c' hc'=>h3 c' (List.mem_cons_of_mem _ hc')⟩))
    ·refine .inl ?_
     obtain ⟨t,ht,rfl⟩:=List.getElem_of_mem h
     have hlt:t < nxtW c.pos cs:=Nat.lt_of_not_le fun hge=>hd (by
      have:cs[t]=(cs.drop (nxtW c.pos cs))[t - nxtW c.pos cs]'(by rw [List.length_drop]; omega):=by
       rw [List.getElem_drop]; congr 1; omega
      rw [this]; exact List.getElem_mem _)
     have hlw:t < lowW c.pos cs:=by
      unfold nxtW at hlt
      split at hlt
      ·rename_i hi
       refine Nat.lt_of_not_le fun hge=>?_
       have e1:t=lowW c.pos cs:=by omega
       unfold isAt at hi
       rw [← e1,List.getElem?_eq_getElem ht] at hi
       exact h3 c (by simp) (cmpL_0.1 (of_decide_eq_true hi)).symm
      ·exact hlt
     have:cs[t]=(cs.take (lowW c.pos cs))[t]'(by rw [List.length_take]; omega):=by rw [List.getElem_take]
     rw [this]; exact List.getElem_mem _
   ·rcases List.mem_cons.1 h with rfl | h
    ·exact .inr (.inl (by rw [if_neg h3]; simp))
    ·exact .inr (.inr (.inr ⟨h,h3⟩))
end Go.DD

/- Contracts: the program's equality of arrays. Conditions: those that each theorem states. -/
namespace Go.DD
open Go Go.Proofs
section
variable (k n0:Nat) (hp:Tr DObj) (nx:Nat) (K:DV→Tr DObj→Nat→Prop)
end
end Go.DD

/- Contracts: the reference's Merged. Conditions: those that each theorem states. -/
namespace Go.DD
open Go Go.Proofs
section
variable (k n0:Nat) (hp:Tr DObj) (nx:Nat) (K:DV→Tr DObj→Nat→Prop)
end
end Go.DD

/- Contracts: the program's Same; equal arrays or nothing. Conditions: those that each theorem states. -/
namespace Go.DD
open Go Go.Proofs
section
variable (k n0:Nat) (hp:Tr DObj) (nx:Nat) (K:DV→Tr DObj→Nat→Prop)
end
end Go.DD

/- Plain: Delta and Apply, there and back. -/
namespace Go.DD
open Go Go.Proofs Go.Sort
end Go.DD

/- VersionDeltas returns true: as a contract. Conditions: none. -/
namespace Go.DD
open Go Go.Proofs
def dArr (x:PArr):DV:=.agg [.sl (x.dims.flatMap rDim.cells) x.dims.length,.sl (x.attrs.flatMap rAttr.cells) x.attrs.length,.sl (x.cells.flatMap rCell.cells) x.cells.length]
theorem Bv6 {x:PArr} {most:Nat} (h:fewA x most=true):x.cells.length≤most:=by
 unfold fewA fewC at h
 simp only [Bool.and_eq_true,decide_eq_true_eq] at h
 exact h.2.1
end Go.DD

/- VersionBack returns true: as a contract. Conditions: none. -/
namespace Go.DD
open Go Go.Proofs Go.Sort
theorem ext_a {hp:Tr DObj} {p:Nat→Prop} {x1 x2 x3:DV} {X:PArr} {e:Int} (v1:RL rDim hp p x1 X.dims) (v2:RL rAttr hp p x2 X.attrs) (v3:RL rCell hp p x3 X.cells):extD hp (.tup [.agg [x1,x2,x3],iv e]) 0=some (.agg [x1,x2,x3]):=Ao4 fun id hid=>by
 have:id∈x1.refs∨id∈x2.refs∨id∈x3.refs:=by simpa [DV.refs,DV.refsL,iv] using hid
 rcases this with h1 | h1 | h1
 ·exact (v1.refs id h1).2
 ·exact (v2.refs id h1).2
 ·exact (v3.refs id h1).2
theorem AR.fwd {hp hp':Tr DObj} {n n':Nat} {D:DV} {X:PArr} (h:AR hp (Bl n) D X) (ha:Al hp n hp' n'):AR hp' (Bl n') D X:=by
 obtain ⟨a,b,c,rfl,h1,h2,h3⟩:=h
 exact ⟨a,b,c,rfl,(h1.ka (Nat.le_refl _) ha).bl ha.le,(h2.ka (Nat.le_refl _) ha).bl ha.le,(h3.ka (Nat.le_refl _) ha).bl ha.le⟩
end Go.DD

/- Contracts: the reference's change and Changes. Conditions: those that each theorem states. -/
namespace Go.DD
open Go Go.Proofs Go.Sort
section
variable (k n0:Nat) (hp:Tr DObj) (nx:Nat) (K:DV→Tr DObj→Nat→Prop)
theorem Bj5 (d a cc x y:DV) (X:PArr) (c:PCell) (hn:n0≤nx) (r1:RL rDim hp (Bl n0) d X.dims) (r2:RL rAttr hp (Bl n0) a X.attrs) (r3:RL rCell hp (Bl n0) cc X.cells) (h3:RL rInt hp (Bl n0) x c.pos) (h4:RL rVal hp (Bl n0) y c.vals) (hX:AOK X) (hs:∀ v∈c.vals,slen v)
  (hK:∀ hp' nx',Al hp nx hp' nx'→K (iv (chgE X.dims X.attrs c)) hp' nx'):KW (kN (k+8)) (.fn 135) [.agg [d,a,cc],.agg [x,y]] hp nx K:=by
 refine kn_1 (Aa2 (by decide)) t135 (Nat.le_of_ble_eq_true rfl) fun es e1 e2 he=>?_
 have a0:rawE es (.t .o)=.agg [d,a,cc]:=he 0 _ rfl
 have a1:rawE es (.t (.l .o))=.agg [x,y]:=he 1 _ rfl
 unfold r135
 subst e1 e2
 simp only [↓bSb]
 refine Ab0 (cs:=[d,a,cc]) (by rw [evt,a0]; exact AR.live r1 r2 r3) fun hp1 hg1 hk1=>?_
 simp only [bR] at hg1 hk1
 have hal1:Al es.hp es.nx hp1 (es.nx+1):=⟨by omega,fun j hj=>hk1 j (by omega)⟩
 simp only [bSa,↓bSb]
 refine Ab0 (cs:=[x,y]) (by simp only [evt,bR,reduceCtorEq,a1]; exact Aa5 (h3.ka hn hal1) (h4.ka hn hal1)) fun hp2 hg2 hk2=>?_
 simp only [bR] at hg2 hk2
 have hal2:Al es.hp es.nx hp2 (es.nx+1+1):=⟨by omega,fun j hj=>by rw [hk2 j (by omega),hk1 j (by omega)]⟩
 have gA:hp2.get es.nx=_:=(hk2 es.nx (by omega)).trans hg1
 obtain ⟨⟨F0,F1,F2⟩,L0,L1,L2,_⟩:=Aa4 gA
 obtain ⟨⟨f0,f1⟩,l0,l1,_⟩:=Ac6 hg2
 have q1:=r1.ka hn hal2
 have q2:=r2.ka hn hal2
 have q3:=h3.ka hn hal2
 have q4:=h4.ka hn hal2
 by_cases c1:c.pos.length=X.dims.length
 ·by_cases c2:c.vals.length=0
  ·have sh:¬ (c.pos.length≠X.dims.length∨(c.vals.length≠0∧c.vals.length≠X.attrs.length)):=by omega
   simp only [bSa,↓bSb,F0,L0,f0,f1,l0,l1,q1.len,q3.len,q4.len,show decide (¬ c.pos.length=X.dims.length)=false by simp [c1],show decide (¬ ((c.vals.length:Int)=0))=false by simp [c2]]
   refine kws (Bq6 (k:=k+5) n0 _ _ _ d x X.dims c.pos (by omega) q1 q3 hX.d fun hp3 nx3 hal3=>?_)
   have hle3:=hal3.le
   have hob:ofB X.dims c.pos=ofF X.dims c.pos:=by unfold ofB; rw [decide_eq_true c1]; rfl
   rw [hob]
   have ha3:=hal2.trans hal3
   have gA3:=(hal3.same es.nx (by omega)).trans gA
   have gB3:=(hal3.same (es.nx+1) (by omega)).trans hg2
   obtain ⟨⟨G0,G1,G2⟩,M0,M1,M2,_⟩:=Aa4 gA3
   obtain ⟨⟨g0,g1⟩,m0,m1,_⟩:=Ac6 gB3
   have p1:=r1.ka hn ha3
   have p2:=r2.ka hn ha3
   have p3:=h3.ka hn ha3
   have p4:=h4.ka hn ha3
   cases ho:ofF X.dims c.pos with
   | false=>
    have ce:chgE X.dims X.attrs c=3:=by unfold chgE; rw [if_neg sh,if_pos ho]
    simp only [bSa,↓bSb,bP]
    rw [ce] at hK
    exact hK _ _ ha3
   | true=>
    have ce:chgE X.dims X.attrs c=0:=by unfold chgE; rw [if_neg sh,if_neg (by rw [ho]; decide),if_neg (by (have:c.vals=[]:=List.length_eq_zero_iff.1 c2); rw [this]; cases X.attrs <;> simp [fitsL])]
    simp only [bSa,↓bSb,bP,g1,m1,p4.len,show decide ((c.vals.length:Int)=0)=true by simp [c2]]
    rw [ce] at hK
    exact hK _ _ ha3
  ·by_cases c3:c.vals.length=X.attrs.length
   ·have sh:¬ (c.pos.length≠X.dims.length∨(c.vals.length≠0∧c.vals.length≠X.attrs.length)):=by omega
    simp only [bSa,↓bSb,F0,F1,L0,L1,f0,f1,l0,l1,q1.len,q2.len,q3.len,q4.len,show decide (¬ c.pos.length=X.dims.length)=false by simp [c1],show decide (¬ ((c.vals.length:Int)=0))=true by simp [c2],show decide (¬ c.vals.length=X.attrs.length)=false by simp [c3]]
    refine kws (Bq6 (k:=k+5) n0 _ _ _ d x X.dims c.pos (by omega) q1 q3 hX.d fun hp3 nx3 hal3=>?_)
    have hle3:=hal3.le
    have hob:ofB X.dims c.pos=ofF X.dims c.pos:=by unfold ofB; rw [decide_eq_true c1]; rfl
    rw [hob]
    have ha3:=hal2.trans hal3
    have gA3:=(hal3.same es.nx (by omega)).trans gA
    have gB3:=(hal3.same (es.nx+1) (by omega)).trans hg2
    obtain ⟨⟨G0,G1,G2⟩,M0,M1,M2,_⟩:=Aa4 gA3
    obtain ⟨⟨g0,g1⟩,m0,m1,_⟩:=Ac6 gB3
    have p1:=r1.ka hn ha3
    have p2:=r2.ka hn ha3
    have p3:=h3.ka hn ha3
    have p4:=h4.ka hn ha3
    cases ho:ofF X.dims c.pos with
    | false=>
     have ce:chgE X.dims X.attrs c=3:=by unfold chgE; rw [if_neg sh,if_pos ho]
     simp only [bSa,↓bSb,bP]
     rw [ce] at hK
     exact hK _ _ ha3
    | true=>
     have ce:chgE X.dims X.attrs c=cellE X.dims X.attrs c:=by
      have h1:cellE X.dims X.attrs c=if fitsL c.vals X.attrs=false then 12 else 0:=by unfold cellE; rw [if_neg (by omega),if_neg (by rw [hob,ho]; decide)]
      unfold chgE
      rw [if_neg sh,if_neg (by rw [ho]; decide),h1]
     simp only [bSa,↓bSb,G0,G1,M0,M1,g0,g1,m0,m1,p4.len,show decide ((c.vals.length:Int)=0)=false by simp [c2]]
     refine Ak9 (cs:=[x,y]) (by simp only [List.map_cons,List.map_nil,n_ev,bR,reduceCtorEq,bP,p3.live,p4.live]; exact Ax0 p3.ok p4.ok) ?_
     simp only [bSa,↓bSb]
     refine kws (Bf9 k n0 _ _ _ d a x y X.dims X.attrs c (by omega) p1 p2 p3 p4 hX.d hX.a hs fun hp4 nx4 hal4=>?_)
     simp only [bSa,↓bSb,bP]
     rw [ce] at hK
     exact hK _ _ (ha3.trans hal4)
   ·have ce:chgE X.dims X.attrs c=13:=by unfold chgE; rw [if_pos (.inr ⟨c2,c3⟩)]
    simp only [bSa,↓bSb,bP,F0,F1,L0,L1,f0,f1,l0,l1,q1.len,q2.len,q3.len,q4.len,show decide (¬ c.pos.length=X.dims.length)=false by simp [c1],show decide (¬ ((c.vals.length:Int)=0))=true by simp [c2],show decide (¬ c.vals.length=X.attrs.length)=true by simp [c3]]
    rw [ce] at hK
    exact hK _ _ hal2
 ·have ce:chgE X.dims X.attrs c=13:=by unfold chgE; rw [if_pos (.inl c1)]
  simp only [bSa,↓bSb,bP,F0,L0,f0,l0,q1.len,q3.len,show decide (¬ c.pos.length=X.dims.length)=true by simp [c1]]
  rw [ce] at hK
  exact hK _ _ hal2
end
end Go.DD

/- Contracts: the reference's Changes. Conditions: those that each theorem states. -/
namespace Go.DD
open Go Go.Proofs Go.Sort
def RchR (D:List PDim) (A:List PAttr) (l:List PCell) (e:Int):Prop:=
 (chgsE D A l≠0∧e=chgsE D A l)∨(chgsE D A l=0∧¬ (l.map PCell.pos).Nodup∧e=5)∨(chgsE D A l=0∧(l.map PCell.pos).Nodup∧e=0)
theorem A33 {hp:Tr DObj} {p:Nat→Prop} {a b c:DV} {X:PArr} {n m:Nat} (h1:RL rDim hp p a X.dims) (h2:RL rAttr hp p b X.attrs) (h3:RL rCell hp p c X.cells) (hp0:∀ j,p j→j < n∨n+m≤j) (an:List Nat):Aa6 (.agg [a,b,c]) (fun id=>okRef n m an hp id):=fun id hid=>by
 have:id∈a.refs∨id∈b.refs∨id∈c.refs:=by simpa [DV.refs,DV.refsL] using hid
 have w1:=h1.ro' (n:=n) (m:=m) (an:=an) hp0
 have w2:=h2.ro' (n:=n) (m:=m) (an:=an) hp0
 have w3:=h3.ro' (n:=n) (m:=m) (an:=an) hp0
 rcases this with h | h | h
 ·exact w1 id h
 ·exact w2 id h
 ·exact w3 id h
section
variable (k n0:Nat)
theorem Cq8 {es:ES} {Q:Exit→ES→Prop} {hp:Tr DObj} {nx i:Nat} {ls:DV} {l:List PCell} (hn:n0≤nx) (hL:RL rChange hp (Bl n0) ls l) (hi:i < l.length) (hl:l.length < 900000) (hb:∀ c∈l,c.pos.length < 900000) (g:Al hp nx es.hp es.nx) (b1:rawE es (.t (.l .o))=ls) (b7:rawE es (.t (.l (.l (.l .o))))=iv (i:Nat)) (b8:rawE es (.t (.r (.l (.l .o))))=iv (0:Nat))
  (hQ:(∀ t,(h:t < i)→(l[t]'(by omega)).pos≠l[i].pos)→∀ es',Al hp nx es'.hp es'.nx→rawE es' (.t (.l .o))=ls→rawE es' (.t (.l (.l (.l .o))))=iv (i:Nat)→Q (.exit 4) es')
  (hR:¬ (l.map PCell.pos).Nodup→∀ es',Al hp nx es'.hp es'.nx→rawE es' (.t (.r (.l .o)))=iv 5→Q .ret es') :
  EW (cL 1000000 l62_2) (kN (k+2)) es Q:=by
 refine EW.up i (fun t es1=>Al hp nx es1.hp es1.nx∧(∀ s,(h:s < t)→(h2:s < l.length)→l[s].pos≠l[i].pos)∧rawE es1 (.t (.l .o))=ls∧rawE es1 (.t (.l (.l (.l .o))))=iv (i:Nat)∧rawE es1 (.t (.r (.l (.l .o))))=iv (t:Nat)) ?_ ⟨g,fun s h=>by omega,b1,b7,b8⟩ (by omega)
 rintro t es1 ht ⟨g,hof,b1,b7,b8⟩
 unfold l62_2
 have hle:=g.le
 have r:=hL.ka hn g
 by_cases h:t < i
 ·have ht':t < l.length:=by omega
  obtain ⟨pA,vA,rA,_,_,lA,_⟩:=Ao0 r ht'
  obtain ⟨pB,vB,rB,_,_,lB,_⟩:=Ao0 r hi
  simp only [bSa,↓bSb,b1,b7,b8,h,Ad6 r ht',Ad6 r hi,As1 (k:=0) r ht',As1 (k:=0) r hi,lA,lB,r.rox (m:=11) (show n0≤es1.nx by omega),Ax1 (m:=11) r (show n0≤es1.nx by omega),A30 (m:=11) r (show n0≤es1.nx by omega),rA.rox (m:=11) (show n0≤es1.nx by omega),rB.rox (m:=11) (show n0≤es1.nx by omega)]
  refine Aa0 rfl (Aa7 ?_)
  simp only [bR,List.map_cons,List.map_nil]
  refine Be7 (k+1) n0 _ _ _ pA pB l[t].pos l[i].pos (by omega) rA rB (hb _ (List.getElem_mem _)) fun nx5 hle5=>?_
  by_cases c1:l[t].pos=l[i].pos
  ·simp only [bSa,↓bSb,decide_eq_true c1,hle5]
   refine hR (fun hn=>?_) _ (by simpa only [bR] using g.nx (show es1.nx≤nx5 by omega)) (by simp only [bR])
   have:=List.pairwise_iff_getElem.1 hn t i (by simpa using ht') (by simpa using hi) h
   simp only [List.getElem_map] at this
   exact this c1
  ·simp only [bSa,↓bSb,b1,b7,b8,h,decide_eq_false c1,hle5,Aa3 (show t < _ by omega)]
   refine ⟨g.nx (show es1.nx≤nx5 by omega),fun s hs h2=>?_⟩
   by_cases e:s=t
   ·subst e; exact c1
   ·exact hof s (by omega) h2
 ·simp only [bSa,↓bSb,b7,b8,h]
  exact hQ (fun s hs=>hof s (by omega) (by omega)) _ (by simpa only [bR] using g) (by simp only [bR,b1]) (by simp only [bR,b7])
theorem Cq9 {es:ES} {Q:Exit→ES→Prop} {hp:Tr DObj} {nx B TB:Nat} {ls d a cc:DV} {l:List PCell} {X:PArr} (hn:n0≤nx) (hB:hp.get B=some (.row TB [d,a,cc])) (hBl:B < nx) (hL:RL rChange hp (Bl n0) ls l) (h1:RL rDim hp (Bl n0) d X.dims) (h2:RL rAttr hp (Bl n0) a X.attrs) (h3:RL rCell hp (Bl n0) cc X.cells) (hX:AOK X) (hl:l.length < 900000) (hc:∀ c∈l,∀ v∈c.vals,slen v)
  (g:Al hp nx es.hp es.nx) (b1:rawE es (.t (.l .o))=ls) (b2:rawE es (.t (.r .o))=.pt B 0) (b5:rawE es (.t (.l (.r .o)))=iv (0:Nat))
  (hQ:chgsE X.dims X.attrs l=0→∀ es',Al hp nx es'.hp es'.nx→rawE es' (.t (.l .o))=ls→Q (.exit 0) es')
  (hR:chgsE X.dims X.attrs l≠0→∀ es',Al hp nx es'.hp es'.nx→rawE es' (.t (.r (.l .o)))=iv (chgsE X.dims X.attrs l)→Q .ret es') :
  EW (cL 1000000 l62_1) (kN (k+8)) es Q:=by
 refine EW.up l.length (fun i es1=>Al hp nx es1.hp es1.nx∧chgsE X.dims X.attrs l=chgsE X.dims X.attrs (l.drop i)∧rawE es1 (.t (.l .o))=ls∧rawE es1 (.t (.r .o))=.pt B 0∧rawE es1 (.t (.l (.r .o)))=iv (i:Nat)) ?_ ⟨g,rfl,b1,b2,b5⟩ (by omega)
 rintro i es1 hi ⟨g,hof,b1,b2,b5⟩
 unfold l62_1
 have hle:=g.le
 have r:=hL.ka hn g
 by_cases h:i < l.length
 ·rw [Bv0 h] at hof
  obtain ⟨x,y,rx,ry,lC,_,_⟩:=Ao0 r h
  have gB:=(g.same B hBl).trans hB
  obtain ⟨_,_,_,_,lB⟩:=Aa4 gB
  have q1:=h1.ka hn g
  have q2:=h2.ka hn g
  have q3:=h3.ka hn g
  have ro3:=A33 (n:=es1.nx) (m:=7) q1 q2 q3 fun j (hj:j < n0)=>.inl (by omega)
  have ro2:∀ an,Aa6 (.agg [x,y]) (fun id=>okRef es1.nx 7 an es1.hp id):=fun an=>ro_pr (rx.rox (show n0≤es1.nx by omega)) (ry.rox (show n0≤es1.nx by omega))
  simp only [bSa,↓bSb,b1,b2,b5,r.len,h,Ad6 r h,lC,lB,Aa1 (n0:=es1.nx) (m:=7) gB (show B < es1.nx by omega),r.rox (m:=7) (show n0≤es1.nx by omega),Ax1 (m:=7) r (show n0≤es1.nx by omega),iff_true_intro (ro3 _),iff_true_intro (ro2 _)]
  refine Aa0 rfl (Aa7 ?_)
  simp only [bR,List.map_cons,List.map_nil]
  refine Bj5 k n0 _ _ _ d a cc x y X l[i] (by omega) q1 q2 q3 rx ry hX (hc _ (List.getElem_mem h)) fun hp5 nx5 hal5=>?_
  have hle5:=hal5.le
  have g5:=(g.nx (show es1.nx≤es1.nx+7 by omega)).trans hal5
  by_cases ce:chgE X.dims X.attrs l[i]=0
  ·rw [if_neg (by rw [ce]; decide)] at hof
   simp only [bSa,↓bSb,b1,b2,b5,h,hle5,show decide (¬ chgE X.dims X.attrs l[i]=0)=false by simp [ce],Aa3 (show i < _ by omega)]
   exact ⟨g5,hof⟩
  ·rw [if_pos ce] at hof
   simp only [bSa,↓bSb,hle5,show decide (¬ chgE X.dims X.attrs l[i]=0)=true by simp [ce]]
   exact hR (by rw [hof]; exact ce) _ (by simpa only [bR] using g5) (by simp only [bR]; rw [hof])
 ·rw [List.drop_eq_nil_of_le (by omega)] at hof
  simp only [bSa,↓bSb,b1,b5,r.len,h]
  exact hQ hof _ (by simpa only [bR] using g) (by simp only [bR,b1])
theorem A93 (hp:Tr DObj) (nx:Nat) (K:DV→Tr DObj→Nat→Prop) (d a cc ls:DV) (X:PArr) (l:List PCell) (hn:n0≤nx) (r1:RL rDim hp (Bl n0) d X.dims) (r2:RL rAttr hp (Bl n0) a X.attrs) (r3:RL rCell hp (Bl n0) cc X.cells) (hL:RL rChange hp (Bl n0) ls l) (hX:AOK X) (hl:l.length < 900000) (hb:∀ c∈l,c.pos.length < 900000) (hc:∀ c∈l,∀ v∈c.vals,slen v)
  (hK:∀ hp' nx' e,Al hp nx hp' nx'→RchR X.dims X.attrs l e→K (iv e) hp' nx'):KW (kN (k+9)) (.fn 62) [.agg [d,a,cc],ls] hp nx K:=by
 refine kn_1 (Aa2 (by decide)) t62 (Nat.le_of_ble_eq_true rfl) fun es e1 e2 he=>?_
 have a0:rawE es (.t .o)=.agg [d,a,cc]:=he 0 _ rfl
 have a1:rawE es (.t (.l .o))=ls:=he 1 _ rfl
 unfold r62
 subst e1 e2
 simp only [↓bSb]
 refine Ab0 (cs:=[d,a,cc]) (by rw [evt,a0]; exact AR.live r1 r2 r3) fun hp1 hg1 hk1=>?_
 simp only [bR] at hg1 hk1
 have hal1:Al es.hp es.nx hp1 (es.nx+1):=⟨by omega,fun j hj=>hk1 j (by omega)⟩
 have hL1:=hL.ka hn hal1
 simp only [bSa,↓bSb]
 refine Cq9 k n0 (hp:=hp1) (nx:=es.nx+1) (B:=es.nx) (ls:=ls) (d:=d) (a:=a) (cc:=cc) (l:=l) (X:=X) (by omega) hg1 (by omega) hL1 (r1.ka hn hal1) (r2.ka hn hal1) (r3.ka hn hal1) hX hl hc (by simpa only [bR] using Al.refl _ _) (by simp only [bR,a1]) (by simp only [bR]) (by simp only [bR]; rfl) (fun h0 es2 g2 b1=>?_) fun h0 es2 g2 b4=>?_
 ·simp only [bSa,↓bSb]
  refine EW.up l.length (fun i es3=>Al hp1 (es.nx+1) es3.hp es3.nx∧(∀ s u,(h:s < u)→(h2:u < i)→(h3:u < l.length)→(l[s]'(by omega)).pos≠l[u].pos)∧rawE es3 (.t (.l .o))=ls∧rawE es3 (.t (.l (.l (.l .o))))=iv (i:Nat)) ?_ ⟨by simpa only [bR] using g2,fun s u h h2=>by omega,by simp only [bR,b1],by simp only [bR]; rfl⟩ (by omega)
  rintro i es3 hi ⟨g3,hof,x1,x7⟩
  unfold l62_3
  have hle3:=g3.le
  have r:=hL1.ka (by omega) g3
  by_cases h:i < l.length
  ·simp only [bSa,↓bSb,x1,x7,r.len,h]
   refine Cq8 (k+6) n0 (hp:=hp1) (nx:=es.nx+1) (i:=i) (ls:=ls) (l:=l) (by omega) hL1 h hl hb (by simpa only [bR] using g3) (by simp only [bR,x1]) (by simp only [bR,x7]) (by simp only [bR]; rfl) (fun hq es4 g4 y1 y7=>?_) fun hq es4 g4 y4=>?_
   ·simp only [bSa,↓bSb,y1,y7,h,Aa3 (show i < _ by omega)]
    refine ⟨g4,fun s u hs hu h3=>?_⟩
    by_cases e:u=i
    ·subst e; exact hq s hs
    ·exact hof s u hs (by omega) h3
   ·simp only [bSa,↓bSb,bP,y4]
    exact hK _ _ _ (hal1.trans g4) (.inr (.inl ⟨h0,hq,rfl⟩))
  ·simp only [bSa,↓bSb,bP,x1,x7,r.len,h]
   refine hK _ _ _ (hal1.trans g3) (.inr (.inr ⟨h0,?_,rfl⟩))
   refine List.pairwise_iff_getElem.2 fun s u hs hu hsu=>?_
   simp only [List.getElem_map]
   exact hof s u hsu (by (have:u < l.length:=by simpa using hu); omega) (by simpa using hu)
 ·simp only [bSa,↓bSb,bP,b4]
  exact hK _ _ _ (hal1.trans g2) (.inl ⟨h0,rfl⟩)
end
end Go.DD
