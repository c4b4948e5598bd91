/- A part. -/
import Derived.Test.YtnphfnhhpcelbaaGreatZf
import Derived.Test.YtnphfnhhpcelbaaGreatZi
import Derived.Test.YtnphfnhhpcelbaaGreatZj
import Derived.Laws.RangeAny
import Derived.Laws.RangeString
set_option linter.unusedSectionVars false
set_option linter.unusedVariables false
namespace Go.DD
open Go Go.Proofs
theorem te_ok:TbOK Tryz.prog 1000000 te:=Bq3 _ _
theorem Bs2 {f:Nat} (cl0n:∀ cap,Known Tryz.prog f [.v (.slice none 0 cap)] (.v (.slice none 0 0))) (cl0s:∀ a cap,Known Tryz.prog f [.v (.slice (some a) 0 cap)] (.sl [] 0)):Known Tryz.prog f [.sl [] 0] (.sl [] 0):=by
 refine ⟨(cl0n 0).1,fun x hx=>by rw [List.mem_singleton] at hx; subst hx; rfl,fun w S vs h1 h2 h3 hg=>?_⟩
 obtain ⟨v,rfl⟩:∃ v,vs=[v]:=by
  match vs,h2 with
  | [v],_=>exact ⟨v,rfl⟩
 have hr:=h3 0 v _ rfl rfl
 have fin:∀ a cap,v=.slice a 0 cap→Calls Tryz.prog f [v].toArray w fun e w'=>∃ v r,e=.returned v∧r=.sl [] 0∧Go.RowKit.Below w.heap.size w w'∧RelI w' (fun b=>(S b∨w.heap.size≤b)∧b < w'.heap.size) v r:=by
  intro a cap hv
  subst hv
  cases a with
  | none=>
   refine ((cl0n cap).2.2 w S [.slice none 0 cap] h1 rfl (fun j u d hu hd=>?_) hg).mono fun e w' ⟨v,r,h4,h5,h6,h7⟩=>?_
   ·match j with
    | 0=>cases hu; cases hd; exact .v _
    | j+1=>cases hu
   ·subst h5
    cases h7
    exact ⟨_,_,h4,rfl,h6,.sl0 _ _⟩
  | some a=>
   refine (cl0s a cap).2.2 w S [.slice (some a) 0 cap] h1 rfl (fun j u d hu hd=>?_) hg
   match j with
   | 0=>cases hu; cases hd; exact .v _
   | j+1=>cases hu
 cases hr with
 | sl0 a cap=>exact fin a cap rfl
 | sl ad n cap us cs hl hn ha ho hc h=>exact fin (some ad) cap rfl
def Bh4:List Nat:=[70,142,139,162,163]
theorem Cs3:∀ f∈Bh4,Known Tryz.prog f [.sl [] 0] (.sl [] 0):=by
 intro f hf
 simp only [Bh4,List.mem_cons,List.mem_nil_iff,or_false] at hf
 rcases hf with rfl | rfl | rfl | rfl | rfl <;> exact Bs2 (fun cap=>A69 (n:=1000) (k:=3) mixed te_ok (MemoOK.nil _) rfl (by kernel_rfl)) fun a cap=>A69 (n:=1000) (k:=3) mixed te_ok (MemoOK.nil _) rfl (by kernel_rfl)
noncomputable def relW (f:Nat) (ds:List DV):Option DV:=if f=15 then (match ds with
 | []=>some (.v (.bool true))
 | _=>none) else if f∈Bh4 then (match ds with
 | [.sl [] 0]=>some (.sl [] 0)
 | _=>none) else none
theorem Ci1:∀ f ds d,relW f ds=some d→Known Tryz.prog f ds d:=by
 intro f ds d h
 unfold relW at h
 split at h
 ·rename_i hf
  subst hf
  cases ds with
  | nil=>cases h; exact Cs2
  | cons _ _=>cases h
 ·split at h
  ·rename_i hf
   split at h
   ·cases h; exact Cs3 f hf
   ·cases h
  ·cases h
theorem Aa3 {f:Nat} {ds:List DV} (h:f≠15∧f∉Bh4):relW f ds=none:=by unfold relW; rw [if_neg h.1,if_neg h.2]
noncomputable def kN (k:Nat):CallT:=callN te 1000000 relW k
theorem Aq0 (k:Nat) (hp:Tr DObj) (nx:Nat) (K:DV→Tr DObj→Nat→Prop) (h:K (.v (.bool true)) hp nx):KW (kN (k+1)) (.fn 15) [] hp nx K:=A70 (d:=.v (.bool true)) rfl h
section
variable {α:Type} {R:Rep α} {hp hp':Tr DObj} {n0 nx nx':Nat} {d:DV} {l:List α}
theorem RL.ka (h:RL R hp (Bl n0) d l) (hn:n0≤nx) (a:Al hp nx hp' nx'):RL R hp' (Bl n0) d l:=h.keep fun j hj=>a.same j (Nat.lt_of_lt_of_le hj hn)
theorem RL.bl {n:Nat} (h:RL R hp (Bl n0) d l) (hn:n0≤n):RL R hp (Bl n) d l:=h.mono fun _ hj=>Nat.lt_of_lt_of_le hj hn
theorem RL.rox {n m:Nat} {an:List Nat} (h:RL R hp (Bl n0) d l) (hn:n0≤n):Aa6 d (fun id=>okRef n m an hp id):=h.ro fun _ hj=>Nat.lt_of_lt_of_le hj hn
theorem RL.roax {n m i:Nat} {an:List Nat} (h:RL R hp (Bl n0) d l) (hn:n0≤n):Aa6 (adrE R.e d i) (fun id=>okRef n m an hp id):=h.roa fun _ hj=>Nat.lt_of_lt_of_le hj hn
theorem RL.rofx {n m i k:Nat} {an:List Nat} (h:RL R hp (Bl n0) d l) (hn:n0≤n):Aa6 (adrF (adrE R.e d i) k) (fun id=>okRef n m an hp id):=h.rof fun _ hj=>Nat.lt_of_lt_of_le hj hn
end
theorem Al.nx {hp hp':Tr DObj} {n n' m:Nat} (a:Al hp n hp' n') (h:n'≤m):Al hp n hp' m:=⟨Nat.le_trans a.le h,a.same⟩
theorem Al.new {hp hp' hp2:Tr DObj} {n n' n2:Nat} (a:Al hp n hp' n') (h:n'≤n2) (hk:∀ j,j < n→hp2.get j=hp'.get j):Al hp n hp2 n2:=⟨Nat.le_trans a.le h,fun j hj=>(hk j hj).trans (a.same j hj)⟩
theorem Al.ini (hp:Tr DObj) {n m:Nat} (h:n≤m):Al hp n hp m:=⟨h,fun _ _=>rfl⟩
section
variable {hp:Tr DObj} {n0:Nat} {p:Nat→Prop} {d:DV} {l:List Int} {i:Nat}
theorem Ag8 (h:RL rInt hp p d l) (hi:i < l.length):iaD hp 1 d (.v (.int .i64 (i:Int)))=some (adrE 1 d i):=h.ia hi
theorem Ak5 {n m:Nat} {an:List Nat} (h:RL rInt hp (Bl n0) d l) (hn:n0≤n):Aa6 (adrE 1 d i) (fun id=>okRef n m an hp id)↔True:=iff_true_intro (h.roax hn)
end
section
variable {hp:Tr DObj} {n0:Nat} {p:Nat→Prop} {d:DV} {l:List PVal} {i:Nat}
theorem Ao6 (h:RL rVal hp p d l) (hi:i < l.length):iaD hp 4 d (.v (.int .i64 (i:Int)))=some (adrE 4 d i):=h.ia hi
theorem Ci2 {k:Nat} (h:RL rVal hp p d l) (hi:i < l.length):faD hp k (adrE 4 d i)=some (adrF (adrE 4 d i) k):=h.fa hi
theorem At7 {n m:Nat} {an:List Nat} (h:RL rVal hp (Bl n0) d l) (hn:n0≤n):Aa6 (adrE 4 d i) (fun id=>okRef n m an hp id)↔True:=iff_true_intro (h.roax hn)
end
section
variable {hp:Tr DObj} {n0:Nat} {p:Nat→Prop} {d:DV} {l:List PDim} {i:Nat}
theorem Ak6 (h:RL rDim hp p d l) (hi:i < l.length):iaD hp 3 d (.v (.int .i64 (i:Int)))=some (adrE 3 d i):=h.ia hi
theorem Bb2 {k:Nat} (h:RL rDim hp p d l) (hi:i < l.length):faD hp k (adrE 3 d i)=some (adrF (adrE 3 d i) k):=h.fa hi
theorem At8 {n m:Nat} {an:List Nat} (h:RL rDim hp (Bl n0) d l) (hn:n0≤n):Aa6 (adrE 3 d i) (fun id=>okRef n m an hp id)↔True:=iff_true_intro (h.roax hn)
end
section
variable {hp:Tr DObj} {n0:Nat} {p:Nat→Prop} {d:DV} {l:List PAttr} {i:Nat}
theorem Ai9 (h:RL rAttr hp p d l) (hi:i < l.length):iaD hp 2 d (.v (.int .i64 (i:Int)))=some (adrE 2 d i):=h.ia hi
theorem A33 {k:Nat} (h:RL rAttr hp p d l) (hi:i < l.length):faD hp k (adrE 2 d i)=some (adrF (adrE 2 d i) k):=h.fa hi
theorem Aj6 {n m:Nat} {an:List Nat} (h:RL rAttr hp (Bl n0) d l) (hn:n0≤n):Aa6 (adrE 2 d i) (fun id=>okRef n m an hp id)↔True:=iff_true_intro (h.roax hn)
theorem A78 {n m k:Nat} {an:List Nat} (h:RL rAttr hp (Bl n0) d l) (hn:n0≤n):Aa6 (adrF (adrE 2 d i) k) (fun id=>okRef n m an hp id)↔True:=iff_true_intro (h.rofx hn)
end
section
variable {hp:Tr DObj} {n0:Nat} {p:Nat→Prop} {d:DV} {l:List PCell} {i:Nat}
theorem Ab8 (h:RL rCell hp p d l) (hi:i < l.length):iaD hp 2 d (.v (.int .i64 (i:Int)))=some (adrE 2 d i):=h.ia hi
theorem Ae6 {k:Nat} (h:RL rCell hp p d l) (hi:i < l.length):faD hp k (adrE 2 d i)=some (adrF (adrE 2 d i) k):=h.fa hi
theorem Ai0 {n m:Nat} {an:List Nat} (h:RL rCell hp (Bl n0) d l) (hn:n0≤n):Aa6 (adrE 2 d i) (fun id=>okRef n m an hp id)↔True:=iff_true_intro (h.roax hn)
theorem Aw7 {n m k:Nat} {an:List Nat} (h:RL rCell hp (Bl n0) d l) (hn:n0≤n):Aa6 (adrF (adrE 2 d i) k) (fun id=>okRef n m an hp id)↔True:=iff_true_intro (h.rofx hn)
end
section
variable {hp:Tr DObj} {n0:Nat} {p:Nat→Prop} {d:DV} {l:List (List Int)} {i:Nat}
end
section
variable {hp:Tr DObj} {n0:Nat} {p:Nat→Prop} {d:DV} {l:List (List PVal)} {i:Nat}
end
theorem Aq1 {α:Type} {l m:List α} {i:Nat} (h1:i < l.length) (h2:i < m.length):(l.drop i=m.drop i)↔(l[i]=m[i]∧l.drop (i+1)=m.drop (i+1)):=by
 rw [List.drop_eq_getElem_cons h1,List.drop_eq_getElem_cons h2,List.cons.injEq]
theorem Az2 (neg:Bool) (ks:List Nat) (x y:Operand) (nid:Nat) (es:ES):xKeep (xAny (.eqs neg ks x y)) nid es=eqsD neg ks (es.ds.ev x) (es.ds.ev y):=xk_k (X:=fun es=>eqsD neg ks (es.ds.ev x) (es.ds.ev y)) (k_eqs neg ks x y) nid
theorem An4 {hp:Tr DObj} {cs:List DV} (h:DV.refsL cs=[]):liveE hp (.agg cs)=.agg cs:=Ac9 (by rw [DV.refs]; exact h)
theorem As1 {cs:List DV} {f:Nat→Bool} (h:DV.refsL cs=[]):Aa6 (.agg cs) f↔True:=A71 (by rw [DV.refs]; exact h)
theorem bytes_eq (a b:ByteArray):(a.toList == b.toList)=decide (a=b):=by
 by_cases h:a=b
 ·subst h; simp
 ·have:a.toList≠b.toList:=fun e=>h (by
   rw [ByteArray.toList_eq,ByteArray.toList_eq] at e
   have e2:=Array.toList_inj.1 e
   obtain ⟨a⟩:=a; obtain ⟨b⟩:=b
   simp only at e2; rw [e2])
  simp [h,this]
theorem eq_vc (x y:PVal):eqL [0,0,0,2] (vc x) (vc y)=some (decide (x=y)):=by
 obtain ⟨k,n,d,s⟩:=x
 obtain ⟨k',n',d',s'⟩:=y
 simp only [vc,eqL,eqC,iv,sv,if_true,bytes_eq,PVal.mk.injEq]
 by_cases h1:k=k'
 ·by_cases h2:n=n'
  ·by_cases h3:d=d'
   ·by_cases h4:s=s' <;> simp [h1,h2,h3,h4]
   ·simp [h1,h2,h3,beq_eq_false_iff_ne.2 h3]
  ·simp [h1,h2,beq_eq_false_iff_ne.2 h2]
 ·simp [h1,beq_eq_false_iff_ne.2 h1]
theorem eq_dc (x y:PDim):eqL [2,0,0] (dc x) (dc y)=some (decide (x=y)):=by
 obtain ⟨n,a,b⟩:=x
 obtain ⟨n',a',b'⟩:=y
 simp only [dc,eqL,eqC,iv,sv,if_true,bytes_eq,PDim.mk.injEq]
 by_cases h1:n=n'
 ·by_cases h2:a=a'
  ·by_cases h3:b=b'
   ·simp [h1,h2,h3]
   ·simp [h1,h2,h3,beq_eq_false_iff_ne.2 h3]
  ·simp [h1,h2,beq_eq_false_iff_ne.2 h2]
 ·simp [h1]
theorem eq_ac (x y:PAttr):eqL [2,0] (ac x) (ac y)=some (decide (x=y)):=by
 obtain ⟨n,a⟩:=x
 obtain ⟨n',a'⟩:=y
 simp only [ac,eqL,eqC,iv,sv,if_true,bytes_eq,PAttr.mk.injEq]
 by_cases h1:n=n'
 ·by_cases h2:a=a'
  ·simp [h1,h2]
  ·simp [h1,h2,beq_eq_false_iff_ne.2 h2]
 ·simp [h1]
theorem sw_gC {p:Pa} {b:Bool} {f:Nat} {args:List EO} {dst:Option Pa} {call:CallT} {es:ES} {Q:ES→Prop} : SW (sG p b dst (sCall f args dst)) call es Q↔GW (rawE es (.t p)) b (SW (sCall f args dst) call es Q) (Q (es.putE dst (.v undef))):=sw_g'
theorem k_lkp (kd:KD) (z:Value) (x k:Operand) (es:ES) (nid:Nat):xAny (.lkp kd z x k false) es nid=keepU (lkpD es.hp kd z (es.ds.ev x) (es.ds.ev k)):=by
 rw [x_any]
 simp only [execU,lkpD]
 cases kvOf (es.ds.ev k) with
 | none=>rfl
 | some kv=>
  simp only []
  by_cases hk:Ai2 kd kv=true
  ·rw [if_pos hk,if_pos hk]
   cases es.ds.ev x with
   | v a=>
    cases a with
    | map a=>cases a <;> rfl
    | _=>rfl
   | mp id=>
    show (match es.hp.get id with
     | some (.mapo _ es)=>match findD kd kv es 0 with
      | some (some p)=>some (lkRes false p.2.v true,Upd.keep)
      | some none=>some (lkRes false (.v z) false,.keep)
      | none=>none
     | _=>none)=keepU (match es.hp.get id with
     | some (.mapo _ es)=>match findD kd kv es 0 with
      | some (some p)=>some (lkRes false p.2.v true)
      | some none=>some (lkRes false (.v z) false)
      | none=>none
     | _=>none)
    cases es.hp.get id with
    | none=>rfl
    | some o=>
     cases o with
     | mapo c l=>
      simp only []
      cases findD kd kv l 0 with
      | none=>rfl
      | some r=>cases r <;> rfl
     | _=>rfl
   | _=>rfl
  ·rw [if_neg hk,if_neg hk]; rfl
theorem Ca6 {dst:Option Pa} {kd:KD} {z:Value} {x k:Operand} {call:CallT} {es:ES} {Q:ES→Prop} : SW (sU dst (xAny (.lkp kd z x k false))) call es Q↔XW (lkpD es.hp kd z (es.ds.ev x) (es.ds.ev k)) fun d=>Q (es.putE dst d):=sw_k (k_lkp kd z x k)
theorem Ci3 {p:Pa} {g:Bool} {dst:Option Pa} {kd:KD} {z:Value} {x k:Operand} {call:CallT} {es:ES} {Q:ES→Prop} : SW (sG p g dst (sU dst (xAny (.lkp kd z x k false)))) call es Q↔XW (gdO (rawE es (.t p)) g (lkpD es.hp kd z (es.ds.ev x) (es.ds.ev k))) fun d=>Q (es.putE dst d):=sw_gk (k_lkp kd z x k)
theorem kb {K:DV→Tr DObj→Nat→Prop} {a b:Bool} {hp:Tr DObj} {nx:Nat} (h:K (bv b) hp nx) (e:a=b):K (.v (.bool a)) hp nx:=by rw [e]; exact h
theorem uv_at {l:List UInt8} {i:Nat} (h:i < l.length):partD none ((l.map fun c=>DV.v (.int .u8 (c.toNat:Int))).drop (i*1))=some (.v (.int .u8 (l[i].toNat:Int))):=by
 rw [Nat.mul_one,List.drop_eq_getElem_cons (by simpa using h)]
 simp [partD]
theorem Cs4 {s:ByteArray} {i:Nat} {k:IntKind} (h:i < s.data.toList.length):ixsD (.v (.string s)) (.v (.int k (i:Int)))=some (.v (.int .u8 (s.data.toList[i].toNat:Int))):=by
 show (if 0≤(i:Int) then (s[(i:Int).toNat]?).map fun c=>DV.v (.int .u8 (c.toNat:Int)) else none)=_
 rw [if_pos (by omega)]
 have hs:i < s.size:=h
 have:s[(i:Int).toNat]?=some s.data.toList[i]:=by
  rw [Int.toNat_natCast,getElem?_pos s i hs]; rfl
 rw [this]; rfl
theorem k_ixs (x y:Operand) (es:ES) (nid:Nat):xAny (.ixs x y) es nid=keepU (ixsD (es.ds.ev x) (es.ds.ev y)):=by
 rw [x_any]; simp only [execU]
 cases es.ds.ev x with
 | v a=>
  cases a with
  | string b=>
   cases es.ds.ev y with
   | v c=>
    cases c with
    | int kk j=>
     show (if 0≤j then (b[j.toNat]?).map fun c=>(DV.v (.int .u8 (c.toNat:Int)),Upd.keep) else none)=keepU (if 0≤j then (b[j.toNat]?).map fun c=>DV.v (.int .u8 (c.toNat:Int)) else none)
     by_cases h:0≤j
     ·rw [if_pos h,if_pos h]; cases b[j.toNat]? <;> rfl
     ·rw [if_neg h,if_neg h]; rfl
    | _=>rfl
   | _=>rfl
  | _=>cases es.ds.ev y with
   | v c=>cases c <;> rfl
   | _=>rfl
 | _=>cases es.ds.ev y with
  | v c=>cases c <;> rfl
  | _=>rfl
theorem Ca7 {dst:Option Pa} {x:Operand} {v:Value} {call:CallT} {es:ES} {Q:ES→Prop} : SW (sU dst (xAny (.ixs x (.const v)))) call es Q↔XW (ixsD (es.ds.ev x) (ofV v)) fun d=>Q (es.putE dst d):=sw_k (k_ixs x (.const v))
theorem z_mup {call:CallT} {es:ES} {Q:ES→Prop} {dst:Option Pa} {kd:KD} {x k y:Operand} : SW (sU dst (xAny (.mup kd x k y))) call es Q↔@SWs (sU dst (xAny (.mup kd x k y))) call es ⟨Q⟩:=Iff.rfl
def CWs (t:Bool) [a:Hold Prop] [b:Hold Prop]:Prop:=(t=true→a.val)∧(t=false→b.val)
theorem Ci4 {t:Bool} {A B:Prop} : CW (.v (.bool t)) A B↔@CWs t ⟨A⟩ ⟨B⟩:=cw_b
theorem cws_t {A B:Prop} : @CWs true ⟨A⟩ ⟨B⟩↔A:=by unfold CWs; simp
theorem cws_f {A B:Prop} : @CWs false ⟨A⟩ ⟨B⟩↔B:=by unfold CWs; simp
theorem cws {t:Bool} {a b:Hold Prop} (h1:t=true→a.val) (h2:t=false→b.val) : @CWs t a b:=⟨h1,h2⟩
theorem Cs5 {c:Bool} {hp:Tr DObj} {kd:KD} {z:Value} {a b y:DV} : lkpD hp kd z (if c=true then a else b) y=if c=true then lkpD hp kd z a y else lkpD hp kd z b y:=by cases c <;> rfl
theorem Cs6 {c:Bool} {hp:Tr DObj} {kd:KD} {z:Value} {a b y:DV} : lkpD hp kd z y (if c=true then a else b)=if c=true then lkpD hp kd z y a else lkpD hp kd z y b:=by cases c <;> rfl
theorem Ca8 (a b:ByteArray):binD .eql (.v (.string a)) (.v (.string b))=some (.v (.bool (decide (a=b)))):=by
 rw [bin_s]
 show (some (Value.bool (a.toList == b.toList))).map DV.v=_
 rw [bytes_eq]; rfl
theorem Ca9 (a b:ByteArray):binD .neq (.v (.string a)) (.v (.string b))=some (.v (.bool (!decide (a=b)))):=by
 rw [bin_s]
 show (some (Value.bool !(a.toList == b.toList))).map DV.v=_
 rw [bytes_eq]; rfl
theorem bb_et (a:Bool):bbD false (.v (.bool a)) (.v (.bool true))=some (.v (.bool a)):=by cases a <;> rfl
theorem bb_ef (a:Bool):bbD false (.v (.bool a)) (.v (.bool false))=some (.v (.bool (!a))):=by cases a <;> rfl
theorem p100:pth 100=.r (.l (.r (.l (.l (.r .o))))):=nr rfl
theorem p101:pth 101=.l (.r (.r (.l (.l (.r .o))))):=nr rfl
theorem p102:pth 102=.r (.r (.r (.l (.l (.r .o))))):=nr rfl
theorem p103:pth 103=.l (.l (.l (.r (.l (.r .o))))):=nr rfl
theorem p104:pth 104=.r (.l (.l (.r (.l (.r .o))))):=nr rfl
theorem p105:pth 105=.l (.r (.l (.r (.l (.r .o))))):=nr rfl
theorem p106:pth 106=.r (.r (.l (.r (.l (.r .o))))):=nr rfl
theorem p107:pth 107=.l (.l (.r (.r (.l (.r .o))))):=nr rfl
theorem p108:pth 108=.r (.l (.r (.r (.l (.r .o))))):=nr rfl
theorem p109:pth 109=.l (.r (.r (.r (.l (.r .o))))):=nr rfl
theorem p110:pth 110=.r (.r (.r (.r (.l (.r .o))))):=nr rfl
theorem p111:pth 111=.l (.l (.l (.l (.r (.r .o))))):=nr rfl
theorem p112:pth 112=.r (.l (.l (.l (.r (.r .o))))):=nr rfl
theorem p113:pth 113=.l (.r (.l (.l (.r (.r .o))))):=nr rfl
theorem p114:pth 114=.r (.r (.l (.l (.r (.r .o))))):=nr rfl
theorem p115:pth 115=.l (.l (.r (.l (.r (.r .o))))):=nr rfl
theorem p116:pth 116=.r (.l (.r (.l (.r (.r .o))))):=nr rfl
theorem p117:pth 117=.l (.r (.r (.l (.r (.r .o))))):=nr rfl
theorem p118:pth 118=.r (.r (.r (.l (.r (.r .o))))):=nr rfl
theorem p119:pth 119=.l (.l (.l (.r (.r (.r .o))))):=nr rfl
theorem p120:pth 120=.r (.l (.l (.r (.r (.r .o))))):=nr rfl
theorem p121:pth 121=.l (.r (.l (.r (.r (.r .o))))):=nr rfl
theorem p122:pth 122=.r (.r (.l (.r (.r (.r .o))))):=nr rfl
theorem p123:pth 123=.l (.l (.r (.r (.r (.r .o))))):=nr rfl
theorem p124:pth 124=.r (.l (.r (.r (.r (.r .o))))):=nr rfl
theorem p125:pth 125=.l (.r (.r (.r (.r (.r .o))))):=nr rfl
theorem p126:pth 126=.r (.r (.r (.r (.r (.r .o))))):=nr rfl
theorem p127:pth 127=.l (.l (.l (.l (.l (.l (.l .o)))))):=nr rfl
theorem p128:pth 128=.r (.l (.l (.l (.l (.l (.l .o)))))):=nr rfl
theorem p129:pth 129=.l (.r (.l (.l (.l (.l (.l .o)))))):=nr rfl
theorem p130:pth 130=.r (.r (.l (.l (.l (.l (.l .o)))))):=nr rfl
end Go.DD

/- Lists of lemmas as one name each. Conditions: those that each lemma states. -/
namespace Go.DD
open Go
set_option linter.defProp false
theorem m_an {α:Type} (l:List α):l ++ []=l:=List.append_nil l
theorem m_dz {α:Type} (l:List α):l.drop 0=l:=List.drop_zero
theorem m_mc {α β:Type} (f:α→β) (a:α) (l:List α):(a :: l).map f=f a :: l.map f:=List.map_cons
theorem m_mn {α β:Type} (f:α→β):([]:List α).map f=[]:=List.map_nil
theorem m_na {α:Type} (l:List α):[] ++ l=l:=List.nil_append l
theorem m_es {α:Type} (a:α):(a=a)=True:=eq_self a
theorem m_ge {α:Type} [LE α] {x y:α} : x≥y↔y≤x:=ge_iff_le
theorem m_gt {α:Type} [LT α] {x y:α} : x > y↔y < x:=gt_iff_lt
theorem m_if {α:Type} [Decidable False] (a b:α):(if False then a else b)=b:=if_neg id
theorem m_ip [Decidable False] (a b:Prop):(if False then a else b)=b:=if_neg id
theorem m_it {α:Type} [Decidable True] (a b:α):(if True then a else b)=a:=if_pos trivial
theorem m_iq [Decidable True] (a b:Prop):(if True then a else b)=a:=if_pos trivial
theorem m_ne {α:Type} (a b:α):(a≠b)=¬ (a=b):=ne_eq a b
def bSa:=(And.intro (And.intro (And.intro (And.intro (And.intro (And.intro @put_n (And.intro @m_es @gw_tt)) (And.intro (And.intro @gw_ff @gw_tf) (And.intro @gw_ft @gw_u))) (And.intro (And.intro (And.intro @A29 @Ao4) (And.intro @Br1 @cw_t)) (And.intro (And.intro @cw_f @B83) (And.intro @x_len @x_ia)))) (And.intro (And.intro (And.intro @x_ld (And.intro @x_fa @ld_i)) (And.intro (And.intro @fa_i @m_mc) (And.intro @m_mn @Bq4))) (And.intro (And.intro (And.intro @A28 @n_c) (And.intro @n_mk @Bq5)) (And.intro (And.intro @nx_put @Bq6) (And.intro @n_up @x_bin))))) (And.intro (And.intro (And.intro (And.intro @B76 (And.intro @x_un @n_not)) (And.intro (And.intro @Ah7 @Bq9) (And.intro @Br0 @B77))) (And.intro (And.intro (And.intro @m_ne @not_false_eq_true) (And.intro @not_true_eq_false @Bool.false_eq_true)) (And.intro (And.intro @Bool.true_eq_false @true_imp_iff) (And.intro @false_imp_iff @and_true)))) (And.intro (And.intro (And.intro @true_and (And.intro @or_true @true_or)) (And.intro (And.intro @and_self @m_it) (And.intro @m_iq @m_if))) (And.intro (And.intro (And.intro @m_ip @Bool.not_true) (And.intro @Bool.not_false @m_ge)) (And.intro (And.intro @m_gt @decide_true) (And.intro @decide_false @Pa.l.injEq)))))) (And.intro (And.intro (And.intro (And.intro (And.intro @Pa.r.injEq (And.intro @B94 @ro_fn)) (And.intro (And.intro @B91 @xk_mm) (And.intro @Aw4 @ro_v))) (And.intro (And.intro (And.intro @ro_sl @ro_ia) (And.intro @ro_ms @ro_pt)) (And.intro (And.intro @ro_mp @Bh0) (And.intro @B72 @Ba8)))) (And.intro (And.intro (And.intro @Br6 (And.intro @Br7 @look_nil)) (And.intro (And.intro @B74 @B73) (And.intro @B75 @m_na))) (And.intro (And.intro (And.intro @m_an @x_xe) (And.intro @ext21 @ext31)) (And.intro (And.intro @ext32 @n_ev) (And.intro @n_evc @n_ofi))))) (And.intro (And.intro (And.intro (And.intro @n_ofb (And.intro @n_ofl @n_ofp)) (And.intro (And.intro @Ca8 @Ca9) (And.intro @Int.natCast_zero @b_lss))) (And.intro (And.intro (And.intro @b_gtr @b_leq) (And.intro @b_geq @B95)) (And.intro (And.intro @B96 @Int.ofNat_lt) (And.intro @Int.ofNat_le @Int.ofNat_inj)))) (And.intro (And.intro (And.intro (And.intro @Nat.le_refl @m_dz) (And.intro @Al.refl @Bool.false_xor)) (And.intro (And.intro @Bool.true_xor @Bool.xor_false) (And.intro @Bool.xor_true @bb_et))) (And.intro (And.intro (And.intro @bb_ef @len_s) (And.intro @n_ofs @B85)) (And.intro (And.intro @B86 @B87) (And.intro @n_lns @n_s2b)))))))
def bSb:=(And.intro (And.intro (And.intro (And.intro (And.intro @ew_s (And.intro @ew_n @ew_e)) (And.intro (And.intro @ew_c' @ew_b) (And.intro @sw_q @sw_m1))) (And.intro (And.intro @sw_z (And.intro @sw_x @sw_g')) (And.intro (And.intro @B80 @B81) (And.intro @B82 @blk_n)))) (And.intro (And.intro (And.intro @blk_r (And.intro @blk_x @blk_y)) (And.intro (And.intro @z_al @z_bx) (And.intro @z_mkm @z_app))) (And.intro (And.intro @z_bsl (And.intro @z_st @z_sli)) (And.intro (And.intro @z_b2s @z_cv) (And.intro @B92 @z_l))))) (And.intro (And.intro (And.intro (And.intro @z_r (And.intro @z_bld @z_nil)) (And.intro (And.intro @B70 @tw_q) (And.intro @tw_z @tw_dx))) (And.intro (And.intro @tw_dy (And.intro @tw_dp @B71)) (And.intro (And.intro @Bq8 @tw_g) (And.intro @B93 @z_lay)))) (And.intro (And.intro (And.intro @Br8 (And.intro @Bg9 @Ar1)) (And.intro (And.intro @Bg5 @B89) (And.intro @Br5 @sw_mm))) (And.intro (And.intro @sw_bb (And.intro @z_mup @Br3)) (And.intro (And.intro @Br4 @Ca7) (And.intro @B84 @Ca6))))))
def bGa:=(And.intro (And.intro (And.intro (And.intro (And.intro (And.intro (And.intro @Cs5 @Cs6) (And.intro @Ci4 @cws_t)) (And.intro (And.intro @cws_f @i_len) (And.intro @i_ia1 (And.intro @i_ia2 @i_ld)))) (And.intro (And.intro (And.intro @i_fa @put_n) (And.intro @m_es (And.intro @gw_tt @gw_ff))) (And.intro (And.intro @gw_tf @gw_ft) (And.intro @gw_u (And.intro @gd_t @gd_f))))) (And.intro (And.intro (And.intro (And.intro @gd_u @gd_i) (And.intro @Cq4 (And.intro @i_tt @i_ee))) (And.intro (And.intro @Cq5 @Cq6) (And.intro @i_un (And.intro @Ch5 @Cq7)))) (And.intro (And.intro (And.intro @i_lns @Cq8) (And.intro @Cq9 (And.intro @i_vb @i_or))) (And.intro (And.intro @i_and @Cr0) (And.intro @Bool.true_or (And.intro @Bool.false_or @Bool.or_false)))))) (And.intro (And.intro (And.intro (And.intro (And.intro @Bool.or_true @Bool.true_and) (And.intro @Bool.false_and @Bool.and_true)) (And.intro (And.intro @Bool.and_false @A29) (And.intro @Ao4 (And.intro @Br1 @B83)))) (And.intro (And.intro (And.intro @x_len @x_ia) (And.intro @x_ld (And.intro @x_fa @ld_i))) (And.intro (And.intro @fa_i @m_mc) (And.intro @m_mn (And.intro @Bq4 @A28))))) (And.intro (And.intro (And.intro (And.intro @n_c @n_mk) (And.intro @Bq5 (And.intro @nx_put @Bq6))) (And.intro (And.intro @n_up @x_bin) (And.intro @B76 (And.intro @x_un @n_not)))) (And.intro (And.intro (And.intro @Ah7 @Bq9) (And.intro @Br0 (And.intro @B77 @m_ne))) (And.intro (And.intro @not_false_eq_true @not_true_eq_false) (And.intro @Bool.false_eq_true (And.intro @Bool.true_eq_false @true_imp_iff))))))) (And.intro (And.intro (And.intro (And.intro (And.intro (And.intro @false_imp_iff @and_true) (And.intro @true_and @or_true)) (And.intro (And.intro @true_or @and_self) (And.intro @m_it (And.intro @m_iq @m_if)))) (And.intro (And.intro (And.intro @m_ip @Bool.not_true) (And.intro @Bool.not_false (And.intro @m_ge @m_gt))) (And.intro (And.intro @decide_true @decide_false) (And.intro @Pa.l.injEq (And.intro @Pa.r.injEq @B94))))) (And.intro (And.intro (And.intro (And.intro @ro_fn @B91) (And.intro @xk_mm (And.intro @Aw4 @ro_v))) (And.intro (And.intro @ro_sl @ro_ia) (And.intro @ro_ms (And.intro @ro_pt @ro_mp)))) (And.intro (And.intro (And.intro @Bh0 @B72) (And.intro @Ba8 (And.intro @Br6 @Br7))) (And.intro (And.intro @look_nil @B74) (And.intro @B73 (And.intro @B75 @m_na)))))) (And.intro (And.intro (And.intro (And.intro (And.intro @m_an @x_xe) (And.intro @ext21 @ext31)) (And.intro (And.intro @ext32 @n_ev) (And.intro @n_evc (And.intro @n_ofi @n_ofb)))) (And.intro (And.intro (And.intro @n_ofl @n_ofp) (And.intro @Ca8 (And.intro @Ca9 @Int.natCast_zero))) (And.intro (And.intro @b_lss @b_gtr) (And.intro @b_leq (And.intro @b_geq @B95))))) (And.intro (And.intro (And.intro (And.intro @B96 @Int.ofNat_lt) (And.intro @Int.ofNat_le (And.intro @Int.ofNat_inj @Nat.le_refl))) (And.intro (And.intro @m_dz @Al.refl) (And.intro @Bool.false_xor (And.intro @Bool.true_xor @Bool.xor_false)))) (And.intro (And.intro (And.intro @Bool.xor_true @bb_et) (And.intro @bb_ef (And.intro @len_s @n_ofs))) (And.intro (And.intro @B85 @B86) (And.intro @B87 (And.intro @n_lns @n_s2b))))))))
def bGb:=(And.intro (And.intro (And.intro (And.intro (And.intro @Cr1 (And.intro @Cr2 @ew_s)) (And.intro (And.intro @ew_n @ew_e) (And.intro @ew_c' @ew_b))) (And.intro (And.intro (And.intro @sw_q @sw_m1) (And.intro @sw_z @sw_x)) (And.intro (And.intro @sw_gx @sw_gm) (And.intro @Ch3 @Ch4)))) (And.intro (And.intro (And.intro (And.intro @Ci3 @sw_gC) (And.intro @B80 @B81)) (And.intro (And.intro @B82 @blk_n) (And.intro @blk_r @blk_x))) (And.intro (And.intro (And.intro @blk_y @z_al) (And.intro @z_bx @z_mkm)) (And.intro (And.intro @z_app @z_bsl) (And.intro @z_st @z_sli))))) (And.intro (And.intro (And.intro (And.intro (And.intro @z_b2s @z_cv) (And.intro @B92 @z_l)) (And.intro (And.intro @z_r @z_bld) (And.intro @z_nil @B70))) (And.intro (And.intro (And.intro @tw_q @tw_z) (And.intro @tw_dx @tw_dy)) (And.intro (And.intro @tw_dp @B71) (And.intro @Bq8 @tw_g)))) (And.intro (And.intro (And.intro (And.intro @B93 @z_lay) (And.intro @Br8 @Bg9)) (And.intro (And.intro @Ar1 @Bg5) (And.intro @B89 @Br5))) (And.intro (And.intro (And.intro @sw_mm @sw_bb) (And.intro @z_mup @Br3)) (And.intro (And.intro @Br4 @Ca7) (And.intro @B84 @Ca6))))))
def bR:=(And.intro (And.intro (And.intro @put_n (And.intro @Bq4 @A28)) (And.intro (And.intro @n_c @n_mk) (And.intro @Bq5 @nx_put))) (And.intro (And.intro (And.intro @Bq6 @Ba8) (And.intro @Br6 @Br7)) (And.intro (And.intro @m_ne @not_false_eq_true) (And.intro @Pa.l.injEq @Pa.r.injEq))))
def bP:=(And.intro (And.intro (And.intro (And.intro (And.intro (And.intro (And.intro @p0 @p1) (And.intro @p2 @p3)) (And.intro (And.intro @p4 @p5) (And.intro @p6 @p7))) (And.intro (And.intro (And.intro @p8 @p9) (And.intro @p10 @p11)) (And.intro (And.intro @p12 @p13) (And.intro @p14 @p15)))) (And.intro (And.intro (And.intro (And.intro @p16 @p17) (And.intro @p18 @p19)) (And.intro (And.intro @p20 @p21) (And.intro @p22 @p23))) (And.intro (And.intro (And.intro @p24 @p25) (And.intro @p26 @p27)) (And.intro (And.intro @p28 @p29) (And.intro @p30 @p31))))) (And.intro (And.intro (And.intro (And.intro (And.intro @p32 @p33) (And.intro @p34 @p35)) (And.intro (And.intro @p36 @p37) (And.intro @p38 @p39))) (And.intro (And.intro (And.intro @p40 @p41) (And.intro @p42 @p43)) (And.intro (And.intro @p44 @p45) (And.intro @p46 @p47)))) (And.intro (And.intro (And.intro (And.intro @p48 @p49) (And.intro @p50 @p51)) (And.intro (And.intro @p52 @p53) (And.intro @p54 @p55))) (And.intro (And.intro (And.intro @p56 @p57) (And.intro @p58 @p59)) (And.intro (And.intro @p60 @p61) (And.intro @p62 (And.intro @p63 @p64))))))) (And.intro (And.intro (And.intro (And.intro (And.intro (And.intro @p65 @p66) (And.intro @p67 @p68)) (And.intro (And.intro @p69 @p70) (And.intro @p71 @p72))) (And.intro (And.intro (And.intro @p73 @p74) (And.intro @p75 @p76)) (And.intro (And.intro @p77 @p78) (And.intro @p79 @p80)))) (And.intro (And.intro (And.intro (And.intro @p81 @p82) (And.intro @p83 @p84)) (And.intro (And.intro @p85 @p86) (And.intro @p87 @p88))) (And.intro (And.intro (And.intro @p89 @p90) (And.intro @p91 @p92)) (And.intro (And.intro @p93 @p94) (And.intro @p95 (And.intro @p96 @p97)))))) (And.intro (And.intro (And.intro (And.intro (And.intro @p98 @p99) (And.intro @p100 @p101)) (And.intro (And.intro @p102 @p103) (And.intro @p104 @p105))) (And.intro (And.intro (And.intro @p106 @p107) (And.intro @p108 @p109)) (And.intro (And.intro @p110 @p111) (And.intro @p112 @p113)))) (And.intro (And.intro (And.intro (And.intro @p114 @p115) (And.intro @p116 @p117)) (And.intro (And.intro @p118 @p119) (And.intro @p120 @p121))) (And.intro (And.intro (And.intro @p122 @p123) (And.intro @p124 @p125)) (And.intro (And.intro @p126 @p127) (And.intro @p128 (And.intro @p129 @p130))))))))
end Go.DD

/- Contracts: integers compared; lists of integers compared. Conditions: those that each theorem states. -/
namespace Go.DD
open Go Go.Proofs
section
variable (k:Nat) (hp:Tr DObj) (nx:Nat) (K:DV→Tr DObj→Nat→Prop)
theorem Bh5 (a:Int) (hK:K (bv false) hp nx):KW (kN (k+1)) (.fn 173) [iv a] hp nx K:=by
 refine kn_1 (Aa3 (by decide)) t173 (Nat.le_of_ble_eq_true rfl) fun es e1 e2 he=>?_
 have a0:rawE es (.t .o)=iv a:=he 0 _ rfl
 unfold r173
 simp only [bSa,↓bSb,bP,reduceCtorEq,a0,e1,e2]
 exact hK
theorem Cs7 (a b:Int) (hK:K (iv (cmpI a b)) hp nx):KW (kN (k+2)) (.fn 141) [iv a,iv b] hp nx K:=by
 refine kn_1 (Aa3 (by decide)) t141 (Nat.le_of_ble_eq_true rfl) fun es e1 e2 he=>?_
 have a0:rawE es (.t .o)=iv a:=he 0 _ rfl
 have a1:rawE es (.t (.l .o))=iv b:=he 1 _ rfl
 unfold r141
 simp only [bSa,↓bSb,reduceCtorEq,a0,e1,e2]
 refine kws (Bh5 k _ _ _ _ ?_)
 simp only [bSa,↓bSb,reduceCtorEq,a1,bv]
 refine kws (Bh5 k _ _ _ _ ?_)
 unfold cmpI at hK
 by_cases h1:a < b
 ·rw [if_pos h1] at hK
  simp only [bSa,↓bSb,bP,reduceCtorEq,a0,a1,h1,bv]
  exact hK
 ·rw [if_neg h1] at hK
  by_cases h2:b < a
  ·rw [if_pos h2] at hK
   simp only [bSa,↓bSb,bP,reduceCtorEq,a0,a1,h1,h2,bv]
   exact hK
  ·rw [if_neg h2] at hK
   simp only [bSa,↓bSb,bP,reduceCtorEq,a0,a1,h1,h2,bv]
   exact hK
end
section
variable (k n0:Nat) (hp:Tr DObj) (nx:Nat) (K:DV→Tr DObj→Nat→Prop) (d1 d2:DV) (l m:List Int) (hn:n0≤nx) (h1:RL rInt hp (Bl n0) d1 l) (h2:RL rInt hp (Bl n0) d2 m) (hl:l.length < 900000)
include hn h1 h2 hl
theorem Ci5 (hK:K (iv (cmpL l m)) hp nx):KW (kN (k+3)) (.fn 75) [d1,d2] hp nx K:=by
 refine kn_1 (Aa3 (by decide)) t75 (Nat.le_of_ble_eq_true rfl) fun es e1 e2 he=>?_
 have a0:rawE es (.t .o)=d1:=he 0 _ rfl
 have a1:rawE es (.t (.l .o))=d2:=he 1 _ rfl
 unfold r75
 simp only [bSa,↓bSb,reduceCtorEq,a0,e1,h1.len]
 refine EW.up l.length (fun i es1=>es1.hp=hp∧es1.nx=nx∧rawE es1 (.t .o)=d1∧rawE es1 (.t (.l .o))=d2∧rawE es1 (.t (.l (.r (.l .o))))=d1∧rawE es1 (.t (.r (.r (.l .o))))=iv l.length∧rawE es1 (.t (.l (.l (.r .o))))=iv (i:Nat)∧cmpL l m=cmpL (l.drop i) (m.drop i)) ?_ ?_ (by omega)
 ·rintro i es1 hi ⟨g1,g2,b0,b1,b9,b10,b11,hc⟩
  unfold l75_1
  by_cases c1:i < l.length
  ·by_cases c2:i < m.length
   ·have hd:cmpL (l.drop i) (m.drop i)=if cmpI l[i] m[i]=0 then cmpL (l.drop (i+1)) (m.drop (i+1)) else cmpI l[i] m[i]:=by
     rw [List.drop_eq_getElem_cons c1,List.drop_eq_getElem_cons c2]; rfl
    have c3:¬ m.length≤i:=by omega
    simp only [bSa,↓bSb,reduceCtorEq,b1,b9,b10,b11,g1,Ag8 h1 c1,Ag8 h2 c2,ints_at h1 c1,ints_at h2 c2,h2.len,c1,c3]
    refine kws (Cs7 k _ _ _ _ _ ?_)
    by_cases c4:cmpI l[i] m[i]=0
    ·rw [if_pos c4] at hd
     simp only [bSa,↓bSb,reduceCtorEq,b0,b1,b9,b10,b11,c4,Aa2 (show i < _ by omega)]
     exact ⟨c1,g2,by rw [hc,hd]⟩
    ·rw [if_neg c4] at hd
     simp only [bSa,↓bSb,bP,reduceCtorEq,c4]
     rw [← hd,← hc,g2]; exact hK
   ·have hd:cmpL (l.drop i) (m.drop i)=1:=by
     rw [List.drop_eq_getElem_cons c1,List.drop_eq_nil_of_le (show m.length≤i by omega)]; rfl
    have c3:m.length≤i:=by omega
    simp only [bSa,↓bSb,bP,reduceCtorEq,b1,b9,b10,b11,g1,Ag8 h1 c1,ints_at h1 c1,h2.len,c1,c3]
    rw [hc,hd] at hK; rw [g2]; exact hK
  ·have hil:i=l.length:=by omega
   have hd:cmpL (l.drop i) (m.drop i)=if l.length < m.length then -1 else 0:=by
    rw [List.drop_eq_nil_of_le (show l.length≤i by omega)]
    by_cases c3:i < m.length
    ·rw [List.drop_eq_getElem_cons c3,if_pos (by omega)]; rfl
    ·rw [List.drop_eq_nil_of_le (show m.length≤i by omega),if_neg (by omega)]; rfl
   by_cases c3:l.length < m.length
   ·rw [if_pos c3] at hd
    simp only [bSa,↓bSb,bP,reduceCtorEq,b0,b1,b10,b11,g1,h1.len,h2.len,c1,c3]
    rw [hc,hd] at hK; rw [g2]; exact hK
   ·rw [if_neg c3] at hd
    simp only [bSa,↓bSb,bP,reduceCtorEq,b0,b1,b10,b11,g1,h1.len,h2.len,c1,c3]
    rw [hc,hd] at hK; rw [g2]; exact hK
 ·simp only [bSa,reduceCtorEq,a0,a1,e1,e2]
theorem Ad8 (hK:K (iv (cmpL l m)) hp nx):KW (kN (k+4)) (.fn 24) [d1,d2] hp nx K:=by
 refine kn_1 (Aa3 (by decide)) t24 (Nat.le_of_ble_eq_true rfl) fun es e1 e2 he=>?_
 have a0:rawE es (.t .o)=d1:=he 0 _ rfl
 have a1:rawE es (.t (.l .o))=d2:=he 1 _ rfl
 unfold r24
 simp only [bSa,↓bSb,reduceCtorEq,a0,a1,e1,e2]
 refine kws (Ci5 k n0 _ _ _ d1 d2 l m hn h1 h2 hl ?_)
 simp only [bSa,↓bSb,bP,reduceCtorEq]
 exact hK
end
end Go.DD

/- Contracts: equal lists of integers, values, dimensions, attributes. Conditions: those that each theorem states. -/
namespace Go.DD
open Go Go.Proofs
theorem Cs8 (k n0:Nat) (hp:Tr DObj) (nx:Nat) (K:DV→Tr DObj→Nat→Prop) (d1 d2:DV) (l m:List Int) (hn:n0≤nx) (h1:RL rInt hp (Bl n0) d1 l) (h2:RL rInt hp (Bl n0) d2 m) (hl:l.length < 900000) (hK:∀ nx',nx≤nx'→K (bv (decide (l=m))) hp nx'):KW (kN (k+1)) (.fn 80) [d1,d2] hp nx K:=by
 refine kn_1 (Aa3 (by decide)) t80 (Nat.le_of_ble_eq_true rfl) fun es e1 e2 he=>?_
 have a0:rawE es (.t .o)=d1:=he 0 _ rfl
 have a1:rawE es (.t (.l .o))=d2:=he 1 _ rfl
 unfold r80
 by_cases hlen:l.length=m.length
 ·simp only [bSa,↓bSb,reduceCtorEq,a0,a1,e1,h1.len,h2.len,hlen]
  refine EW.up l.length (fun i es1=>es1.hp=hp∧nx≤es1.nx∧rawE es1 (.t .o)=d1∧rawE es1 (.t (.l .o))=d2∧rawE es1 (.t (.r (.l (.r .o))))=iv l.length∧rawE es1 (.t (.l (.r (.r .o))))=iv (i:Nat)∧(l=m↔l.drop i=m.drop i)) ?_ ?_ (by omega)
  ·rintro i es1 hi ⟨g1,g2,b0,b1,b12,b13,hc⟩
   unfold l80_1
   by_cases c1:i < l.length
   ·have c2:i < m.length:=by omega
    rw [Aq1 c1 c2] at hc
    by_cases c4:l[i]=m[i]
    ·simp only [bSa,↓bSb,reduceCtorEq,b0,b1,b12,b13,g1,c1,Ag8 h1 c1,Ag8 h2 c2,ints_at h1 c1,ints_at h2 c2,h1.rox (show n0≤es1.nx by omega),h2.rox (show n0≤es1.nx by omega),Ak5 h1 (show n0≤es1.nx by omega),Ak5 h2 (show n0≤es1.nx by omega),c4,Aa2 (show i < _ by omega)]
     exact ⟨by omega,by rw [hc]; simp [c4]⟩
    ·simp only [bSa,↓bSb,bP,reduceCtorEq,b0,b1,b12,b13,g1,c1,Ag8 h1 c1,Ag8 h2 c2,ints_at h1 c1,ints_at h2 c2,h1.rox (show n0≤es1.nx by omega),h2.rox (show n0≤es1.nx by omega),Ak5 h1 (show n0≤es1.nx by omega),Ak5 h2 (show n0≤es1.nx by omega),c4]
     have:¬ l=m:=by rw [hc]; simp [c4]
     have hh:=hK (es1.nx+9) (by omega)
     rw [decide_eq_false this] at hh
     exact hh
   ·have:l=m:=hc.2 (by rw [List.drop_eq_nil_of_le (by omega),List.drop_eq_nil_of_le (by omega)])
    simp only [bSa,↓bSb,bP,reduceCtorEq,b12,b13,g1,c1]
    have hh:=hK es1.nx g2
    rw [decide_eq_true this] at hh
    exact hh
  ·simp only [bSa,reduceCtorEq,a0,a1,e1,e2,hlen]
 ·simp only [bSa,↓bSb,bP,reduceCtorEq,a0,a1,e1,e2,h1.len,h2.len,hlen]
  have:¬ l=m:=fun e=>hlen (by rw [e])
  have hh:=hK nx (Nat.le_refl _)
  rw [decide_eq_false this] at hh
  exact hh
theorem Cb0 (k n0:Nat) (hp:Tr DObj) (nx:Nat) (K:DV→Tr DObj→Nat→Prop) (d1 d2:DV) (l m:List PVal) (hn:n0≤nx) (h1:RL rVal hp (Bl n0) d1 l) (h2:RL rVal hp (Bl n0) d2 m) (hl:l.length < 900000) (hK:∀ nx',nx≤nx'→K (bv (decide (l=m))) hp nx'):KW (kN (k+1)) (.fn 69) [d1,d2] hp nx K:=by
 refine kn_1 (Aa3 (by decide)) t69 (Nat.le_of_ble_eq_true rfl) fun es e1 e2 he=>?_
 have a0:rawE es (.t .o)=d1:=he 0 _ rfl
 have a1:rawE es (.t (.l .o))=d2:=he 1 _ rfl
 unfold r69
 by_cases hlen:l.length=m.length
 ·simp only [bSa,↓bSb,reduceCtorEq,a0,a1,e1,h1.len,h2.len,hlen]
  refine EW.up l.length (fun i es1=>es1.hp=hp∧nx≤es1.nx∧rawE es1 (.t .o)=d1∧rawE es1 (.t (.l .o))=d2∧rawE es1 (.t (.r (.l (.r .o))))=iv l.length∧rawE es1 (.t (.l (.r (.r .o))))=iv (i:Nat)∧(l=m↔l.drop i=m.drop i)) ?_ ?_ (by omega)
  ·rintro i es1 hi ⟨g1,g2,b0,b1,b12,b13,hc⟩
   unfold l69_1
   by_cases c1:i < l.length
   ·have c2:i < m.length:=by omega
    rw [Aq1 c1 c2] at hc
    by_cases c4:l[i]=m[i]
    ·simp only [bSa,↓bSb,bP,reduceCtorEq,b0,b1,b12,b13,g1,c1,Ao6 h1 c1,Ao6 h2 c2,Ar3 h1 c1,Ar3 h2 c2,h1.rox (show n0≤es1.nx by omega),h2.rox (show n0≤es1.nx by omega),At7 h1 (show n0≤es1.nx by omega),At7 h2 (show n0≤es1.nx by omega),Az2,An4 (show DV.refsL (vc _)=[] from rfl),As1 (show DV.refsL (vc _)=[] from rfl),eqs_a,eq_vc,Option.map_some,c4,Aa2 (show i < _ by omega)]
     exact ⟨by omega,by rw [hc]; simp [c4]⟩
    ·simp only [bSa,↓bSb,bP,reduceCtorEq,b0,b1,b12,b13,g1,c1,Ao6 h1 c1,Ao6 h2 c2,Ar3 h1 c1,Ar3 h2 c2,h1.rox (show n0≤es1.nx by omega),h2.rox (show n0≤es1.nx by omega),At7 h1 (show n0≤es1.nx by omega),At7 h2 (show n0≤es1.nx by omega),Az2,An4 (show DV.refsL (vc _)=[] from rfl),As1 (show DV.refsL (vc _)=[] from rfl),eqs_a,eq_vc,Option.map_some,c4]
     have:¬ l=m:=by rw [hc]; simp [c4]
     have hh:=hK (es1.nx+9) (by omega)
     rw [decide_eq_false this] at hh
     exact hh
   ·have:l=m:=hc.2 (by rw [List.drop_eq_nil_of_le (by omega),List.drop_eq_nil_of_le (by omega)])
    simp only [bSa,↓bSb,bP,reduceCtorEq,b12,b13,g1,c1]
    have hh:=hK es1.nx g2
    rw [decide_eq_true this] at hh
    exact hh
  ·simp only [bSa,reduceCtorEq,a0,a1,e1,e2,hlen]
 ·simp only [bSa,↓bSb,bP,reduceCtorEq,a0,a1,e1,e2,h1.len,h2.len,hlen]
  have:¬ l=m:=fun e=>hlen (by rw [e])
  have hh:=hK nx (Nat.le_refl _)
  rw [decide_eq_false this] at hh
  exact hh
theorem Cb1 (k n0:Nat) (hp:Tr DObj) (nx:Nat) (K:DV→Tr DObj→Nat→Prop) (d1 d2:DV) (l m:List PDim) (hn:n0≤nx) (h1:RL rDim hp (Bl n0) d1 l) (h2:RL rDim hp (Bl n0) d2 m) (hl:l.length < 900000) (hK:∀ nx',nx≤nx'→K (bv (decide (l=m))) hp nx'):KW (kN (k+1)) (.fn 76) [d1,d2] hp nx K:=by
 refine kn_1 (Aa3 (by decide)) t76 (Nat.le_of_ble_eq_true rfl) fun es e1 e2 he=>?_
 have a0:rawE es (.t .o)=d1:=he 0 _ rfl
 have a1:rawE es (.t (.l .o))=d2:=he 1 _ rfl
 unfold r76
 by_cases hlen:l.length=m.length
 ·simp only [bSa,↓bSb,reduceCtorEq,a0,a1,e1,h1.len,h2.len,hlen]
  refine EW.up l.length (fun i es1=>es1.hp=hp∧nx≤es1.nx∧rawE es1 (.t .o)=d1∧rawE es1 (.t (.l .o))=d2∧rawE es1 (.t (.r (.l (.r .o))))=iv l.length∧rawE es1 (.t (.l (.r (.r .o))))=iv (i:Nat)∧(l=m↔l.drop i=m.drop i)) ?_ ?_ (by omega)
  ·rintro i es1 hi ⟨g1,g2,b0,b1,b12,b13,hc⟩
   unfold l76_1
   by_cases c1:i < l.length
   ·have c2:i < m.length:=by omega
    rw [Aq1 c1 c2] at hc
    by_cases c4:l[i]=m[i]
    ·simp only [bSa,↓bSb,bP,reduceCtorEq,b0,b1,b12,b13,g1,c1,Ak6 h1 c1,Ak6 h2 c2,(Aj2 h1 c1).1,(Aj2 h2 c2).1,h1.rox (show n0≤es1.nx by omega),h2.rox (show n0≤es1.nx by omega),At8 h1 (show n0≤es1.nx by omega),At8 h2 (show n0≤es1.nx by omega),Az2,An4 (show DV.refsL (dc _)=[] from rfl),As1 (show DV.refsL (dc _)=[] from rfl),eqs_a,eq_dc,Option.map_some,c4,Aa2 (show i < _ by omega)]
     exact ⟨by omega,by rw [hc]; simp [c4]⟩
    ·simp only [bSa,↓bSb,bP,reduceCtorEq,b0,b1,b12,b13,g1,c1,Ak6 h1 c1,Ak6 h2 c2,(Aj2 h1 c1).1,(Aj2 h2 c2).1,h1.rox (show n0≤es1.nx by omega),h2.rox (show n0≤es1.nx by omega),At8 h1 (show n0≤es1.nx by omega),At8 h2 (show n0≤es1.nx by omega),Az2,An4 (show DV.refsL (dc _)=[] from rfl),As1 (show DV.refsL (dc _)=[] from rfl),eqs_a,eq_dc,Option.map_some,c4]
     have:¬ l=m:=by rw [hc]; simp [c4]
     have hh:=hK (es1.nx+9) (by omega)
     rw [decide_eq_false this] at hh
     exact hh
   ·have:l=m:=hc.2 (by rw [List.drop_eq_nil_of_le (by omega),List.drop_eq_nil_of_le (by omega)])
    simp only [bSa,↓bSb,bP,reduceCtorEq,b12,b13,g1,c1]
    have hh:=hK es1.nx g2
    rw [decide_eq_true this] at hh
    exact hh
  ·simp only [bSa,reduceCtorEq,a0,a1,e1,e2,hlen]
 ·simp only [bSa,↓bSb,bP,reduceCtorEq,a0,a1,e1,e2,h1.len,h2.len,hlen]
  have:¬ l=m:=fun e=>hlen (by rw [e])
  have hh:=hK nx (Nat.le_refl _)
  rw [decide_eq_false this] at hh
  exact hh
theorem Cb2 (k n0:Nat) (hp:Tr DObj) (nx:Nat) (K:DV→Tr DObj→Nat→Prop) (d1 d2:DV) (l m:List PAttr) (hn:n0≤nx) (h1:RL rAttr hp (Bl n0) d1 l) (h2:RL rAttr hp (Bl n0) d2 m) (hl:l.length < 900000) (hK:∀ nx',nx≤nx'→K (bv (decide (l=m))) hp nx'):KW (kN (k+1)) (.fn 77) [d1,d2] hp nx K:=by
 refine kn_1 (Aa3 (by decide)) t77 (Nat.le_of_ble_eq_true rfl) fun es e1 e2 he=>?_
 have a0:rawE es (.t .o)=d1:=he 0 _ rfl
 have a1:rawE es (.t (.l .o))=d2:=he 1 _ rfl
 unfold r77
 by_cases hlen:l.length=m.length
 ·simp only [bSa,↓bSb,reduceCtorEq,a0,a1,e1,h1.len,h2.len,hlen]
  refine EW.up l.length (fun i es1=>es1.hp=hp∧nx≤es1.nx∧rawE es1 (.t .o)=d1∧rawE es1 (.t (.l .o))=d2∧rawE es1 (.t (.r (.l (.r .o))))=iv l.length∧rawE es1 (.t (.l (.r (.r .o))))=iv (i:Nat)∧(l=m↔l.drop i=m.drop i)) ?_ ?_ (by omega)
  ·rintro i es1 hi ⟨g1,g2,b0,b1,b12,b13,hc⟩
   unfold l77_1
   by_cases c1:i < l.length
   ·have c2:i < m.length:=by omega
    rw [Aq1 c1 c2] at hc
    by_cases c4:l[i]=m[i]
    ·simp only [bSa,↓bSb,bP,reduceCtorEq,b0,b1,b12,b13,g1,c1,Ai9 h1 c1,Ai9 h2 c2,(Ai6 h1 c1).1,(Ai6 h2 c2).1,h1.rox (show n0≤es1.nx by omega),h2.rox (show n0≤es1.nx by omega),Aj6 h1 (show n0≤es1.nx by omega),Aj6 h2 (show n0≤es1.nx by omega),Az2,An4 (show DV.refsL (ac _)=[] from rfl),As1 (show DV.refsL (ac _)=[] from rfl),eqs_a,eq_ac,Option.map_some,c4,Aa2 (show i < _ by omega)]
     exact ⟨by omega,by rw [hc]; simp [c4]⟩
    ·simp only [bSa,↓bSb,bP,reduceCtorEq,b0,b1,b12,b13,g1,c1,Ai9 h1 c1,Ai9 h2 c2,(Ai6 h1 c1).1,(Ai6 h2 c2).1,h1.rox (show n0≤es1.nx by omega),h2.rox (show n0≤es1.nx by omega),Aj6 h1 (show n0≤es1.nx by omega),Aj6 h2 (show n0≤es1.nx by omega),Az2,An4 (show DV.refsL (ac _)=[] from rfl),As1 (show DV.refsL (ac _)=[] from rfl),eqs_a,eq_ac,Option.map_some,c4]
     have:¬ l=m:=by rw [hc]; simp [c4]
     have hh:=hK (es1.nx+9) (by omega)
     rw [decide_eq_false this] at hh
     exact hh
   ·have:l=m:=hc.2 (by rw [List.drop_eq_nil_of_le (by omega),List.drop_eq_nil_of_le (by omega)])
    simp only [bSa,↓bSb,bP,reduceCtorEq,b12,b13,g1,c1]
    have hh:=hK es1.nx g2
    rw [decide_eq_true this] at hh
    exact hh
  ·simp only [bSa,reduceCtorEq,a0,a1,e1,e2,hlen]
 ·simp only [bSa,↓bSb,bP,reduceCtorEq,a0,a1,e1,e2,h1.len,h2.len,hlen]
  have:¬ l=m:=fun e=>hlen (by rw [e])
  have hh:=hK nx (Nat.le_refl _)
  rw [decide_eq_false this] at hh
  exact hh
end Go.DD

/- Contracts: names, bounds of dimensions; maps of names. Conditions: those that each theorem states. -/
namespace Go.DD
open Go Go.Proofs
def okN (l:List UInt8) (i:Nat):Prop:=∀ j,(h:j < l.length)→j < i→(j=0→Ai7 l[j]=true)∧nextB l[j]=true
theorem B19 {l:List UInt8} (h:okN l l.length) (h0:l≠[]):nameL l=true:=by
 cases l with
 | nil=>exact absurd rfl h0
 | cons c cs=>
  have h1:=h 0 (by simp) (by simp)
  simp only [nameL,Bool.and_eq_true,List.all_eq_true]
  refine ⟨h1.1 rfl,fun x hx=>?_⟩
  obtain ⟨j,hj,rfl⟩:=List.mem_iff_getElem.1 hx
  exact (h (j+1) (by simpa using hj) (by simpa using hj)).2
theorem Bh6 {l:List UInt8} (h:nameL l=true):okN l l.length:=by
 cases l with
 | nil=>intro j hj; simp at hj
 | cons c cs=>
  simp only [nameL,Bool.and_eq_true,List.all_eq_true] at h
  intro j hj _
  cases j with
  | zero=>exact ⟨fun _=>h.1,by simp [nextB,h.1]⟩
  | succ j=>exact ⟨fun h=>by omega,h.2 _ (by simp)⟩
theorem okN_s {l:List UInt8} {i:Nat} (h:okN l i) (hi:i < l.length) (h1:i=0→Ai7 l[i]=true) (h2:nextB l[i]=true):okN l (i+1):=fun j hj hlt=>by
 by_cases e:j=i
 ·subst e; exact ⟨h1,h2⟩
 ·exact h j hj (by omega)
theorem Az3 {s:ByteArray} (h:¬ (1≤s.data.toList.length∧s.data.toList.length≤12)):nameS s=false:=by
 unfold nameS
 by_cases h1:s.size≤12
 ·have:s.data.toList=[]:=List.eq_nil_of_length_eq_zero (by have:s.data.toList.length=s.size:=rfl; omega)
  rw [this]; simp [nameL]
 ·rw [decide_eq_false h1]; rfl
theorem Bs3 {s:ByteArray} (h:nameL s.data.toList=false):nameS s=false:=by unfold nameS; rw [h,Bool.and_false]
theorem Ci6 {s:ByteArray} (h:okN s.data.toList s.data.toList.length) (h1:1≤s.data.toList.length∧s.data.toList.length≤12):nameS s=true:=by
 unfold nameS
 rw [B19 h (fun e=>by rw [e] at h1; simp at h1),decide_eq_true (show s.size≤12 from h1.2)]; rfl
theorem notN1 {l:List UInt8} {i:Nat} (hi:i < l.length) (h:nextB l[i]=false):nameL l=false:=by
 rw [Bool.eq_false_iff]
 intro hn
 have:=(Bh6 hn i hi hi).2
 rw [h] at this; cases this
theorem notN0 {l:List UInt8} (hi:0 < l.length) (h:Ai7 l[0]=false):nameL l=false:=by
 rw [Bool.eq_false_iff]
 intro hn
 have:=(Bh6 hn 0 hi hi).1 rfl
 rw [h] at this; cases this
section
variable (k:Nat) (hp:Tr DObj) (nx:Nat) (K:DV→Tr DObj→Nat→Prop)
theorem Bs4 (s:ByteArray) (hK:K (bv (nameS s)) hp nx):KW (kN (k+1)) (.fn 83) [sv s] hp nx K:=by
 refine kn_1 (Aa3 (by decide)) t83 (Nat.le_of_ble_eq_true rfl) fun es e1 e2 he=>?_
 have a0:rawE es (.t .o)=sv s:=he 0 _ rfl
 unfold r83
 have hsz:s.data.toList.length=s.size:=rfl
 by_cases c1:(s.size:Int) < 1
 ·simp only [bSa,↓bSb,bP,reduceCtorEq,a0,e1,e2,c1]
  exact kb hK (Eq.symm (Az3 (by omega)))
 by_cases c2:(12:Int) < s.size
 ·simp only [bSa,↓bSb,bP,reduceCtorEq,a0,e1,e2,c1,c2]
  exact kb hK (Eq.symm (Az3 (by omega)))
 simp only [bSa,↓bSb,bP,reduceCtorEq,a0,e1,c1,c2]
 refine EW.up s.data.toList.length (fun i es1=>es1.hp=hp∧es1.nx=nx∧rawE es1 (.t (.l (.l (.l (.l .o)))))=.sl (s.data.toList.map fun c=>.v (.int .u8 (c.toNat:Int))) s.size∧rawE es1 (.t (.r (.l (.l (.l .o)))))=iv (s.size:Nat)∧rawE es1 (.t (.l (.r (.l (.l .o)))))=iv (i:Nat)∧okN s.data.toList i) ?_ ?_ (by omega)
 ·rintro i es1 hi ⟨g1,g2,b15,b16,b17,hc⟩
  unfold l83_1
  by_cases h1:i < s.size
  ·have hia:iaD hp 1 (.sl (s.data.toList.map fun c=>.v (.int .u8 (c.toNat:Int))) s.size) (.v (.int .i64 (i:Int)))=some (.ia ((s.data.toList.map fun c=>.v (.int .u8 (c.toNat:Int))).drop (i*1))):=ia_s h1
   have hu:=uv_at (show i < s.data.toList.length from h1)
   have hbad:∀ c,c=s.data.toList[i]→(nextB c=false∨(i=0∧Ai7 c=false))→false=nameS s:=by
    rintro c rfl (h | ⟨h0,h⟩)
    ·exact (Bs3 (notN1 h1 h)).symm
    ·subst h0; exact (Bs3 (notN0 h1 h)).symm
   have hgood:∀ c,c=s.data.toList[i]→nextB c=true→(i=0→Ai7 c=true)→okN s.data.toList (i+1):=by
    rintro c rfl h h2
    exact okN_s hc h1 h2 h
   generalize s.data.toList[i]=c at hu hbad hgood
   have hbad:=hbad c rfl
   have hgood:=hgood c rfl
   by_cases c1:(97:Int)≤c.toNat
   ·by_cases c2:(c.toNat:Int)≤122
    ·simp only [bSa,↓bSb,reduceCtorEq,b15,b16,b17,g1,g2,h1,hia,hu,c1,c2,Aa2 (show i < _ by omega)]
     exact ⟨h1,hgood (by simp [nextB,Ai7,c1,c2]) (by simp [Ai7,c1,c2])⟩
    ·by_cases c0:(i:Int)=0
     ·simp only [bSa,↓bSb,bP,reduceCtorEq,b15,b16,b17,g1,g2,h1,hia,hu,c1,c2,decide_eq_true c0]
      exact kb hK (hbad (.inr ⟨by omega,by simp [Ai7,c1,c2]⟩))
     ·simp only [bSa,↓bSb,bP,reduceCtorEq,b15,b16,b17,g1,g2,h1,hia,hu,c1,c2,c0,show ¬ (c.toNat:Int)=95 by omega,show ¬ (c.toNat:Int) < 48 by omega,show (57:Int) < c.toNat by omega]
      exact kb hK (hbad (.inl (by simp [nextB,Ai7,c1,c2]; omega)))
   ·by_cases c0:(i:Int)=0
    ·simp only [bSa,↓bSb,bP,reduceCtorEq,b15,b16,b17,g1,g2,h1,hia,hu,c1,decide_eq_true c0]
     exact kb hK (hbad (.inr ⟨by omega,by simp [Ai7,c1]⟩))
    ·by_cases c3:(c.toNat:Int)=95
     ·simp only [bSa,↓bSb,reduceCtorEq,b15,b16,b17,g1,g2,h1,hia,hu,c1,c0,show decide (¬ (c.toNat:Int)=95)=false by simp [c3],Aa2 (show i < _ by omega)]
      exact ⟨h1,hgood (by simp [nextB,c3]) (fun h=>by omega)⟩
     ·by_cases c4:(c.toNat:Int) < 48
      ·simp only [bSa,↓bSb,bP,reduceCtorEq,b15,b16,b17,g1,g2,h1,hia,hu,c1,c0,c3,c4]
       exact kb hK (hbad (.inl (by simp [nextB,Ai7,c1,c3]; omega)))
      ·by_cases c5:(57:Int) < c.toNat
       ·simp only [bSa,↓bSb,bP,reduceCtorEq,b15,b16,b17,g1,g2,h1,hia,hu,c1,c0,c3,c4,c5]
        exact kb hK (hbad (.inl (by simp [nextB,Ai7,c1,c3]; omega)))
       ·simp only [bSa,↓bSb,reduceCtorEq,b15,b16,b17,g1,g2,h1,hia,hu,c1,c0,c3,c4,c5,Aa2 (show i < _ by omega)]
        exact ⟨h1,hgood (by simp [nextB,c3]; omega) (fun h=>by omega)⟩
  ·simp only [bSa,↓bSb,bP,reduceCtorEq,b16,b17,g1,g2,h1]
   obtain rfl:i=s.data.toList.length:=by omega
   exact kb hK (Eq.symm (Ci6 hc (by omega)))
 ·simp only [bSa,reduceCtorEq,e1,e2]
  exact fun j _ h=>by omega
end
end Go.DD

/- Contracts: bounds of dimensions; maps of names. Conditions: those that each theorem states. -/
namespace Go.DD
open Go Go.Proofs
theorem A34 (a:Int):mmD false (.v (.int .i64 a)) (.v (.int .i64 1073741824))=some (.v (.int .i64 (min a 1073741824))):=Cr3 _ _ _ _
theorem dc_fa {hp:Tr DObj} {id T:Nat} {x:PDim} (h:hp.get id=some (.row T (dc x))):(faD hp 0 (.pt id 0)=some (.pt id 0)∧faD hp 1 (.pt id 0)=some (.pt id 1)∧faD hp 2 (.pt id 0)=some (.pt id 2))∧ldD hp none (.pt id 0)=some (sv x.name)∧ldD hp none (.pt id 1)=some (iv x.lo)∧ldD hp none (.pt id 2)=some (iv x.hi):=by
 refine ⟨⟨fa_p h,fa_p h,fa_p h⟩,?_,?_,?_⟩ <;> rw [ld_p h] <;> rfl
theorem ac_fa {hp:Tr DObj} {id T:Nat} {x:PAttr} (h:hp.get id=some (.row T (ac x))):(faD hp 0 (.pt id 0)=some (.pt id 0)∧faD hp 1 (.pt id 0)=some (.pt id 1))∧ldD hp none (.pt id 0)=some (sv x.name)∧ldD hp none (.pt id 1)=some (iv x.type):=by
 refine ⟨⟨fa_p h,fa_p h⟩,?_,?_⟩ <;> rw [ld_p h] <;> rfl
section
variable (k:Nat) (hp:Tr DObj) (nx:Nat) (K:DV→Tr DObj→Nat→Prop) (x:PDim)
theorem Ci7 (hK:∀ hp' nx',Al hp nx hp' nx'→K (iv (lastC x)) hp' nx'):KW (kN (k+1)) (.fn 180) [.agg (dc x)] hp nx K:=by
 refine kn_1 (Aa3 (by decide)) t180 (Nat.le_of_ble_eq_true rfl) fun es e1 e2 he=>?_
 have a0:rawE es (.t .o)=.agg (dc x):=he 0 _ rfl
 unfold r180
 simp only [↓bSb]
 refine Ac1 (cs:=dc x) (by rw [evt,a0]; exact Ac9 rfl) fun hp1 hg1 hk1=>?_
 simp only [bR,e1,e2] at hg1 hk1
 obtain ⟨⟨_,_,f2⟩,_,_,l2⟩:=dc_fa hg1
 simp only [bSa,↓bSb,bP,reduceCtorEq,e2,f2,l2,A34]
 exact hK _ _ ⟨by omega,fun j hj=>hk1 j (by omega)⟩
end
structure MapS (hp:Tr DObj) (im:Nat) (met:List ByteArray):Prop where
 ex:∃ ck es,hp.get im=some (.mapo ck es)∧(∀ e∈es,e.v=bv true∧∃ s∈met,e.k=.string s)∧∀ s∈met,∃ e∈es,e.k=.string s
theorem MapS.nil {hp:Tr DObj} {im ck:Nat} (h:hp.get im=some (.mapo ck [])):MapS hp im []:=⟨ck,[],h,(fun _ h=>by cases h),(fun _ h=>by cases h)⟩
theorem MapS.keep {hp hp':Tr DObj} {im:Nat} {met:List ByteArray} (h:MapS hp im met) (hk:hp'.get im=hp.get im):MapS hp' im met:=by
 obtain ⟨ck,es,h1,h2,h3⟩:=h
 exact ⟨ck,es,hk.trans h1,h2,h3⟩
theorem memB_iff {s:ByteArray} {l:List ByteArray} : memB s l=true↔s∈l:=by
 unfold memB
 rw [List.any_eq_true]
 constructor
 ·rintro ⟨x,hx,he⟩
  rw [← of_decide_eq_true he]; exact hx
 ·intro h; exact ⟨s,h,decide_eq_true rfl⟩
theorem dl_eq (a b:ByteArray):(a.data.toList == b.data.toList)=decide (a=b):=by
 rw [← bytes_eq,ByteArray.toList_eq,ByteArray.toList_eq]
theorem findS:∀ (es:List ME) (s:ByteArray) (i:Nat),(∀ e∈es,∃ t,e.k=.string t)→(findD (.p .string) (.string s) es i=some none∧∀ e∈es,e.k≠.string s)∨∃ j e,findD (.p .string) (.string s) es i=some (some (i+j,e))∧e∈es∧e.k=.string s∧es[j]?=some e
 | [],s,i,_=>.inl ⟨rfl,fun _ h=>by cases h⟩
 | e :: es,s,i,hk=>by
  obtain ⟨t,ht⟩:=hk e (List.mem_cons_self ..)
  have hs:sameK (.p .string) (.string s) e.k=some (decide (s=t)):=by
   rw [ht]
   show some (s.data.toList == t.data.toList)=_
   rw [dl_eq]
  by_cases h:s=t
  ·refine .inr ⟨0,e,?_,List.mem_cons_self ..,by rw [ht,h],rfl⟩
   unfold findD; rw [hs,decide_eq_true h]; rfl
  ·have hfd:findD (.p .string) (.string s) (e :: es) i=findD (.p .string) (.string s) es (i+1):=by
    conv=>lhs; unfold findD
    rw [hs,decide_eq_false h]
   rcases findS es s (i+1) (fun e he=>hk e (List.mem_cons_of_mem _ he)) with ⟨h1,h2⟩ | ⟨j,e',h1,h2,h3,h4⟩
   ·refine .inl ⟨hfd.trans h1,fun x hx=>?_⟩
    rcases List.mem_cons.1 hx with rfl | hx
    ·rw [ht]; intro e; exact h (Value.string.inj e).symm
    ·exact h2 x hx
   ·exact .inr ⟨j+1,e',by rw [hfd,h1,Nat.add_assoc,Nat.add_comm 1 j],List.mem_cons_of_mem _ h2,h3,by simpa using h4⟩
theorem MapS.lkp {hp:Tr DObj} {im:Nat} {met:List ByteArray} (h:MapS hp im met) (s:ByteArray):lkpD hp (.p .string) (.bool false) (.mp im) (.v (.string s))=some (.v (.bool (memB s met))):=by
 obtain ⟨ck,es,h1,h2,h3⟩:=h
 unfold lkpD
 show (if Ai2 (.p .string) (.string s)=true then _ else none)=_
 rw [if_pos (by rfl)]
 simp only [h1]
 rcases findS es s 0 (fun e he=>by obtain ⟨_,t,_,ht⟩:=h2 e he; exact ⟨t,ht⟩) with ⟨h4,h5⟩ | ⟨j,e,h4,h5,h6,_⟩
 ·rw [h4]
  have:memB s met=false:=by
   rw [Bool.eq_false_iff]
   intro hm
   obtain ⟨e,he,hs⟩:=h3 s (memB_iff.1 hm)
   exact h5 e he hs
  rw [this]; rfl
 ·rw [h4]
  obtain ⟨hv,t,ht,hkt⟩:=h2 e h5
  have:t=s:=by rw [h6] at hkt; exact (Value.string.inj hkt).symm
  subst this
  rw [memB_iff.2 ht]
  simp only [lkRes]
  rw [hv]; rfl
theorem Bh7 {call:CallT} {es:ES} {dst:Option Pa} {q:Hold (ES→Prop)} {x k y:Operand} {im:Nat} {met:List ByteArray} {s:ByteArray} (hm:MapS es.hp im met) (e1:es.ds.ev x=.mp im) (e2:es.ds.ev k=sv s) (e3:es.ds.ev y=bv true)
  (h:∀ hp',MapS hp' im (met ++ [s])→(∀ j,j≠im→hp'.get j=es.hp.get j)→q.val ((ES.mk es.sl hp' es.nx).putE dst .any)) :
  SWs (sU dst (xAny (.mup (.p .string) x k y))) call es:=by
 obtain ⟨ck,l,h1,h2,h3⟩:=hm
 show SW _ _ _ _
 rw [sw_u,x_any]
 have key:∀ ck2 es2,putD (.p .string) (.string s) (bv true) ck l=some (ck2,es2)→execU es.nx es.ds (.mup (.p .string) x k y)=some (.any,.wr im (.mapo ck2 es2)):=by
  intro ck2 es2 hp
  simp only [execU,e1,e2,e3,kvOf,sv]
  rw [if_pos (by rfl)]
  show (match es.hp.get im with
   | some (.mapo ck es)=>match putD (.p .string) (.string s) (bv true) ck es with
    | some p=>some (DV.any,Upd.wr im (.mapo p.1 p.2))
    | none=>none
   | _=>none)=_
  rw [h1]
  simp only [hp]
 have fin:∀ ck2 es2,putD (.p .string) (.string s) (bv true) ck l=some (ck2,es2)→(∀ e∈es2,e.v=bv true∧∃ t∈met ++ [s],e.k=.string t)→(∀ t∈met ++ [s],∃ e∈es2,e.k=.string t)→UW (execU es.nx es.ds (.mup (.p .string) x k y)) fun d u=>q.val ((es.up u).putE dst d):=by
  intro ck2 es2 hp h4 h5
  exact ⟨_,_,key ck2 es2 hp,h (es.up (.wr im (.mapo ck2 es2))).hp ⟨ck2,es2,by rw [up_wr,get_set,if_pos rfl],h4,h5⟩ fun j hj=>by rw [up_wr,get_set,if_neg hj]⟩
 rcases findS l s 0 (fun e he=>by obtain ⟨_,t,_,ht⟩:=h2 e he; exact ⟨t,ht⟩) with ⟨h4,h5⟩ | ⟨j,e,h4,h5,h6,h7⟩
 ·refine fin (ck+1) (l ++ [⟨.string s,bv true,ck⟩]) (by unfold putD; rw [h4]) (fun e he=>?_) (fun t ht=>?_)
  ·rcases List.mem_append.1 he with he | he
   ·obtain ⟨a,t,b,c⟩:=h2 e he
    exact ⟨a,t,List.mem_append_left _ b,c⟩
   ·obtain rfl:=List.mem_singleton.1 he
    exact ⟨rfl,s,by simp,rfl⟩
  ·rcases List.mem_append.1 ht with ht | ht
   ·obtain ⟨e,he,hk⟩:=h3 t ht
    exact ⟨e,List.mem_append_left _ he,hk⟩
   ·obtain rfl:=List.mem_singleton.1 ht
    exact ⟨_,List.mem_append_right _ (List.mem_singleton.2 rfl),rfl⟩
 ·have hj:j < l.length:=(List.getElem?_eq_some_iff.1 h7).1
  refine fin ck (l.set j ⟨.string s,bv true,e.b⟩) (by unfold putD; rw [h4,Nat.zero_add]) (fun x hx=>?_) (fun t ht=>?_)
  ·rcases List.mem_or_eq_of_mem_set hx with hx | hx
   ·obtain ⟨a,t,b,c⟩:=h2 x hx
    exact ⟨a,t,List.mem_append_left _ b,c⟩
   ·subst hx
    exact ⟨rfl,s,by simp,rfl⟩
  ·by_cases hts:t=s
   ·subst hts
    exact ⟨_,List.mem_set hj _,rfl⟩
   ·have ht':t∈met:=by
     rcases List.mem_append.1 ht with ht | ht
     ·exact ht
     ·exact absurd (List.mem_singleton.1 ht) hts
    obtain ⟨x,hx,hk⟩:=h3 t ht'
    obtain ⟨i,hi,rfl⟩:=List.mem_iff_getElem.1 hx
    refine ⟨l[i],?_,hk⟩
    have hij:j≠i:=by
     intro e2
     subst e2
     rw [List.getElem?_eq_getElem hi] at h7
     have:=Option.some.inj h7
     rw [this,h6] at hk
     exact hts (Value.string.inj hk).symm
    refine List.mem_iff_getElem.2 ⟨i,by simpa using hi,?_⟩
    rw [List.getElem_set_ne hij]
end Go.DD

/- Contracts: schemas. Conditions: those that each theorem states. -/
namespace Go.DD
open Go Go.Proofs
theorem An5 {α β:Type} (f:α→β) {l:List α} {i:Nat} (h:i < l.length):(l.take (i+1)).map f=(l.take i).map f ++ [f l[i]]:=by
 rw [List.take_succ_eq_append_getElem h,List.map_append]; rfl
theorem Ci8 {met:List ByteArray} {l:List PDim} {i:Nat} (h:i < l.length):dimsF met (l.drop i)=if nameS l[i].name=false∨memB l[i].name met=true then 11 else if Ar4 l[i]=false then 3 else dimsF (met ++ [l[i].name]) (l.drop (i+1)):=by
 rw [List.drop_eq_getElem_cons h]; rfl
theorem B20 {met:List ByteArray} {l:List PAttr} {i:Nat} (h:i < l.length):Ay9 met (l.drop i)=if nameS l[i].name=false∨memB l[i].name met=true then 11 else if l[i].type < 1∨4 < l[i].type then 12 else Ay9 (met ++ [l[i].name]) (l.drop (i+1)):=by
 rw [List.drop_eq_getElem_cons h]; rfl
theorem MapS.live {hp:Tr DObj} {im:Nat} {met:List ByteArray} (h:MapS hp im met):liveE hp (.mp im)=.mp im:=by
 obtain ⟨ck,es,h1,_⟩:=h
 exact Ch2 h1
section
variable (k n0:Nat) (hp:Tr DObj) (nx:Nat) (K:DV→Tr DObj→Nat→Prop)
theorem Ci9 (d:DV) (l:List PDim) (im:Nat) (hn:n0≤nx) (h1:RL rDim hp (Bl n0) d l) (hm:MapS hp im []) (him:n0≤im∧im < nx)
  (hK:∀ hp' nx',nx≤nx'→(∀ j,j < nx→j≠im→hp'.get j=hp.get j)→(dimsE l=0→MapS hp' im (l.map PDim.name))→K (iv (dimsE l)) hp' nx'):KW (kN (k+2)) (.fn 156) [d,.mp im] hp nx K:=by
 refine kn_1 (Aa3 (by decide)) t156 (Nat.le_of_ble_eq_true rfl) fun es e1 e2 he=>?_
 have a0:rawE es (.t .o)=d:=he 0 _ rfl
 have a1:rawE es (.t (.l .o))=.mp im:=he 1 _ rfl
 unfold r156
 by_cases c1:(l.length:Int) < 1
 ·simp only [bSa,↓bSb,bP,reduceCtorEq,a0,e1,e2,h1.len,c1]
  have hh:=hK hp nx (Nat.le_refl _) (fun _ _ _=>rfl)
  unfold dimsE at hh
  rw [if_pos (.inl (by omega))] at hh
  exact hh (fun h=>by cases h)
 by_cases c2:(4:Int) < l.length
 ·simp only [bSa,↓bSb,bP,reduceCtorEq,a0,e1,e2,h1.len,c1,c2]
  have hh:=hK hp nx (Nat.le_refl _) (fun _ _ _=>rfl)
  unfold dimsE at hh
  rw [if_pos (.inr (by omega))] at hh
  exact hh (fun h=>by cases h)
 unfold dimsE at hK
 rw [if_neg (by omega)] at hK
 simp only [bSa,↓bSb,reduceCtorEq,a0,e1,h1.len,c1,c2]
 refine EW.up l.length (fun i es1=>nx≤es1.nx∧(∀ j,j < nx→j≠im→es1.hp.get j=hp.get j)∧MapS es1.hp im ((l.take i).map PDim.name)∧rawE es1 (.t (.l .o))=.mp im∧rawE es1 (.t (.l (.l (.l (.l .o)))))=d∧rawE es1 (.t (.r (.l (.l (.l .o)))))=iv l.length∧rawE es1 (.t (.l (.r (.l (.l .o)))))=iv (i:Nat)∧dimsF [] l=dimsF ((l.take i).map PDim.name) (l.drop i)) ?_ ?_ (by omega)
 ·rintro i es1 hi ⟨g1,g2,gm,b1,b15,b16,b17,hc⟩
  unfold Ca2
  by_cases h:i < l.length
  ·have r1:RL rDim es1.hp (Bl n0) d l:=h1.keep fun j hj=>g2 j (Nat.lt_of_lt_of_le hj hn) (Nat.ne_of_lt (Nat.lt_of_lt_of_le hj him.1))
   rw [Ci8 h] at hc
   simp only [bGa,↓bGb,reduceCtorEq,b15,b16,b17,h,Ak6 r1 h,(Aj2 r1 h).1]
   refine Ad6 fun hp1 hg1 hk1=>?_
   simp only [bR] at hg1 hk1
   simp only [bGa,↓bGb]
   refine Ae2 (id:=es1.nx) (ds:=dc l[i]) (by simp only [bR]) hg1 (by simp only [evt,bR,reduceCtorEq]; exact Ac9 rfl) rfl rfl fun hp2 hg2 hk2=>?_
   simp only [bR] at hg2 hk2
   obtain ⟨⟨f0,f1,f2⟩,l0,l1,l2⟩:=dc_fa hg2
   have gm2:MapS hp2 im ((l.take i).map PDim.name):=gm.keep (by rw [hk2 im (by omega),hk1 im (by omega)])
   have g22:∀ j,j < nx→j≠im→hp2.get j=hp.get j:=fun j hj hne=>by rw [hk2 j (by omega),hk1 j (by omega),g2 j hj hne]
   simp only [bGa,↓bGb,f0,l0]
   refine kws (Bs4 (k:=k) _ _ _ _ ?_)
   simp only [bGa,↓bGb,bP,reduceCtorEq,b1,f0,l0,gm2.live,gm2.lkp]
   refine cws (fun c=>?_) (fun c=>?_)
   ·rw [if_pos (by simpa using c)] at hc
    rw [hc] at hK
    simp only [bGa,↓bGb,bP,reduceCtorEq]
    exact hK _ _ (by omega) g22 (fun h=>by cases h)
   ·rw [if_neg (by simpa using c)] at hc
    simp only [bGa,↓bGb,reduceCtorEq,f1,f2,l1,l2]
    refine cws (fun c2=>?_) (fun c2=>?_)
    ·have:Ar4 l[i]=false:=by
      unfold Ar4
      rw [Bool.eq_false_iff]
      intro hb
      simp at c2 hb
      omega
     rw [if_pos this] at hc
     rw [hc] at hK
     simp only [bGa,↓bGb,bP,reduceCtorEq]
     exact hK _ _ (by omega) g22 (fun h=>by cases h)
    ·have:¬ Ar4 l[i]=false:=by
      unfold Ar4
      simp at c2 ⊢
      omega
     rw [if_neg this] at hc
     simp only [bGa,↓bGb,reduceCtorEq,b1,f0,l0]
     refine Bh7 (im:=im) (s:=l[i].name) gm2 (by simp only [n_ev,bR,reduceCtorEq,bP]; exact gm2.live) (by simp only [n_ev,bR,bP]; exact Bb1 _ _) (by rfl) fun hp3 hm3 hk3=>?_
     simp only [bR] at hk3
     simp only [bGa,↓bGb,reduceCtorEq,b1,b15,b16,b17,h,Aa2 (show i < _ by omega)]
     refine ⟨by omega,fun j hj hne=>by rw [hk3 j hne,g22 j hj hne],by rw [An5 _ h]; exact hm3,by rw [An5 _ h]; exact hc⟩
  ·simp only [bGa,↓bGb,bP,reduceCtorEq,b16,b17,h]
   have e:l.drop i=[]:=List.drop_eq_nil_of_le (by omega)
   rw [e] at hc
   rw [hc] at hK
   refine hK _ _ g1 g2 (fun _=>?_)
   rwa [List.take_of_length_le (by omega)] at gm
 ·simp only [bSa,reduceCtorEq,a1,e1,e2]
  exact ⟨fun _ _ _=>trivial,hm,rfl⟩
end
end Go.DD

/- Contracts: schemas, by the program and by the reference. Conditions: those that each theorem states. -/
namespace Go.DD
open Go Go.Proofs
section
variable (k n0:Nat) (hp:Tr DObj) (nx:Nat) (K:DV→Tr DObj→Nat→Prop) (d a:DV) (l:List PDim) (m:List PAttr) (hn:n0≤nx) (h1:RL rDim hp (Bl n0) d l) (h2:RL rAttr hp (Bl n0) a m)
include hn h1 h2
theorem A79 (hK:∀ hp' nx',Al hp nx hp' nx'→K (iv (Af5 l m)) hp' nx'):KW (kN (k+3)) (.fn 121) [d,a] hp nx K:=by
 refine kn_1 (Aa3 (by decide)) t121 (Nat.le_of_ble_eq_true rfl) fun es e1 e2 he=>?_
 have a0:rawE es (.t .o)=d:=he 0 _ rfl
 have a1:rawE es (.t (.l .o))=a:=he 1 _ rfl
 unfold r121
 simp only [bGa,↓bGb]
 refine Ch7 fun hp1 hg1 hk1=>?_
 simp only [bR,e1,e2] at hg1 hk1
 simp only [bGa,↓bGb,reduceCtorEq,a0,e2]
 have r1:RL rDim hp1 (Bl n0) d l:=h1.keep fun j hj=>hk1 j (by have:j < n0:=hj; omega)
 have r2:RL rAttr hp1 (Bl n0) a m:=h2.keep fun j hj=>hk1 j (by have:j < n0:=hj; omega)
 refine kws (Ci9 (k+1 - 1) n0 _ _ _ d l nx (by omega) r1 (MapS.nil hg1) ⟨hn,by omega⟩ fun hp2 nx2 hn2 hk2 hm2=>?_)
 have hal2:Al hp nx hp2 nx2:=⟨by omega,fun j hj=>by rw [hk2 j (by omega) (by omega),hk1 j (by omega)]⟩
 have r3:RL rAttr hp2 (Bl n0) a m:=h2.ka hn hal2
 simp only [bGa,↓bGb]
 unfold Af5 at hK
 refine cws (fun c=>?_) (fun c=>?_)
 ·have c0:dimsE l≠0:=by simpa using c
  rw [if_pos c0] at hK
  simp only [bGa,↓bGb,bP,reduceCtorEq]
  exact hK _ _ hal2
 ·have c0:dimsE l=0:=by simpa using c
  rw [if_neg (by simp [c0])] at hK
  have gm:=hm2 c0
  simp only [bGa,↓bGb,reduceCtorEq,a1,r3.len]
  refine cws (fun c=>?_) (fun c=>?_)
  ·rw [if_pos (by simp at c; omega)] at hK
   simp only [bGa,↓bGb,bP,reduceCtorEq]
   exact hK _ _ hal2
  ·rw [if_neg (by simp at c; omega)] at hK
   have hlen:m.length≤6:=by simp at c; omega
   simp only [bGa,↓bGb,reduceCtorEq,a1,r3.len]
   refine EW.up m.length (fun i es1=>nx2≤es1.nx∧Al hp nx es1.hp es1.nx∧MapS es1.hp nx (l.map PDim.name ++ (m.take i).map PAttr.name)∧rawE es1 (.t (.l (.r .o)))=.mp nx∧rawE es1 (.t (.r (.l (.l (.r .o)))))=a∧rawE es1 (.t (.l (.r (.l (.r .o)))))=iv m.length∧rawE es1 (.t (.r (.r (.l (.r .o)))))=iv (i:Nat)∧Ay9 (l.map PDim.name) m=Ay9 (l.map PDim.name ++ (m.take i).map PAttr.name) (m.drop i)) ?_ ?_ (by omega)
   ·rintro i es1 hi ⟨gn,g2,gm,b5,b24,b25,b26,hc⟩
    unfold B97
    by_cases h:i < m.length
    ·have r4:RL rAttr es1.hp (Bl n0) a m:=h2.ka hn g2
     rw [B20 h] at hc
     simp only [bGa,↓bGb,reduceCtorEq,b24,b25,b26,h,Ai9 r4 h,(Ai6 r4 h).1]
     refine Ad6 fun hp3 hg3 hk3=>?_
     simp only [bR] at hg3 hk3
     simp only [bGa,↓bGb]
     refine Ae2 (id:=es1.nx) (ds:=ac m[i]) (by simp only [bR]) hg3 (by simp only [evt,bR,reduceCtorEq]; exact Ac9 rfl) rfl rfl fun hp4 hg4 hk4=>?_
     simp only [bR] at hg4 hk4
     obtain ⟨⟨f0,f1⟩,l0,l1⟩:=ac_fa hg4
     have hle:=g2.le
     have gm4:MapS hp4 nx (l.map PDim.name ++ (m.take i).map PAttr.name):=gm.keep (by rw [hk4 nx (by omega),hk3 nx (by omega)])
     have g24:Al hp nx hp4 (es1.nx+1):=⟨by omega,fun j hj=>by rw [hk4 j (by omega),hk3 j (by omega),g2.same j hj]⟩
     simp only [bGa,↓bGb,f0,l0]
     refine kws (Bs4 (k:=k+1) _ _ _ _ ?_)
     simp only [bGa,↓bGb,bP,reduceCtorEq,b5,f0,l0,gm4.live,gm4.lkp]
     refine cws (fun c=>?_) (fun c=>?_)
     ·rw [if_pos (by simpa using c)] at hc
      rw [hc] at hK
      simp only [bGa,↓bGb,bP,reduceCtorEq]
      exact hK _ _ g24
     ·rw [if_neg (by simpa using c)] at hc
      simp only [bGa,↓bGb,reduceCtorEq,f1,l1]
      refine cws (fun c2=>?_) (fun c2=>?_)
      ·rw [if_pos (by simpa using c2)] at hc
       rw [hc] at hK
       simp only [bGa,↓bGb,bP,reduceCtorEq]
       exact hK _ _ g24
      ·rw [if_neg (by simpa using c2)] at hc
       simp only [bGa,↓bGb,reduceCtorEq,b5,f0,l0]
       refine Bh7 (im:=nx) (s:=m[i].name) gm4 (by simp only [n_ev,bR,reduceCtorEq,bP]; exact gm4.live) (by simp only [n_ev,bR,bP]; exact Bb1 _ _) (by rfl) fun hp5 hm5 hk5=>?_
       simp only [bR] at hk5
       simp only [bGa,↓bGb,reduceCtorEq,b5,b24,b25,b26,h,Aa2 (show i < _ by omega)]
       refine ⟨by omega,⟨by omega,fun j hj=>by rw [hk5 j (by omega),g24.same j hj]⟩,by rw [An5 _ h,← List.append_assoc]; exact hm5,by rw [An5 _ h,← List.append_assoc]; exact hc⟩
    ·simp only [bGa,↓bGb,bP,reduceCtorEq,b25,b26,h]
     have e:m.drop i=[]:=List.drop_eq_nil_of_le (by omega)
     rw [e] at hc
     rw [hc] at hK
     exact hK _ _ g2
   ·simp only [bGa,reduceCtorEq]
    exact ⟨hal2,by simpa using gm,by simp⟩
omit h2
end
end Go.DD

/- Contracts: the reference's schemas. Conditions: those that each theorem states. -/
namespace Go.DD
open Go Go.Proofs
section
variable (k n0:Nat) (hp:Tr DObj) (nx:Nat) (K:DV→Tr DObj→Nat→Prop) (d a:DV) (l:List PDim) (m:List PAttr) (hn:n0≤nx) (h1:RL rDim hp (Bl n0) d l) (h2:RL rAttr hp (Bl n0) a m)
include hn h1 h2
end
end Go.DD

/- Contracts: natural numbers of few digits, greatest common divisors. Conditions: those that each theorem states. -/
namespace Go.DD
open Go Go.Proofs
section
variable (k:Nat) (hp:Tr DObj) (nx:Nat) (K:DV→Tr DObj→Nat→Prop)
end
end Go.DD

/- Contracts: greatest common divisors; what values are valid, by the program. Conditions: those that each theorem states. -/
namespace Go.DD
open Go Go.Proofs
theorem B21 (a b:Nat):Nat.gcd b (a % b)=Nat.gcd a b:=by rw [Nat.gcd_comm b,← Nat.gcd_rec,Nat.gcd_comm]
theorem B22 {a b:Nat} (h:b≤a) (hb:b≠0):2*(a % b)≤a:=by
 have h1:=Nat.mod_lt a (show b > 0 by omega)
 have h2:=Nat.div_add_mod a b
 have h3:1≤a / b:=(Nat.le_div_iff_mul_le (by omega)).2 (by omega)
 have h4:b*1≤b*(a / b):=Nat.mul_le_mul_left b h3
 omega
def GM (m a b:Nat):Prop:=(b≤a∧a*b < 2 ^ m)∨(a < b∧∃ m',m=m'+1∧a*b < 2 ^ m')
theorem GM.ini {a b:Nat} (ha:a < 2 ^ 50) (hb:b < 2 ^ 50):GM 101 a b:=by
 have hab:a*b < 2 ^ 100:=by
  have:a*b≤2 ^ 50*b:=Nat.mul_le_mul_right b (by omega)
  have h2:2 ^ 50*b < 2 ^ 50*2 ^ 50:=Nat.mul_lt_mul_of_pos_left hb (by decide)
  have h3:(2:Nat) ^ 50*2 ^ 50=2 ^ 100:=by decide
  omega
 by_cases h:b≤a
 ·exact .inl ⟨h,by rw [show (2:Nat) ^ 101=2 ^ 100*2 from rfl]; omega⟩
 ·exact .inr ⟨by omega,100,rfl,hab⟩
theorem GM.step {m a b:Nat} (h:GM m a b) (h0:b≠0):∃ m',m' < m∧GM m' b (a % b):=by
 have hlt:=Nat.mod_lt a (show b > 0 by omega)
 rcases h with ⟨h1,h2⟩ | ⟨h1,m',rfl,h2⟩
 ·have hh:=B22 h1 h0
  have ha':1≤a*b:=Nat.mul_pos (by omega) (by omega)
  cases m with
  | zero=>simp at h2; omega
  | succ m=>
   refine ⟨m,by omega,.inl ⟨by omega,?_⟩⟩
   have h3:2*(b*(a % b))≤a*b:=by
    rw [show 2*(b*(a % b))=(2*(a % b))*b by rw [Nat.mul_comm b,Nat.mul_assoc]]
    exact Nat.mul_le_mul_right b hh
   rw [Nat.pow_succ] at h2
   omega
 ·refine ⟨m',by omega,.inl ⟨by omega,?_⟩⟩
  rw [Nat.mod_eq_of_lt h1,Nat.mul_comm]
  exact h2
section
variable (k:Nat) (hp:Tr DObj) (nx:Nat) (K:DV→Tr DObj→Nat→Prop)
theorem Cs9 (a b:Nat) (ha:a < 2 ^ 50) (hb:b < 2 ^ 50) (hK:∀ nx',nx≤nx'→K (iv (Nat.gcd a b:Nat)) hp nx'):KW (kN (k+1)) (.fn 182) [iv (a:Nat),iv (b:Nat)] hp nx K:=by
 refine kn_1 (Aa3 (by decide)) t182 (Nat.le_of_ble_eq_true rfl) fun es e1 e2 he=>?_
 have a0:rawE es (.t .o)=iv (a:Nat):=he 0 _ rfl
 have a1:rawE es (.t (.l .o))=iv (b:Nat):=he 1 _ rfl
 unfold r182
 simp only [bSa,↓bSb]
 refine EW.l (I:=fun m es1=>∃ a' b',GM m a' b'∧es1.hp=hp∧nx≤es1.nx∧rawE es1 (.t .o)=iv (a':Nat)∧rawE es1 (.t (.l .o))=iv (b':Nat)∧Nat.gcd a' b'=Nat.gcd a b) ?_ 101 1000000 _ ?_ (by omega)
 ·rintro m es1 ⟨a',b',hm,g1,g2,q0,q1,hg⟩
  unfold Ca4
  by_cases h0:b'=0
  ·subst h0
   simp only [bSa,↓bSb,bP,reduceCtorEq,q0,q1]
   rw [Nat.gcd_zero_right] at hg
   rw [g1,hg]
   exact hK _ g2
  ·have h0':¬ (b':Int)=0:=by omega
   simp only [bSa,↓bSb,reduceCtorEq,q0,q1,h0',Cr9 h0]
   obtain ⟨m',h1,h2⟩:=hm.step h0
   exact ⟨m',h1,b',a' % b',h2,g1,by omega,rfl,rfl,by rw [B21,hg]⟩
 ·exact ⟨a,b,GM.ini ha hb,by simp only [bSa,e1],by simp only [bSa,e2],by simp only [bSa,reduceCtorEq,a0],by simp only [bSa,reduceCtorEq,a1],rfl⟩
end
end Go.DD

/- Contracts: what values are valid, by the program. Conditions: those that each theorem states. -/
namespace Go.DD
open Go Go.Proofs
section
variable {call:CallT} {es:ES} {Q:ES→Prop} {dst:Option Pa} {q:Hold (ES→Prop)}
theorem z_rgs {x:Operand} : SW (sU dst (xAny (.rgs x))) call es Q↔@SWs (sU dst (xAny (.rgs x))) call es ⟨Q⟩:=Iff.rfl
theorem z_nxs {x:Operand} : SW (sU dst (xAny (.nxs x))) call es Q↔@SWs (sU dst (xAny (.nxs x))) call es ⟨Q⟩:=Iff.rfl
theorem Cj0 {x:Operand} {s:ByteArray} (e:es.ds.ev x=sv s) (h:∀ hp',hp'.get es.nx=some (.siter s 0)→(∀ j,j≠es.nx→hp'.get j=es.hp.get j)→q.val ((ES.mk es.sl hp' (es.nx+1)).putE dst (.pt es.nx 0))):SWs (sU dst (xAny (.rgs x))) call es:=by
 show SW _ _ _ _
 rw [sw_u,x_any]
 refine ⟨.pt es.nx 0,.lay (.siter s 0),?_,h (es.up (.lay (.siter s 0))).hp (by rw [Ai5,get_set,if_pos rfl]) fun j hj=>by rw [Ai5,get_set,if_neg hj]⟩
 simp only [execU,e]
theorem Cj1 {x:Operand} {s:ByteArray} {id pos:Nat} (e:es.ds.ev x=.pt id 0) (hg:es.hp.get id=some (.siter s pos))
  (h1:¬ pos < s.size→q.val (es.putE dst (.tup [.v (.bool false)])))
  (h2:∀ hp',pos < s.size→hp'.get id=some (.siter s (pos+(Utf8.decode s pos).2))→(∀ j,j≠id→hp'.get j=es.hp.get j)→q.val ((ES.mk es.sl hp' es.nx).putE dst (.tup [.v (.bool true),.v (.int .i64 (pos:Nat)),.v (.int .i32 ((Utf8.decode s pos).1:Nat))]))):SWs (sU dst (xAny (.nxs x))) call es:=by
 show SW _ _ _ _
 rw [sw_u,x_any]
 have hx:execU es.nx es.ds (.nxs x)=if pos < s.size then some (.tup [.v (.bool true),.v (.int .i64 (pos:Nat)),.v (.int .i32 ((Utf8.decode s pos).1:Nat))],.wr id (.siter s (pos+(Utf8.decode s pos).2))) else some (.tup [.v (.bool false)],.keep):=by
  simp only [execU,e]
  show (match es.hp.get id with
   | some (.siter t pos)=>if pos < t.size then some (DV.tup [.v (.bool true),.v (.int .i64 (pos:Nat)),.v (.int .i32 ((Utf8.decode t pos).1:Nat))],Upd.wr id (.siter t (pos+(Utf8.decode t pos).2))) else some (.tup [.v (.bool false)],.keep)
   | _=>none)=_
  rw [hg]
 rw [hx]
 by_cases h:pos < s.size
 ·rw [if_pos h]
  exact ⟨_,_,rfl,h2 (es.up (.wr id (.siter s (pos+(Utf8.decode s pos).2)))).hp h (by rw [up_wr,get_set,if_pos rfl]) fun j hj=>by rw [up_wr,get_set,if_neg hj]⟩
 ·rw [if_neg h]
  exact ⟨_,_,rfl,h1 h⟩
end
theorem ext10 {hp:Tr DObj} {v:Value} : extD hp (.tup [.v v]) 0=some (.v v):=nr rfl
theorem Ct0 {hp:Tr DObj} {u v w:Value} : extD hp (.tup [.v u,.v v,.v w]) 0=some (.v u):=nr rfl
theorem vc_fa {hp:Tr DObj} {id T:Nat} {x:PVal} (h:hp.get id=some (.row T (vc x))):(faD hp 0 (.pt id 0)=some (.pt id 0)∧faD hp 1 (.pt id 0)=some (.pt id 1)∧faD hp 2 (.pt id 0)=some (.pt id 2)∧faD hp 3 (.pt id 0)=some (.pt id 3))∧ldD hp none (.pt id 0)=some (iv x.kind)∧ldD hp none (.pt id 1)=some (iv x.n)∧ldD hp none (.pt id 2)=some (iv x.d)∧ldD hp none (.pt id 3)=some (sv x.s)∧ldD hp (some 4) (.pt id 0)=some (.agg (vc x)):=by
 refine ⟨⟨fa_p h,fa_p h,fa_p h,fa_p h⟩,?_,?_,?_,?_,?_⟩ <;> rw [ld_p h] <;> rfl
theorem Aw8 (s:ByteArray):decide (s=bs [])=emp s:=(bytes_eq s (bs [])).symm
section
variable (k:Nat) (hp:Tr DObj) (nx:Nat) (K:DV→Tr DObj→Nat→Prop)
theorem Bh8 (v:PVal) (hK:∀ hp' nx',Al hp nx hp' nx'→K (bv (Ay8 v)) hp' nx'):KW (kN (k+1)) (.fn 181) [.agg (vc v)] hp nx K:=by
 refine kn_1 (Aa3 (by decide)) t181 (Nat.le_of_ble_eq_true rfl) fun es e1 e2 he=>?_
 have a0:rawE es (.t .o)=.agg (vc v):=he 0 _ rfl
 unfold r181
 simp only [↓bGb]
 refine Ac1 (cs:=vc v) (by rw [evt,a0]; exact Ac9 rfl) fun hp1 hg1 hk1=>?_
 simp only [bR,e1,e2] at hg1 hk1
 obtain ⟨⟨_,_,f2,f3⟩,_,_,l2,l3,_⟩:=vc_fa hg1
 simp only [bGa,↓bGb,bP,reduceCtorEq,e2,f2,f3,l2,l3,Aw8]
 exact kb (hK _ _ ⟨by omega,fun j hj=>hk1 j (by omega)⟩) rfl
theorem Cb3 (r:Nat) (hK:K (bv (!(decide ((32:Int)≤(r:Int)) && decide ((r:Int)≤126)))) hp nx):KW (kN (k+1)) (.fn 183) [.v (.int .i32 (r:Int))] hp nx K:=by
 refine kn_1 (Aa3 (by decide)) t183 (Nat.le_of_ble_eq_true rfl) fun es e1 e2 he=>?_
 have a0:rawE es (.t .o)=.v (.int .i32 (r:Int)):=he 0 _ rfl
 unfold r183
 simp only [bGa,↓bGb,bP,reduceCtorEq,a0,e1,e2]
 refine kb hK ?_
 rw [Bool.eq_iff_iff]; simp
theorem Bs5 (s:ByteArray) (hl:s.size < 900000) (hK:∀ r hp' nx',Al hp nx hp' nx'→(decide (r < 0)=ascii s)→K (iv r) hp' nx'):KW (kN (k+2)) (.fn 202) [sv s,.fn (.func 183) [.tup []],bv true] hp nx K:=by
 refine kn_1 (Aa3 (by decide)) t202 (Nat.le_of_ble_eq_true rfl) fun es e1 e2 he=>?_
 have a0:rawE es (.t .o)=sv s:=he 0 _ rfl
 have a1:rawE es (.t (.l .o))=.fn (.func 183) [.tup []]:=he 1 _ rfl
 have a2:rawE es (.t (.r .o))=bv true:=he 2 _ rfl
 unfold r202
 simp only [bGa,↓bGb,reduceCtorEq,a0,↓z_rgs]
 refine Cj0 (s:=s) (by simp only [n_ev,bR,bP]; exact Bb1 _ _) fun hp1 hg1 hk1=>?_
 simp only [bR,e1,e2] at hg1 hk1
 simp only [bGa,↓bGb,e2]
 refine EW.l (I:=fun m es1=>∃ i,m=s.size - i∧i≤s.size∧nx+1≤es1.nx∧(∀ j,j < nx→es1.hp.get j=hp.get j)∧es1.hp.get nx=some (.siter s i)∧rawE es1 (.t (.l .o))=.fn (.func 183) [.tup []]∧rawE es1 (.t (.r .o))=bv true∧rawE es1 (.t (.r (.r (.l .o))))=.pt nx 0∧∀ j,(h:j < s.data.toList.length)→j < i→prnt s.data.toList[j]=true) ?_ s.size 1000000 _ ?_ (by omega)
 ·rintro m es1 ⟨i,rfl,hi,g1,g2,g3,b1,b2,b10,hpr⟩
  unfold Ca5
  simp only [↓bGb,↓z_nxs]
  refine Cj1 (id:=nx) (s:=s) (pos:=i) (by simp only [n_ev,bP,b10]; exact Ar0 g3) g3 (fun h=>?_) (fun hp2 h hg2 hk2=>?_)
  ·simp only [bGa,↓bGb,bP,reduceCtorEq,ext10]
   refine hK (-1) _ _ ⟨by omega,g2⟩ ?_
   have:ascii s=true:=by
    unfold ascii
    rw [List.all_eq_true]
    intro c hc
    obtain ⟨j,hj,rfl⟩:=List.mem_iff_getElem.1 hc
    exact hpr j hj (by have:s.data.toList.length=s.size:=rfl; omega)
   rw [this]; rfl
  ·simp only [bR] at hg2 hk2
   have h':i < s.data.toList.length:=h
   have hget:(s[i]'h).toNat=(s.data.toList[i]).toNat:=rfl
   simp only [bGa,↓bGb,reduceCtorEq,b1,Ct0,↓z_cv]
   refine sws_f (f:=183) (fs:=[]) (cs:=[]) (by simp only [evt,bR,reduceCtorEq]; exact Aw5 _ _) ?_
   simp only [bR,List.nil_append,List.append_nil,List.map_cons,List.map_nil]
   have hg2':∀ j,j < nx→hp2.get j=hp.get j:=fun j hj=>by rw [hk2 j (by omega),g2 j hj]
   by_cases hp128:(s.data.toList[i]).toNat < 128
   ·have hdec:=decode_ascii s i h (by rw [hget]; exact hp128)
    rw [hget] at hdec
    rw [hdec] at hg2 ⊢
    simp only at hg2 ⊢
    refine Cb3 (k:=k) _ _ _ (s.data.toList[i]).toNat ?_
    cases hpc:prnt s.data.toList[i] with
    | true=>
     have:(decide ((32:Int)≤((s.data.toList[i]).toNat:Int)) && decide (((s.data.toList[i]).toNat:Int)≤126))=true:=hpc
     rw [this]
     simp only [bGa,↓bGb,bP,reduceCtorEq,b1,b2,b10]
     refine ⟨s.size - (i+1),by omega,i+1,rfl,by omega,by omega,hg2',hg2,fun j hj hji=>?_⟩
     by_cases e:j=i
     ·subst e; exact hpc
     ·exact hpr j hj (by omega)
    | false=>
     have:(decide ((32:Int)≤((s.data.toList[i]).toNat:Int)) && decide (((s.data.toList[i]).toNat:Int)≤126))=false:=hpc
     rw [this]
     simp only [bGa,↓bGb,bP,reduceCtorEq,b2]
     refine hK _ _ _ ⟨by omega,hg2'⟩ ?_
     have:ascii s=false:=by
      rw [Bool.eq_false_iff]
      intro ha
      have:=List.all_eq_true.1 ha _ (List.getElem_mem h')
      rw [hpc] at this; cases this
     rw [this,decide_eq_false (by omega)]
   ·have hdec:=decode_high s i h (by rw [hget]; omega)
    have hpc:prnt s.data.toList[i]=false:=by
     unfold prnt
     rw [Bool.and_eq_false_iff]
     exact .inr (decide_eq_false (by omega))
    refine Cb3 (k:=k) _ _ _ _ ?_
    have:(decide ((32:Int)≤(((Utf8.decode s i).1:Nat):Int)) && decide ((((Utf8.decode s i).1:Nat):Int)≤126))=false:=by
     rw [Bool.and_eq_false_iff]
     exact .inr (decide_eq_false (by omega))
    rw [this]
    simp only [bGa,↓bGb,bP,reduceCtorEq,b2]
    refine hK _ _ _ ⟨by omega,hg2'⟩ ?_
    have:ascii s=false:=by
     rw [Bool.eq_false_iff]
     intro ha
     have:=List.all_eq_true.1 ha _ (List.getElem_mem h')
     rw [hpc] at this; cases this
    rw [this,decide_eq_false (by omega)]
 ·simp only [bGa,reduceCtorEq,a1,a2]
  exact ⟨0,rfl,by omega,fun j hj=>hk1 j (by omega),hg1,fun j _ h=>by omega⟩
theorem B23 (s:ByteArray) (hl:s.size < 900000) (hK:∀ r hp' nx',Al hp nx hp' nx'→(decide (r < 0)=ascii s)→K (iv r) hp' nx'):KW (kN (k+3)) (.fn 184) [sv s,.fn (.func 183) [.tup []]] hp nx K:=by
 refine kn_1 (Aa3 (by decide)) t184 (Nat.le_of_ble_eq_true rfl) fun es e1 e2 he=>?_
 have a0:rawE es (.t .o)=sv s:=he 0 _ rfl
 have a1:rawE es (.t (.l .o))=.fn (.func 183) [.tup []]:=he 1 _ rfl
 unfold r184
 simp only [bGa,↓bGb,reduceCtorEq,a0,a1,e1,e2]
 refine kws (Bs5 k _ _ _ s hl fun r hp' nx' hal hr=>?_)
 simp only [bGa,↓bGb,bP,reduceCtorEq]
 exact hK r _ _ hal hr
end
end Go.DD

/- Contracts: which values are valid, and fit a type. Conditions: those that each theorem states. -/
namespace Go.DD
open Go Go.Proofs
theorem B24 {v:PVal} (h:v.kind=0):Ai8 v=(Ay8 v && decide (1≤v.n) && decide (v.n≤255)):=by unfold Ai8; rw [if_pos h,Bool.and_assoc]
theorem B25 {v:PVal} (h:v.kind=1):Ai8 v=(Ay8 v && (decide (v.n=0) || decide (v.n=1))):=by unfold Ai8; rw [if_neg (by omega),if_pos h]
theorem B26 {v:PVal} (h:v.kind=2):Ai8 v=(emp v.s && (decide (1≤v.d) && (decide (v.d≤1099511627776) && (decide (-1099511627776≤v.n) && (decide (v.n≤1099511627776) && decide (Nat.gcd v.n.natAbs v.d.natAbs=1)))))):=by unfold Ai8; rw [if_neg (by omega),if_neg (by omega),if_pos h]
theorem B27 {v:PVal} (h:v.kind=3):Ai8 v=(decide (v.n=0) && (decide (v.d=0) && (decide (v.s.size≤16) && ascii v.s))):=by unfold Ai8; rw [if_neg (by omega),if_neg (by omega),if_neg (by omega),if_pos h]
theorem B28 {v:PVal} (h0:v.kind≠0) (h1:v.kind≠1) (h2:v.kind≠2) (h3:v.kind≠3):Ai8 v=false:=by unfold Ai8; rw [if_neg h0,if_neg h1,if_neg h2,if_neg h3]
section
variable (k:Nat) (hp:Tr DObj) (nx:Nat) (K:DV→Tr DObj→Nat→Prop)
theorem B29 (v:PVal) (hl:v.s.size < 900000) (hK:∀ hp' nx',Al hp nx hp' nx'→K (bv (Ai8 v)) hp' nx'):KW (kN (k+4)) (.fn 158) [.agg (vc v)] hp nx K:=by
 refine kn_1 (Aa3 (by decide)) t158 (Nat.le_of_ble_eq_true rfl) fun es e1 e2 he=>?_
 have a0:rawE es (.t .o)=.agg (vc v):=he 0 _ rfl
 unfold r158
 simp only [↓bSb]
 refine Ac1 (cs:=vc v) (by rw [evt,a0]; exact Ac9 rfl) fun hp1 hg1 hk1=>?_
 simp only [bR,e1,e2] at hg1 hk1
 obtain ⟨⟨f0,f1,f2,f3⟩,l0,l1,l2,l3,l4⟩:=vc_fa hg1
 have hal:Al hp nx hp1 (nx+1):=⟨by omega,fun j hj=>hk1 j (by omega)⟩
 by_cases k0:v.kind=0
 ·rw [B24 k0] at hK
  simp only [bSa,↓bSb,reduceCtorEq,e2,f0,l0,l4,decide_eq_true k0]
  refine kws (Bh8 (k:=k+2) _ _ _ v fun hp2 nx2 hal2=>?_)
  have q1:faD hp2 1 (.pt nx 0)=some (.pt nx 1):=fa_p ((hal2.same nx (by omega)).trans hg1)
  have q2:ldD hp2 none (.pt nx 1)=some (iv v.n):=by rw [ld_p ((hal2.same nx (by omega)).trans hg1)]; rfl
  simp only [bGa,↓bGb,bP,reduceCtorEq,e2,q1,q2]
  exact kb (hK _ _ (hal.trans hal2)) rfl
 by_cases k1:v.kind=1
 ·rw [B25 k1] at hK
  simp only [bSa,↓bSb,reduceCtorEq,e2,f0,l0,l4,decide_eq_false k0,decide_eq_true k1]
  refine kws (Bh8 (k:=k+2) _ _ _ v fun hp2 nx2 hal2=>?_)
  have q1:faD hp2 1 (.pt nx 0)=some (.pt nx 1):=fa_p ((hal2.same nx (by omega)).trans hg1)
  have q2:ldD hp2 none (.pt nx 1)=some (iv v.n):=by rw [ld_p ((hal2.same nx (by omega)).trans hg1)]; rfl
  have hh:=hK _ _ (hal.trans hal2)
  cases hpl:Ay8 v <;> cases h0:decide (v.n=0) <;> cases h1:decide (v.n=1) <;> simp only [bSa,↓bSb,bP,reduceCtorEq,e2,q1,q2,h0,h1] <;> exact kb hh (by simp [hpl,h0,h1])
 by_cases k2:v.kind=2
 ·rw [B26 k2] at hK
  have hh:=hK _ _ hal
  cases c1:emp v.s with
  | false=>
   simp only [bSa,↓bSb,bP,reduceCtorEq,e2,f0,l0,f3,l3,decide_eq_false k0,decide_eq_false k1,decide_eq_true k2,Aw8,c1]
   exact kb hh (by rw [c1]; rfl)
  | true=>
   rw [c1,Bool.true_and] at hh hK
   by_cases c2:1≤v.d
   ·by_cases c3:v.d≤1099511627776
    ·by_cases c4 : -1099511627776≤v.n
     ·by_cases c5:v.n≤1099511627776
      ·have hneg:unD .neg (.v (.int .i64 v.n))=some (.v (.int .i64 (-v.n))):=by rw [n_neg,wrap_in (by omega)]; congr 3; omega
       have hmax:mmD true (.v (.int .i64 v.n)) (.v (.int .i64 (-v.n)))=some (.v (.int .i64 ((v.n.natAbs:Nat):Int))):=by rw [Cr4]; congr 3; omega
       have hd:v.d=((v.d.natAbs:Nat):Int):=by omega
       have l2':ldD hp1 none (.pt nx 2)=some (iv ((v.d.natAbs:Nat):Int)):=by rw [← hd]; exact l2
       have c2':(1:Int)≤((v.d.natAbs:Nat):Int):=by omega
       have c3':((v.d.natAbs:Nat):Int)≤1099511627776:=by omega
       simp only [bSa,↓bSb,bP,reduceCtorEq,e2,f0,l0,f1,l1,f2,l2',f3,l3,decide_eq_false k0,decide_eq_false k1,decide_eq_true k2,Aw8,c1,c2',c3',c4,c5,hneg,hmax]
       have h50:(2:Nat) ^ 50=1125899906842624:=by decide
       refine kws (Cs9 (k:=k+2) _ _ _ v.n.natAbs v.d.natAbs (by omega) (by omega) fun nx2 hn2=>?_)
       have he:decide ((Nat.gcd v.n.natAbs v.d.natAbs:Int)=1)=decide (Nat.gcd v.n.natAbs v.d.natAbs=1):=decide_eq_decide.2 (by omega)
       have hh2:=hK hp1 nx2 (hal.nx hn2)
       cases c6:decide (Nat.gcd v.n.natAbs v.d.natAbs=1) with
       | true=>
        simp only [bSa,↓bSb,bP,reduceCtorEq,he,c6]
        exact kb hh2 (by simp [c2,c3,c4,c5,c6])
       | false=>
        simp only [bSa,↓bSb,bP,reduceCtorEq,he,c6]
        exact kb hh2 (by simp [c6])
      ·simp only [bSa,↓bSb,bP,reduceCtorEq,e2,f0,l0,f1,l1,f2,l2,f3,l3,decide_eq_false k0,decide_eq_false k1,decide_eq_true k2,Aw8,c1,c2,c3,c4,c5]
       exact kb hh (by simp [c5])
     ·simp only [bSa,↓bSb,bP,reduceCtorEq,e2,f0,l0,f1,l1,f2,l2,f3,l3,decide_eq_false k0,decide_eq_false k1,decide_eq_true k2,Aw8,c1,c2,c3,c4]
      exact kb hh (by simp [c4])
    ·simp only [bSa,↓bSb,bP,reduceCtorEq,e2,f0,l0,f2,l2,f3,l3,decide_eq_false k0,decide_eq_false k1,decide_eq_true k2,Aw8,c1,c2,c3]
     exact kb hh (by simp [c3])
   ·simp only [bSa,↓bSb,bP,reduceCtorEq,e2,f0,l0,f2,l2,f3,l3,decide_eq_false k0,decide_eq_false k1,decide_eq_true k2,Aw8,c1,c2]
    exact kb hh (by simp [c2])
 by_cases k3:v.kind=3
 ·rw [B27 k3] at hK
  have hh:=hK _ _ hal
  cases c1:decide (v.n=0) with
  | false=>
   simp only [bSa,↓bSb,bP,reduceCtorEq,e2,f0,l0,f1,l1,decide_eq_false k0,decide_eq_false k1,decide_eq_false k2,decide_eq_true k3,c1]
   exact kb hh (by rw [c1]; rfl)
  | true=>
   cases c2:decide (v.d=0) with
   | false=>
    simp only [bSa,↓bSb,bP,reduceCtorEq,e2,f0,l0,f1,l1,f2,l2,decide_eq_false k0,decide_eq_false k1,decide_eq_false k2,decide_eq_true k3,c1,c2]
    exact kb hh (by rw [c1,c2]; rfl)
   | true=>
    by_cases c3:(v.s.size:Int)≤16
    ·simp only [bSa,↓bSb,bP,reduceCtorEq,e2,f0,l0,f1,l1,f2,l2,f3,l3,decide_eq_false k0,decide_eq_false k1,decide_eq_false k2,decide_eq_true k3,c1,c2,c3]
     refine kws (B23 (k:=k) _ _ _ v.s hl fun r hp2 nx2 hal2 hr=>?_)
     have hh2:=hK _ _ (hal.trans hal2)
     cases c4:decide (r < 0) with
     | true=>
      simp only [bSa,↓bSb,bP,reduceCtorEq,c4]
      exact kb hh2 (by rw [c1,c2,← hr,c4,decide_eq_true (show v.s.size≤16 by omega)]; rfl)
     | false=>
      simp only [bSa,↓bSb,bP,reduceCtorEq,c4]
      exact kb hh2 (by rw [← hr,c4]; simp)
    ·simp only [bSa,↓bSb,bP,reduceCtorEq,e2,f0,l0,f1,l1,f2,l2,f3,l3,decide_eq_false k0,decide_eq_false k1,decide_eq_false k2,decide_eq_true k3,c1,c2,c3]
     exact kb hh (by rw [decide_eq_false (show ¬ v.s.size≤16 by omega)]; simp)
 ·simp only [bSa,↓bSb,bP,reduceCtorEq,e2,f0,l0,decide_eq_false k0,decide_eq_false k1,decide_eq_false k2,decide_eq_false k3]
  rw [B28 k0 k1 k2 k3] at hK
  exact hK _ _ hal
theorem Bs6 (v:PVal) (t:Int) (hl:v.s.size < 900000) (hK:∀ hp' nx',Al hp nx hp' nx'→K (bv (fitsV v t)) hp' nx'):KW (kN (k+5)) (.fn 123) [.agg (vc v),iv t] hp nx K:=by
 refine kn_1 (Aa3 (by decide)) t123 (Nat.le_of_ble_eq_true rfl) fun es e1 e2 he=>?_
 have a0:rawE es (.t .o)=.agg (vc v):=he 0 _ rfl
 have a1:rawE es (.t (.l .o))=iv t:=he 1 _ rfl
 unfold r123
 simp only [↓bSb]
 refine Ac1 (cs:=vc v) (by rw [evt,a0]; exact Ac9 rfl) fun hp1 hg1 hk1=>?_
 simp only [bR,e1,e2] at hg1 hk1
 obtain ⟨_,_,_,_,_,l4⟩:=vc_fa hg1
 have hal1:Al hp nx hp1 (nx+1):=⟨by omega,fun j hj=>hk1 j (by omega)⟩
 simp only [bGa,↓bGb,reduceCtorEq,e2,l4]
 refine kws (B29 k _ _ _ v hl fun hp2 nx2 hal2=>?_)
 have hg2:=(hal2.same nx (by omega)).trans hg1
 obtain ⟨⟨f0,f1,f2,f3⟩,l0,l1,l2,l3,l4⟩:=vc_fa hg2
 have hh:=hK _ _ (hal1.trans hal2)
 unfold fitsV at hh
 simp only [bGa,↓bGb,reduceCtorEq,e2,a1]
 refine cws (fun c=>?_) (fun c=>?_)
 ·rw [if_pos (by cases hr:Ai8 v <;> simp [hr] at c ⊢; omega)] at hh
  simp only [bGa,↓bGb,bP,reduceCtorEq]
  exact hh
 rw [if_neg (by cases hr:Ai8 v <;> simp [hr] at c ⊢; omega)] at hh
 by_cases k1:v.kind=1
 ·rw [if_pos k1] at hh
  simp only [bGa,↓bGb,bP,reduceCtorEq,e2,a1,f0,l0,decide_eq_true k1]
  exact hh
 rw [if_neg k1] at hh
 by_cases k2:v.kind=2
 ·rw [if_pos k2] at hh
  cases h3:decide (t=3) <;> cases h2:decide (t=2) <;> cases h1:decide (v.d=1) <;> simp only [bSa,↓bSb,bP,reduceCtorEq,e2,a1,f0,l0,f2,l2,decide_eq_false k1,decide_eq_true k2,h3,h2,h1] <;> exact kb hh (by simp [h1,h2,h3])
 rw [if_neg k2] at hh
 by_cases k3:v.kind=3
 ·rw [if_pos k3] at hh
  simp only [bGa,↓bGb,bP,reduceCtorEq,e2,a1,f0,l0,decide_eq_false k1,decide_eq_false k2,decide_eq_true k3]
  exact hh
 ·rw [if_neg k3] at hh
  simp only [bGa,↓bGb,bP,reduceCtorEq,e2,f0,l0,decide_eq_false k1,decide_eq_false k2,decide_eq_false k3]
  exact hh
end
end Go.DD

/- Contracts: which values are valid, and fit a type, by the reference. Conditions: those that each theorem states. -/
namespace Go.DD
open Go Go.Proofs
theorem Am4 {n0 m i:Nat} {an refs lo:List Nat} {c:Bool} {ws:List Look} {ps:List Past} {id:Nat} {T:TypeId} {cs:List DV} (hr:∀ j∈refs,j=id) (hid:id < n0) (hp:∀ p∈ps,p.a.get id=some (.row T cs)∧p.b.get id=some (.row T cs)) (hc:∀ c∈cs,Ab5 6 c c=true) (h2:Ag0 n0 m ws ps=true):Ag0 n0 m (lookE i an true c refs n0 lo ws) ps=true:=
 Ak4 (fun j hj=>by
  rw [hr j hj]
  refine ⟨hid,fun p hp'=>.inr (.inr ?_)⟩
  obtain ⟨h3,h4⟩:=hp p hp'
  cases c with
  | true=>rw [if_pos rfl]; exact Ah8 h3 (h4.trans h3.symm) hc
  | false=>rw [if_neg (by simp)]; simp [Av8,h3,h4]) h2
section
variable (k:Nat) (hp:Tr DObj) (nx:Nat) (K:DV→Tr DObj→Nat→Prop)
end
end Go.DD

/- Contracts: coordinates of dimensions; cells. Conditions: those that each theorem states. -/
namespace Go.DD
open Go Go.Proofs
theorem ofF_s {d:List PDim} {x:List Int} {i:Nat} (h:i < d.length) (h2:i < x.length):ofF (d.drop i) (x.drop i)=if x[i] < d[i].lo∨lastC d[i] < x[i] then false else ofF (d.drop (i+1)) (x.drop (i+1)):=by
 rw [List.drop_eq_getElem_cons h,List.drop_eq_getElem_cons h2]; rfl
theorem ofF_e {d:List PDim} {x:List Int} {i:Nat} (h:d.length≤i):ofF (d.drop i) (x.drop i)=true:=by
 rw [List.drop_eq_nil_of_le h]; cases x.drop i <;> rfl
theorem Bs7 {v:List PVal} {a:List PAttr} {i:Nat} (h:i < v.length) (h2:i < a.length):fitsL (v.drop i) (a.drop i)=if fitsV v[i] a[i].type=false then false else fitsL (v.drop (i+1)) (a.drop (i+1)):=by
 rw [List.drop_eq_getElem_cons h,List.drop_eq_getElem_cons h2]; rfl
theorem Bs8 {v:List PVal} {a:List PAttr} {i:Nat} (h:v.length≤i):fitsL (v.drop i) (a.drop i)=true:=by
 rw [List.drop_eq_nil_of_le h]; cases a.drop i <;> rfl
def PsOK (ps:List Past) (hp:Tr DObj) (n0:Nat):Prop:=∀ q∈ps,(∀ j,Bl n0 j→q.a.get j=hp.get j)∧∀ j,Bl n0 j→q.b.get j=hp.get j
theorem PsOK.nil (hp:Tr DObj) (n0:Nat):PsOK [] hp n0:=fun q h=>by cases h
theorem PsOK.cons {hp:Tr DObj} {n0 i:Nat} {an:List Nat} {a b:Tr DObj} {ps:List Past} (h:PsOK ps hp n0) (h1:∀ j,j < n0→a.get j=hp.get j) (h2:∀ j,j < n0→b.get j=hp.get j):PsOK (⟨i,an,a,b⟩ :: ps) hp n0:=fun q hq=>by
 rcases List.mem_cons.1 hq with rfl | hq
 ·exact ⟨h1,h2⟩
 ·exact h q hq
section
variable (k n0:Nat) (hp:Tr DObj) (nx:Nat) (K:DV→Tr DObj→Nat→Prop)
theorem kn_of (d x:DV) (l:List PDim) (m:List Int) (hn:n0≤nx) (h1:RL rDim hp (Bl n0) d l) (h2:RL rInt hp (Bl n0) x m) (hm:m.length < 900000) (hK:∀ hp' nx',Al hp nx hp' nx'→K (bv (ofB l m)) hp' nx'):KW (kN (k+2)) (.fn 157) [d,x] hp nx K:=by
 refine kn_1 (Aa3 (by decide)) t157 (Nat.le_of_ble_eq_true rfl) fun es e1 e2 he=>?_
 have a0:rawE es (.t .o)=d:=he 0 _ rfl
 have a1:rawE es (.t (.l .o))=x:=he 1 _ rfl
 unfold r157
 by_cases c:m.length=l.length
 ·have hb:ofB l m=ofF l m:=by unfold ofB; rw [decide_eq_true c]; rfl
  rw [hb] at hK
  simp only [bSa,↓bSb,reduceCtorEq,a0,a1,e1,h1.len,h2.len,show decide (¬ m.length=l.length)=false by simp [c]]
  refine EW.up m.length (fun i es1=>Al hp nx es1.hp es1.nx∧rawE es1 (.t .o)=d∧rawE es1 (.t (.r (.l (.r .o))))=x∧rawE es1 (.t (.l (.r (.r .o))))=iv m.length∧rawE es1 (.t (.r (.r (.r .o))))=iv (i:Nat)∧ofF l m=ofF (l.drop i) (m.drop i)) ?_ ?_ (by omega)
  ·rintro i es1 hi ⟨g,b0,b12,b13,b14,hc⟩
   unfold Ca3
   by_cases h:i < m.length
   ·have h':i < l.length:=by omega
    have r1:=h1.ka hn g
    have r2:=h2.ka hn g
    rw [ofF_s h' h] at hc
    by_cases c1:m[i] < l[i].lo
    ·rw [if_pos (.inl c1)] at hc
     rw [hc] at hK
     simp only [bSa,↓bSb,bP,reduceCtorEq,b0,b12,b13,b14,h,Ag8 r2 h,ints_at r2 h,Ak6 r1 h',Bb2 (k:=1) r1 h',(Aj2 r1 h').2.2.2.1,c1]
     exact hK _ _ g
    ·simp only [bSa,↓bSb,reduceCtorEq,b0,b12,b13,b14,h,Ag8 r2 h,ints_at r2 h,Ak6 r1 h',Bb2 (k:=1) r1 h',(Aj2 r1 h').2.2.2.1,(Aj2 r1 h').1,c1]
     refine kws (Ci7 (k:=k) _ _ _ l[i] fun hp2 nx2 hal2=>?_)
     by_cases c2:lastC l[i] < m[i]
     ·rw [if_pos (.inr c2)] at hc
      rw [hc] at hK
      simp only [bSa,↓bSb,bP,reduceCtorEq,c2]
      exact hK _ _ (g.trans hal2)
     ·rw [if_neg (by omega)] at hc
      simp only [bSa,↓bSb,reduceCtorEq,b0,b12,b13,b14,h,c2,Aa2 (show i < _ by omega)]
      exact ⟨g.trans hal2,hc⟩
   ·simp only [bSa,↓bSb,bP,reduceCtorEq,b13,b14,h]
    rw [ofF_e (by omega)] at hc
    rw [hc] at hK
    exact hK _ _ g
  ·simp only [bSa,reduceCtorEq,a0,e1,e2]
 ·have hb:ofB l m=false:=by unfold ofB; rw [decide_eq_false c]; rfl
  rw [hb] at hK
  simp only [bSa,↓bSb,bP,reduceCtorEq,a0,a1,e1,e2,h1.len,h2.len,c]
  exact hK _ _ (Al.refl _ _)
end
end Go.DD

/- Contracts: cells. Conditions: those that each theorem states. -/
namespace Go.DD
open Go Go.Proofs
theorem Ae3 {hp:Tr DObj} {id T:Nat} {a b:DV} (h:hp.get id=some (.row T [a,b])):(faD hp 0 (.pt id 0)=some (.pt id 0)∧faD hp 1 (.pt id 0)=some (.pt id 1))∧ldD hp none (.pt id 0)=some a∧ldD hp none (.pt id 1)=some b∧ldD hp (some 2) (.pt id 0)=some (.agg [a,b]):=by
 refine ⟨⟨fa_p h,fa_p h⟩,?_,?_,?_⟩ <;> rw [ld_p h] <;> rfl
def slen (v:PVal):Prop:=v.s.size < 900000
theorem A35 {hp:Tr DObj} {p:Nat→Prop} {a b:DV} {c:PCell} (h1:RL rInt hp p a c.pos) (h2:RL rVal hp p b c.vals):liveE hp (.agg [a,b])=.agg [a,b]:=Ag1 fun id hid=>by
 have:id∈a.refs∨id∈b.refs:=by simpa [DV.refs,DV.refsL] using hid
 exact this.elim (fun h=>(h1.refs id h).2) fun h=>(h2.refs id h).2
section
variable (k n0:Nat) (hp:Tr DObj) (nx:Nat) (K:DV→Tr DObj→Nat→Prop) (d a x y:DV) (l:List PDim) (m:List PAttr) (c:PCell) (hn:n0≤nx) (h1:RL rDim hp (Bl n0) d l) (h2:RL rAttr hp (Bl n0) a m) (h3:RL rInt hp (Bl n0) x c.pos) (h4:RL rVal hp (Bl n0) y c.vals) (hl:l.length < 900000) (hm:m.length < 900000) (hs:∀ v∈c.vals,slen v)
include hn h1 h2 h3 h4 hl hm hs
theorem Bs9 (hK:∀ hp' nx',Al hp nx hp' nx'→K (iv (cellE l m c)) hp' nx'):KW (kN (k+6)) (.fn 122) [d,a,.agg [x,y]] hp nx K:=by
 refine kn_1 (Aa3 (by decide)) t122 (Nat.le_of_ble_eq_true rfl) fun es e1 e2 he=>?_
 have a0:rawE es (.t .o)=d:=he 0 _ rfl
 have a1:rawE es (.t (.l .o))=a:=he 1 _ rfl
 have a2:rawE es (.t (.r .o))=.agg [x,y]:=he 2 _ rfl
 unfold r122
 simp only [↓bSb]
 refine Ac1 (cs:=[x,y]) (by rw [evt,a2,e1]; exact A35 h3 h4) fun hp1 hg1 hk1=>?_
 simp only [bR,e1,e2] at hg1 hk1
 obtain ⟨⟨f0,f1⟩,l0,l1,_⟩:=Ae3 hg1
 have hal1:Al hp nx hp1 (nx+1):=⟨by omega,fun j hj=>hk1 j (by omega)⟩
 have r1:=h1.ka hn hal1
 have r2:=h2.ka hn hal1
 have r3:=h3.ka hn hal1
 have r4:=h4.ka hn hal1
 unfold cellE at hK
 by_cases c1:c.pos.length=l.length
 ·by_cases c2:c.vals.length=m.length
  ·rw [if_neg (by omega)] at hK
   simp only [bSa,↓bSb,reduceCtorEq,a0,a1,e2,f0,f1,l0,l1,r1.len,r2.len,r3.len,r4.len,show decide (¬ c.pos.length=l.length)=false by simp [c1],show decide (¬ c.vals.length=m.length)=false by simp [c2]]
   refine kws (kn_of (k:=k+3) n0 _ _ _ d x l c.pos (by omega) r1 r3 (by omega) fun hp2 nx2 hal2=>?_)
   have hle2:=hal2.le
   have hg2:=(hal2.same nx (by omega)).trans hg1
   obtain ⟨⟨q0,q1⟩,m0,m1,_⟩:=Ae3 hg2
   have u4:=r4.ka (by omega:n0≤nx+1) hal2
   cases c3:ofB l c.pos with
   | false=>
    rw [if_pos c3] at hK
    simp only [bSa,↓bSb,bP,reduceCtorEq]
    exact hK _ _ (hal1.trans hal2)
   | true=>
    rw [if_neg (by rw [c3]; simp)] at hK
    simp only [bSa,↓bSb,reduceCtorEq,e2,q1,m1,u4.len]
    refine EW.up c.vals.length (fun i es1=>Al hp nx es1.hp es1.nx∧nx2≤es1.nx∧rawE es1 (.t (.l .o))=a∧rawE es1 (.t (.l (.r (.r (.r .o)))))=y∧rawE es1 (.t (.r (.r (.r (.r .o)))))=iv c.vals.length∧rawE es1 (.t (.l (.l (.l (.l (.l .o))))))=iv (i:Nat)∧fitsL c.vals m=fitsL (c.vals.drop i) (m.drop i)) ?_ ?_ (by omega)
    ·rintro i es1 hi ⟨g,gn,b1,b29,b30,b31,hc⟩
     unfold B98
     have hle:=g.le
     by_cases h:i < c.vals.length
     ·have h':i < m.length:=by omega
      have w4:=h4.ka hn g
      rw [Bs7 h h'] at hc
      simp only [bSa,↓bSb,reduceCtorEq,b29,b30,b31,h,Ao6 w4 h,Ar3 w4 h]
      refine Ad6 fun hp3 hg3 hk3=>?_
      simp only [bR] at hg3 hk3
      simp only [bSa,↓bSb,reduceCtorEq]
      refine Ae2 (id:=es1.nx) (ds:=vc c.vals[i]) (by simp only [bR,reduceCtorEq]) hg3 (by simp only [evt,bR,reduceCtorEq]; exact Ac9 rfl) rfl rfl fun hp4 hg4 hk4=>?_
      simp only [bR] at hg4 hk4
      obtain ⟨_,_,_,_,_,t4⟩:=vc_fa hg4
      have g4:Al hp nx hp4 (es1.nx+1):=⟨by omega,fun j hj=>by rw [hk4 j (by omega),hk3 j (by omega),g.same j hj]⟩
      have w2:=h2.ka hn g4
      simp only [bSa,↓bSb,reduceCtorEq,b1,t4,Ai9 w2 h',A33 (k:=1) w2 h',(Ai6 w2 h').2.2.2,w2.rox (show n0≤es1.nx+1 by omega),Aj6 w2 (show n0≤es1.nx+1 by omega),A78 w2 (show n0≤es1.nx+1 by omega),Aa1 (n0:=es1.nx+1) (m:=8) hg4 (show es1.nx < es1.nx+1 by omega),As1 (show DV.refsL (vc c.vals[i])=[] from rfl)]
      refine Aa0 rfl (Ad1 ?_)
      simp only [bR,reduceCtorEq,List.map_cons,List.map_nil]
      refine Bs6 (k:=k) _ _ _ c.vals[i] m[i].type (hs _ (List.getElem_mem h)) fun hp5 nx5 hal5=>?_
      have hle5:=hal5.le
      have g5:=(g4.nx (by omega:es1.nx+1≤es1.nx+1+8)).trans hal5
      cases c4:fitsV c.vals[i] m[i].type with
      | false=>
       rw [if_pos c4] at hc
       rw [hc] at hK
       simp only [bSa,↓bSb,bP,reduceCtorEq,hle5]
       exact hK _ _ g5
      | true=>
       rw [if_neg (by rw [c4]; simp)] at hc
       simp only [bSa,↓bSb,reduceCtorEq,b1,b29,b30,b31,h,hle5,Aa2 (show i < _ by omega)]
       exact ⟨g5,by omega,hc⟩
     ·simp only [bSa,↓bSb,bP,reduceCtorEq,b30,b31,h]
      rw [Bs8 (by omega)] at hc
      rw [hc] at hK
      exact hK _ _ g
    ·simp only [bSa,reduceCtorEq,a1]
     exact hal1.trans hal2
  ·rw [if_pos (.inr c2)] at hK
   simp only [bSa,↓bSb,bP,reduceCtorEq,a0,a1,e2,f0,f1,l0,l1,r1.len,r2.len,r3.len,r4.len,show decide (¬ c.pos.length=l.length)=false by simp [c1],c2]
   exact hK _ _ hal1
 ·rw [if_pos (.inl c1)] at hK
  simp only [bSa,↓bSb,bP,reduceCtorEq,a0,e2,f0,l0,r1.len,r3.len,c1]
  exact hK _ _ hal1
end
end Go.DD

/- Contracts: which arrays are valid. Conditions: those that each theorem states. -/
namespace Go.DD
open Go Go.Proofs
theorem Aa7 {hp:Tr DObj} {id T:Nat} {a b c:DV} (h:hp.get id=some (.row T [a,b,c])):(faD hp 0 (.pt id 0)=some (.pt id 0)∧faD hp 1 (.pt id 0)=some (.pt id 1)∧faD hp 2 (.pt id 0)=some (.pt id 2))∧ldD hp none (.pt id 0)=some a∧ldD hp none (.pt id 1)=some b∧ldD hp none (.pt id 2)=some c∧ldD hp (some 3) (.pt id 0)=some (.agg [a,b,c]):=by
 refine ⟨⟨fa_p h,fa_p h,fa_p h⟩,?_,?_,?_,?_⟩ <;> rw [ld_p h] <;> rfl
structure AOK (x:PArr):Prop where
 d:x.dims.length < 900000
 a:x.attrs.length < 900000
 c:x.cells.length < 900000
 e:∀ c∈x.cells,c.pos.length < 900000∧c.vals.length < 900000∧∀ v∈c.vals,slen v
structure AR (hp:Tr DObj) (p:Nat→Prop) (d:DV) (x:PArr):Prop where
 ex:∃ a b c,d=.agg [a,b,c]∧RL rDim hp p a x.dims∧RL rAttr hp p b x.attrs∧RL rCell hp p c x.cells
theorem AR.live {hp:Tr DObj} {p:Nat→Prop} {a b c:DV} {x:PArr} (h1:RL rDim hp p a x.dims) (h2:RL rAttr hp p b x.attrs) (h3:RL rCell hp p c x.cells):liveE hp (.agg [a,b,c])=.agg [a,b,c]:=Ag1 fun id hid=>by
 have:id∈a.refs∨id∈b.refs∨id∈c.refs:=by simpa [DV.refs,DV.refsL] using hid
 rcases this with h | h | h
 ·exact (h1.refs id h).2
 ·exact (h2.refs id h).2
 ·exact (h3.refs id h).2
def prevC (l:List PCell) (i:Nat):Option PCell:=match i with
 | 0=>none
 | i+1=>l[i]?
theorem chk_0 {d:List PDim} {a:List PAttr} {l:List PCell} (h:0 < l.length):chkF d a (prevC l 0) (l.drop 0)=if cellE d a l[0]≠0 then cellE d a l[0] else chkF d a (prevC l 1) (l.drop 1):=by
 have e1:prevC l 1=some l[0]:=List.getElem?_eq_getElem h
 rw [List.drop_eq_getElem_cons h,e1]
 rfl
theorem chk_s {d:List PDim} {a:List PAttr} {l:List PCell} {i:Nat} (h:i+1 < l.length):chkF d a (prevC l (i+1)) (l.drop (i+1))=if cellE d a l[i+1]≠0 then cellE d a l[i+1] else if cmpL l[i].pos l[i+1].pos=0 then 5 else if cmpL l[i].pos l[i+1].pos=1 then 2 else chkF d a (prevC l (i+2)) (l.drop (i+2)):=by
 have e1:prevC l (i+1)=some l[i]:=List.getElem?_eq_getElem (by omega)
 have e2:prevC l (i+2)=some l[i+1]:=List.getElem?_eq_getElem h
 rw [List.drop_eq_getElem_cons h,e1,e2]
 rfl
section
variable (k n0:Nat) (hp:Tr DObj) (nx:Nat) (K:DV→Tr DObj→Nat→Prop) (d:DV) (x:PArr) (hn:n0≤nx) (h0:AR hp (Bl n0) d x) (ho:AOK x)
include hn h0 ho
theorem Aq2 (hK:∀ hp' nx',Al hp nx hp' nx'→K (iv (Aa5 x)) hp' nx'):KW (kN (k+7)) (.fn 57) [d] hp nx K:=by
 obtain ⟨d,a,c,rfl,h1,h2,h3⟩:=h0
 refine kn_1 (Aa3 (by decide)) t57 (Nat.le_of_ble_eq_true rfl) fun es e1 e2 he=>?_
 have a0:rawE es (.t .o)=.agg [d,a,c]:=he 0 _ rfl
 unfold r57
 simp only [↓bSb]
 refine Ac1 (cs:=[d,a,c]) (by rw [evt,a0,e1]; exact AR.live h1 h2 h3) fun hp1 hg1 hk1=>?_
 simp only [bR,e1,e2] at hg1 hk1
 obtain ⟨⟨f0,f1,f2⟩,l0,l1,l2,_⟩:=Aa7 hg1
 have hal1:Al hp nx hp1 (nx+1):=⟨by omega,fun j hj=>hk1 j (by omega)⟩
 unfold Aa5 at hK
 simp only [bSa,↓bSb,reduceCtorEq,e2,f0,f1,l0,l1]
 refine kws (A79 (k:=k+3) n0 _ _ _ d a x.dims x.attrs (by omega) (h1.ka hn hal1) (h2.ka hn hal1) fun hp2 nx2 hal2=>?_)
 have hle2:=hal2.le
 have hg2:=(hal2.same nx (by omega)).trans hg1
 obtain ⟨⟨f0,f1,f2⟩,l0,l1,l2,_⟩:=Aa7 hg2
 have hal2':=hal1.trans hal2
 have r3:=h3.ka hn hal2'
 by_cases c1:Af5 x.dims x.attrs=0
 ·rw [if_neg (by simp [c1])] at hK
  simp only [bGa,↓bGb,reduceCtorEq,e2,f2,l2,r3.len,show decide (¬ Af5 x.dims x.attrs=0)=false by simp [c1]]
  refine cws (fun c2=>?_) (fun c2=>?_)
  ·rw [if_pos (by simp at c2; omega)] at hK
   simp only [bGa,↓bGb,bP,reduceCtorEq]
   exact hK _ _ hal2'
  ·rw [if_neg (by simp at c2; omega)] at hK
   simp only [bGa,↓bGb,reduceCtorEq,e2,f2,l2,r3.len]
   refine EW.up x.cells.length (fun i es1=>Al hp nx es1.hp es1.nx∧nx < es1.nx∧es1.hp.get nx=some (.row 26 [d,a,c])∧rawE es1 (.t (.l .o))=.pt nx 0∧rawE es1 (.t (.r (.l (.r (.l .o)))))=c∧rawE es1 (.t (.l (.r (.r (.l .o)))))=iv x.cells.length∧rawE es1 (.t (.r (.r (.r (.l .o)))))=iv (i:Nat)∧chkF x.dims x.attrs none x.cells=chkF x.dims x.attrs (prevC x.cells i) (x.cells.drop i)) ?_ ?_ (by have:=ho.c; omega)
   ·rintro i es1 hi ⟨g,gn,hg,b1,b20,b21,b22,hc⟩
    unfold l57_1
    have hoc:=ho.c
    by_cases h:i < x.cells.length
    ·have w1:=h1.ka hn g
     have w2:=h2.ka hn g
     have w3:=h3.ka hn g
     obtain ⟨p,v,rp,rv,lc,_⟩:=cells_at w3 h
     simp only [bSa,↓bSb,reduceCtorEq,b20,b21,b22,h,Ab8 w3 h,lc]
     refine Ad6 fun hp3 hg3 hk3=>?_
     simp only [bR] at hg3 hk3
     have g3:Al hp nx hp3 (es1.nx+1):=⟨by omega,fun j hj=>by rw [hk3 j (by omega),g.same j hj]⟩
     have rp3:=rp.keep fun j (hj:j < n0)=>hk3 j (by omega)
     have rv3:=rv.keep fun j (hj:j < n0)=>hk3 j (by omega)
     simp only [bSa,↓bSb,reduceCtorEq]
     refine Ae2 (id:=es1.nx) (ds:=[p,v]) (by simp only [bR,reduceCtorEq]) hg3 (by simp only [evt,bR,reduceCtorEq]; exact A35 rp3 rv3) rfl rfl fun hp4 hg4 hk4=>?_
     simp only [bR] at hg4 hk4
     have hge:hp4.get nx=some (.row 26 [d,a,c]):=by rw [hk4 nx (by omega),hk3 nx (by omega),hg]
     obtain ⟨⟨q0,q1,q2⟩,m0,m1,m2,_⟩:=Aa7 hge
     obtain ⟨⟨t0,t1⟩,u0,u1,u2⟩:=Ae3 hg4
     have g4:Al hp nx hp4 (es1.nx+1):=g3.new (Nat.le_refl _) fun j hj=>hk4 j (by omega)
     have rp4:=rp3.keep fun j (hj:j < n0)=>hk4 j (by omega)
     have rv4:=rv3.keep fun j (hj:j < n0)=>hk4 j (by omega)
     have hce:=ho.e _ (List.getElem_mem h)
     simp only [bSa,↓bSb,reduceCtorEq,b1,q0,q1,m0,m1,u2]
     refine kws (Bs9 k n0 _ _ _ d a p v x.dims x.attrs x.cells[i] (by omega) (h1.ka hn g4) (h2.ka hn g4) rp4 rv4 ho.d ho.a hce.2.2 fun hp5 nx5 hal5=>?_)
     have hle5:=hal5.le
     have g5:=g4.trans hal5
     have hge5:=(hal5.same nx (by omega)).trans hge
     have hg5:=(hal5.same es1.nx (by omega)).trans hg4
     by_cases c3:cellE x.dims x.attrs x.cells[i]=0
     ·cases i with
      | zero=>
       rw [chk_0 h,if_neg (by simp [c3])] at hc
       simp only [bSa,↓bSb,reduceCtorEq,b1,b20,b21,b22,h,show decide (¬ cellE x.dims x.attrs x.cells[0]=0)=false by simp [c3],show binD .add (.v (.int .i64 0)) (.v (.int .i64 1))=some (.v (.int .i64 1)) from rfl]
       exact ⟨g5,by omega,hge5,by rfl,hc⟩
      | succ i=>
       rw [chk_s h,if_neg (by simp [c3])] at hc
       have hi0:¬ ((i+1:Nat):Int)=0:=by omega
       have hsub:binD .sub (.v (.int .i64 ((i+1:Nat):Int))) (.v (.int .i64 1))=some (.v (.int .i64 (i:Int))):=by rw [b_sub,wrap_in (by omega)]; congr 3; omega
       obtain ⟨⟨q0,q1,q2⟩,m0,m1,m2,_⟩:=Aa7 hge5
       obtain ⟨⟨t0,t1⟩,u0,u1,u2⟩:=Ae3 hg5
       have w5:=h3.ka hn g5
       have hi':i < x.cells.length:=by omega
       obtain ⟨p',v',rp',rv',_,_,lp',_⟩:=cells_at w5 hi'
       have rp5:=rp4.keep fun j (hj:j < n0)=>hal5.same j (by omega)
       simp only [bSa,↓bSb,reduceCtorEq,b1,show decide (¬ cellE x.dims x.attrs x.cells[i+1]=0)=false by simp [c3],hi0,hsub,q2,m2,t0,u0,Ab8 w5 hi',Ae6 (k:=0) w5 hi',lp',w5.rox (show n0≤nx5 by omega),Ai0 w5 (show n0≤nx5 by omega),Aw7 w5 (show n0≤nx5 by omega),Aa1 (n0:=nx5) (m:=10) hge5 (show nx < nx5 by omega),Aa1 (n0:=nx5) (m:=10) hg5 (show es1.nx < nx5 by omega),rp'.rox (show n0≤nx5 by omega),rp5.rox (show n0≤nx5 by omega)]
       refine Aa0 rfl (Ad1 ?_)
       simp only [bR,reduceCtorEq,List.map_cons,List.map_nil]
       refine Ad8 (k:=k+2) n0 _ _ _ p' p _ _ (by omega) rp' rp5 (ho.e _ (List.getElem_mem hi')).1 ?_
       have g6:Al hp nx hp5 (nx5+10):=g5.nx (by omega)
       by_cases c4:cmpL x.cells[i].pos x.cells[i+1].pos=0
       ·rw [if_pos c4] at hc
        rw [hc] at hK
        simp only [bSa,↓bSb,bP,reduceCtorEq,decide_eq_true c4]
        exact hK _ _ g6
       ·rw [if_neg c4] at hc
        by_cases c5:cmpL x.cells[i].pos x.cells[i+1].pos=1
        ·rw [if_pos c5] at hc
         rw [hc] at hK
         simp only [bSa,↓bSb,bP,reduceCtorEq,decide_eq_false c4,decide_eq_true c5]
         exact hK _ _ g6
        ·rw [if_neg c5] at hc
         simp only [bSa,↓bSb,reduceCtorEq,b1,b20,b21,b22,h,decide_eq_false c4,decide_eq_false c5,Aa2 (show i+1 < _ by have:=ho.c; omega)]
         exact ⟨g6,by omega,hge5,hc⟩
     ·have hc2:chkF x.dims x.attrs none x.cells=cellE x.dims x.attrs x.cells[i]:=by
       cases i with
       | zero=>rw [hc,chk_0 h,if_pos c3]
       | succ i=>rw [hc,chk_s h,if_pos c3]
      rw [hc2] at hK
      simp only [bSa,↓bSb,bP,reduceCtorEq,c3]
      exact hK _ _ g5
    ·simp only [bSa,↓bSb,bP,reduceCtorEq,b21,b22,h]
     have e:x.cells.drop i=[]:=List.drop_eq_nil_of_le (by omega)
     have hc2:chkF x.dims x.attrs none x.cells=0:=by
      rw [hc,e]
      cases prevC x.cells i <;> rfl
     rw [hc2] at hK
     exact hK _ _ g
   ·simp only [bSa,reduceCtorEq]
    exact ⟨hal2',by omega,hg2,rfl⟩
 ·rw [if_pos c1] at hK
  simp only [bSa,↓bSb,bP,reduceCtorEq,c1]
  exact hK _ _ hal2'
end
end Go.DD

/- Contracts: which arrays are valid, by the reference. Conditions: those that each theorem states. -/
namespace Go.DD
open Go Go.Proofs
section
variable (k n0:Nat) (hp:Tr DObj) (nx:Nat) (K:DV→Tr DObj→Nat→Prop)
variable (d:DV) (x:PArr) (hn:n0≤nx) (h0:AR hp (Bl n0) d x) (ho:AOK x)
include hn h0 ho
end
end Go.DD

/- Contracts: which arrays are examined. Conditions: those that each theorem states. -/
namespace Go.DD
open Go Go.Proofs
def Aj0 (s:ByteArray):Bool:=decide ((s.size:Int)≤40)
def fewS (d:List PDim) (a:List PAttr):Bool:=(decide (d.length≤10) && decide (a.length≤10)) && (d.all (fun x=>Aj0 x.name) && a.all fun x=>Aj0 x.name)
def fewV (v:List PVal):Bool:=v.all fun x=>Aj0 x.s
def fewC1 (c:PCell):Bool:=(decide (c.pos.length≤10) && decide (c.vals.length≤10)) && fewV c.vals
def fewC (l:List PCell) (most:Nat):Bool:=decide (l.length≤most) && l.all fewC1
def fewA (x:PArr) (most:Nat):Bool:=fewS x.dims x.attrs && fewC x.cells most
theorem all_s {α:Type} {f:α→Bool} {l:List α} {i:Nat} (h:i < l.length):(l.take (i+1)).all f=((l.take i).all f && f l[i]):=by
 rw [List.take_succ_eq_append_getElem h,List.all_append]; simp
theorem all_n {α:Type} {f:α→Bool} {l:List α} {i:Nat} (h:i < l.length) (hf:f l[i]=false):l.all f=false:=by
 rw [Bool.eq_false_iff]
 intro ha
 have:=List.all_eq_true.1 ha _ (List.getElem_mem h)
 rw [hf] at this; cases this
theorem Bt0 {x:PArr} {most:Nat} (h:fewA x most=true) (hm:most < 900000):AOK x:=by
 unfold fewA fewS fewC at h
 simp only [Bool.and_eq_true,decide_eq_true_eq,List.all_eq_true] at h
 obtain ⟨⟨⟨h1,h2⟩,h3,h4⟩,h5,h6⟩:=h
 refine ⟨by omega,by omega,by omega,fun c hc=>?_⟩
 have:=h6 c hc
 unfold fewC1 fewV at this
 simp only [Bool.and_eq_true,decide_eq_true_eq,List.all_eq_true] at this
 obtain ⟨⟨a,b⟩,e⟩:=this
 refine ⟨by omega,by omega,fun v hv=>?_⟩
 have:=e v hv
 unfold Aj0 at this
 simp only [decide_eq_true_eq] at this
 unfold slen; omega
theorem Ct1 {hp:Tr DObj} {p:Nat→Prop} {d:DV} {l:List PVal} (h:RL rVal hp p d l) {i:Nat} (hi:i < l.length):ldD hp none (adrF (adrE 4 d i) 3)=some (sv l[i].s):=by
 obtain ⟨ds,hr,h1,h0,h2⟩:=h.at hi
 rw [Br9] at hr
 exact h2 3 _ (by rw [hr]; rfl)
section
variable (k n0:Nat) (hp:Tr DObj) (nx:Nat) (K:DV→Tr DObj→Nat→Prop)
theorem Aw9 (s:ByteArray) (hK:K (bv (Aj0 s)) hp nx):KW (kN (k+1)) (.fn 120) [sv s] hp nx K:=by
 refine kn_1 (Aa3 (by decide)) t120 (Nat.le_of_ble_eq_true rfl) fun es e1 e2 he=>?_
 have a0:rawE es (.t .o)=sv s:=he 0 _ rfl
 unfold r120
 simp only [bGa,↓bGb,bP,reduceCtorEq,a0,e1,e2]
 exact hK
theorem Cj2 (d a:DV) (l:List PDim) (m:List PAttr) (p:Nat→Prop) (h1:RL rDim hp p d l) (h2:RL rAttr hp p a m) (hK:K (bv (fewS l m)) hp nx):KW (kN (k+2)) (.fn 51) [d,a] hp nx K:=by
 refine kn_1 (Aa3 (by decide)) t51 (Nat.le_of_ble_eq_true rfl) fun es e1 e2 he=>?_
 have a0:rawE es (.t .o)=d:=he 0 _ rfl
 have a1:rawE es (.t (.l .o))=a:=he 1 _ rfl
 unfold r51
 simp only [bGa,↓bGb,reduceCtorEq,a0,a1,e1,h1.len,h2.len]
 unfold fewS at hK
 refine cws (fun c=>?_) (fun c=>?_)
 ·rw [show (decide (l.length≤10) && decide (m.length≤10))=false by simp at c ⊢; omega] at hK
  simp only [bGa,↓bGb,bP,reduceCtorEq,e1,e2]
  exact hK
 rw [show (decide (l.length≤10) && decide (m.length≤10))=true by simp at c ⊢; omega,Bool.true_and] at hK
 have hlm:l.length≤10∧m.length≤10:=by simp at c; omega
 simp only [bGa,↓bGb]
 refine EW.up l.length (fun i es1=>es1.hp=hp∧es1.nx=nx∧rawE es1 (.t .o)=d∧rawE es1 (.t (.l .o))=a∧rawE es1 (.t (.l (.r .o)))=iv (i:Nat)∧(l.take i).all (fun x=>Aj0 x.name)=true) ?_ ?_ (by omega)
 ·rintro i es1 hi ⟨g1,g2,b0,b1,b5,hc⟩
  unfold l51_1
  by_cases h:i < l.length
  ·simp only [bGa,↓bGb,reduceCtorEq,b0,b5,g1,g2,h,h1.len,Ak6 h1 h,Bb2 (k:=0) h1 h,(Aj2 h1 h).2.2.1]
   refine kws (Aw9 (k:=k) _ _ _ _ ?_)
   cases c4:Aj0 l[i].name with
   | false=>
    rw [all_n (f:=fun x:PDim=>Aj0 x.name) h c4,Bool.false_and] at hK
    simp only [bSa,↓bSb,bP,reduceCtorEq]
    exact hK
   | true=>
    simp only [bSa,↓bSb,reduceCtorEq,b0,b1,b5,h,Aa2 (show i < _ by omega)]
    rw [all_s h,hc,c4]; rfl
  ·rw [List.take_of_length_le (by omega)] at hc
   rw [hc,Bool.true_and] at hK
   simp only [bGa,↓bGb,reduceCtorEq,b0,b5,g1,h,h1.len]
   refine EW.up m.length (fun i es1=>es1.hp=hp∧es1.nx=nx∧rawE es1 (.t (.l .o))=a∧rawE es1 (.t (.r (.r .o)))=iv (i:Nat)∧(m.take i).all (fun x=>Aj0 x.name)=true) ?_ ?_ (by omega)
   ·rintro i es1 hi ⟨g1,g2,b1,b6,hc⟩
    unfold l51_2
    by_cases h:i < m.length
    ·simp only [bGa,↓bGb,reduceCtorEq,b1,b6,g1,g2,h,h2.len,Ai9 h2 h,A33 (k:=0) h2 h,(Ai6 h2 h).2.2.1]
     refine kws (Aw9 (k:=k) _ _ _ _ ?_)
     cases c4:Aj0 m[i].name with
     | false=>
      rw [all_n (f:=fun x:PAttr=>Aj0 x.name) h c4] at hK
      simp only [bSa,↓bSb,bP,reduceCtorEq]
      exact hK
     | true=>
      simp only [bSa,↓bSb,reduceCtorEq,b1,b6,h,Aa2 (show i < _ by omega)]
      rw [all_s h,hc,c4]; rfl
    ·rw [List.take_of_length_le (by omega)] at hc
     rw [hc] at hK
     simp only [bGa,↓bGb,bP,reduceCtorEq,b1,b6,g1,g2,h,h2.len]
     exact hK
   ·simp only [bSa,reduceCtorEq,b1,g1,g2]
    rfl
 ·simp only [bSa,reduceCtorEq,a0,a1,e1,e2]
  rfl
theorem Cj3 (c:DV) (l:List PCell) (most:Nat) (p:Nat→Prop) (h1:RL rCell hp p c l) (hm:most < 900000) (hK:K (bv (fewC l most)) hp nx):KW (kN (k+2)) (.fn 52) [c,iv (most:Nat)] hp nx K:=by
 refine kn_1 (Aa3 (by decide)) t52 (Nat.le_of_ble_eq_true rfl) fun es e1 e2 he=>?_
 have a0:rawE es (.t .o)=c:=he 0 _ rfl
 have a1:rawE es (.t (.l .o))=iv (most:Nat):=he 1 _ rfl
 unfold r52
 unfold fewC at hK
 by_cases c0:most < l.length
 ·rw [decide_eq_false (by omega),Bool.false_and] at hK
  simp only [bSa,↓bSb,bP,reduceCtorEq,a0,a1,e1,e2,h1.len,c0]
  exact hK
 rw [decide_eq_true (by omega),Bool.true_and] at hK
 simp only [bSa,↓bSb,reduceCtorEq,a0,a1,e1,h1.len,c0]
 refine EW.up l.length (fun i es1=>es1.hp=hp∧es1.nx=nx∧rawE es1 (.t .o)=c∧rawE es1 (.t (.l (.r .o)))=iv (i:Nat)∧(l.take i).all fewC1=true) ?_ ?_ (by omega)
 ·rintro i es1 hi ⟨g1,g2,b0,b5,hc⟩
  unfold l52_2
  by_cases h:i < l.length
  ·obtain ⟨x,y,r1,r2,_,_,ld0,ld1⟩:=cells_at h1 h
   have hbad:fewC1 l[i]=false→l.all fewC1=false:=all_n h
   have hs:=all_s (f:=fewC1) h
   rw [hc,Bool.true_and] at hs
   simp only [bGa,↓bGb,reduceCtorEq,b0,b5,g1,h,h1.len,Ab8 h1 h,Ae6 (k:=0) h1 h,Ae6 (k:=1) h1 h,ld0,ld1,r1.len,r2.len]
   refine cws (fun c1=>?_) (fun c1=>?_)
   ·rw [hbad (by
     unfold fewC1
     rw [show (decide (l[i].pos.length≤10) && decide (l[i].vals.length≤10))=false by simp at c1 ⊢; omega]; rfl)] at hK
    simp only [bGa,↓bGb,bP,reduceCtorEq,g1,g2]
    exact hK
   have hlv:l[i].pos.length≤10∧l[i].vals.length≤10:=by simp at c1; omega
   have he:fewC1 l[i]=fewV l[i].vals:=by
    unfold fewC1
    rw [decide_eq_true hlv.1,decide_eq_true hlv.2]; rfl
   rw [he] at hs hbad
   simp only [bGa,↓bGb]
   refine EW.up l[i].vals.length (fun j es2=>es2.hp=hp∧es2.nx=nx∧rawE es2 (.t .o)=c∧rawE es2 (.t (.l (.r .o)))=iv (i:Nat)∧rawE es2 (.t (.r (.r .o)))=iv (j:Nat)∧(l[i].vals.take j).all (fun x=>Aj0 x.s)=true) ?_ ?_ (by omega)
   ·rintro j es2 hj ⟨q1,q2,x0,x5,x6,hcc⟩
    unfold l52_1
    by_cases h':j < l[i].vals.length
    ·simp only [bGa,↓bGb,reduceCtorEq,x0,x5,x6,q1,q2,h',Ab8 h1 h,Ae6 (k:=1) h1 h,ld1,r2.len,Ao6 r2 h',Ci2 (k:=3) r2 h',Ct1 r2 h']
     refine kws (Aw9 (k:=k) _ _ _ _ ?_)
     cases c4:Aj0 l[i].vals[j].s with
     | false=>
      rw [hbad (all_n (f:=fun x:PVal=>Aj0 x.s) h' c4)] at hK
      simp only [bSa,↓bSb,bP,reduceCtorEq]
      exact hK
     | true=>
      simp only [bSa,↓bSb,reduceCtorEq,x0,x5,x6,h',Aa2 (show j < _ by omega)]
      rw [all_s h',hcc,c4]; rfl
    ·rw [List.take_of_length_le (by omega)] at hcc
     simp only [bGa,↓bGb,reduceCtorEq,x0,x5,x6,q1,q2,h',Ab8 h1 h,Ae6 (k:=1) h1 h,ld1,r2.len,Aa2 (show i < _ by omega)]
     exact ⟨h,by rw [hs]; exact hcc⟩
   ·simp only [bSa,reduceCtorEq,b0,b5,g1,g2]
    rfl
  ·rw [List.take_of_length_le (by omega)] at hc
   rw [hc] at hK
   simp only [bGa,↓bGb,bP,reduceCtorEq,b0,b5,g1,g2,h,h1.len]
   exact hK
 ·simp only [bSa,reduceCtorEq,a0,e1,e2]
  rfl
theorem Cb4 (d:DV) (x:PArr) (most:Nat) (n0:Nat) (hn:n0≤nx) (h0:AR hp (Bl n0) d x) (hm:most < 900000) (hK:∀ hp' nx',Al hp nx hp' nx'→K (bv (fewA x most)) hp' nx'):KW (kN (k+3)) (.fn 13) [d,iv (most:Nat)] hp nx K:=by
 obtain ⟨d,a,c,rfl,h1,h2,h3⟩:=h0
 refine kn_1 (Aa3 (by decide)) t13 (Nat.le_of_ble_eq_true rfl) fun es e1 e2 he=>?_
 have a0:rawE es (.t .o)=.agg [d,a,c]:=he 0 _ rfl
 have a1:rawE es (.t (.l .o))=iv (most:Nat):=he 1 _ rfl
 unfold r13
 simp only [↓bSb]
 refine Ac1 (cs:=[d,a,c]) (by rw [evt,a0,e1]; exact AR.live h1 h2 h3) fun hp1 hg1 hk1=>?_
 simp only [bR,e1,e2] at hg1 hk1
 obtain ⟨⟨f0,f1,f2⟩,l0,l1,l2,_⟩:=Aa7 hg1
 have hal1:Al hp nx hp1 (nx+1):=⟨by omega,fun j hj=>hk1 j (by omega)⟩
 have hh:=hK _ _ hal1
 unfold fewA at hh
 simp only [bSa,↓bSb,reduceCtorEq,e2,f0,f1,l0,l1]
 refine kws (Cj2 (k:=k) _ _ _ d a x.dims x.attrs (Bl n0) (h1.ka hn hal1) (h2.ka hn hal1) ?_)
 cases c1:fewS x.dims x.attrs with
 | false=>
  rw [c1] at hh
  simp only [bSa,↓bSb,bP,reduceCtorEq,e2]
  exact hh
 | true=>
  rw [c1,Bool.true_and] at hh
  simp only [bSa,↓bSb,reduceCtorEq,e2,a1,f2,l2]
  refine kws (Cj3 (k:=k) _ _ _ c x.cells most (Bl n0) (h3.ka hn hal1) hm ?_)
  simp only [bSa,↓bSb,bP,reduceCtorEq]
  exact hh
end
end Go.DD

/- Contracts: copies of lists; arrays of the same dimensions and attributes. Conditions: those that each theorem states. -/
namespace Go.DD
open Go Go.Proofs
section
variable {α:Type} {R:Rep α} {hp hp':Tr DObj} {p q:Nat→Prop} {d:DV} {l:List α}
theorem RL.notnil (h:RL R hp p d l) (hl:l≠[]):isNil 0 d=some false:=by
 cases h with
 | nil=>exact absurd rfl hl
 | sl=>
  show (if 0 < l.length then some false else none)=_
  rw [if_pos (by cases l with | nil=>exact absurd rfl hl | cons=>simp)]
 | ms id off fl l h hid hl2 hr hs=>
  show (if 0 < l.length then some false else none)=_
  rw [if_pos (by cases l with | nil=>exact absurd rfl hl | cons=>simp)]
theorem RL.sl0 (h:RL R hp p (.sl [] 0) l):l=[]:=by
 have:=h.len
 have e:lenD hp (.sl [] 0)=some (.v (.int .i64 ((0:Nat):Int))):=rfl
 rw [e] at this
 simp at this
 exact List.eq_nil_of_length_eq_zero (by omega)
theorem RL.nil0 (h:RL R hp p nilS l):l=[]:=by
 have:=h.len
 have e:lenD hp nilS=some (.v (.int .i64 ((0:Nat):Int))):=rfl
 rw [e] at this
 simp at this
 exact List.eq_nil_of_length_eq_zero (by omega)
def OLs (R:Rep α) (hp:Tr DObj) (p:Nat→Prop) (d:DV) (l:List α):Prop:=OL R hp p d l∨(l=[]∧d=.sl [] 0)
theorem OLs.rl {n n':Nat} (h:OLs R hp p d l) (hr:Rng n n' d):RL R hp (fun j=>p j∨Bw n n' j) d l:=by
 rcases h with h | ⟨rfl,rfl⟩
 ·exact h.rl.mono fun j hj=>hj.imp id fun h=>hr j h
 ·exact .sl []
theorem OLs.rlF {n n':Nat} (h:OLs R hp (fun _=>False) d l) (hr:Rng n n' d):RL R hp (Bw n n') d l:=(h.rl hr).mono fun _ hj=>hj.elim False.elim id
def Nn (d:DV) (l:List α):Prop:=l≠[]∨d=nilS∨d=.sl [] 0
end
theorem Bh9 (n n':Nat):Rng n n' (.sl [] 0):=fun _ h=>by cases h
theorem Ad4:isNil 0 (ofV (.slice none 0 0))=some true:=rfl
theorem Am5 {α:Type} {R:Rep α} {hp hp':Tr DObj} {p q:Nat→Prop} (hf:∀ {ds:List DV} {x:α},R.rd hp p ds x→R.rd hp' q ds x):∀ {l:List α} {ds:List DV},Rows R hp p ds l→Rows R hp' q ds l
 | [],_,h=>h
 | _ :: _,_,⟨a,b,e,h1,h2⟩=>⟨a,b,e,hf h1,Am5 hf h2⟩
theorem A80 (k n0:Nat) (hp:Tr DObj) (nx:Nat) (K:DV→Tr DObj→Nat→Prop) (d:DV) (l:List Int) (hn:n0≤nx) (h1:RL rInt hp (Bl n0) d l) (hnn:Nn d l) (hl:l.length < 2000000000) (hK:∀ hp' nx' d',Al hp nx hp' nx'→OLs rInt hp' (fun _=>False) d' l→Rng nx nx' d'→Nn d' l→K d' hp' nx'):KW (kN (k+1)) (.fn 70) [d] hp nx K:=by
 rcases hnn with hne | rfl | rfl
 ·have hr:relW 70 [d]=none:=by
   unfold relW
   rw [if_neg (by decide),if_pos (by decide)]
   split
   ·rename_i e
    exact absurd (by cases h1 <;> simp_all) hne
   ·rfl
  refine kn_1 hr t70 (Nat.le_of_ble_eq_true rfl) fun es e1 e2 he=>?_
  have a0:rawE es (.t .o)=d:=he 0 _ rfl
  subst e1 e2
  unfold r70
  simp only [bSa,↓bSb,reduceCtorEq,a0]
  refine Ag4 false (by simp only [n_ev,bR,bP,h1.live]; exact h1.notnil hne) Ad4 ?_
  simp only [bSa,↓bSb]
  refine Am3 (fl:=[]) (by rfl) (by rfl) fun hp1 hg1 hk1=>?_
  simp only [bR] at hg1 hk1
  simp only [bSa,↓bSb,reduceCtorEq,a0]
  have r1:RL rInt hp1 (Bl n0) d l:=h1.keep fun j (hj:j < n0)=>hk1 j (by omega)
  refine Ah9 (R:=rInt) (p:=(fun _=>False)) (p2:=(fun _=>False)) (d:=.ms es.nx 0 0 rInt.e) (d2:=d) (l:=[]) (m:=l) (by simp only [bR,reduceCtorEq,bP]; rfl) (.ms es.nx [] [] hg1 rfl) (by simp only [n_ev,bR,bP]; exact r1.live) ((by obtain ⟨ds,q1,q2⟩:=r1.srcD (es:=⟨_,hp1,_⟩); exact ⟨ds,q1,Am5 (p:=Bl n0) (q:=fun _=>False) (fun h=>h) q2⟩)) rfl rfl (by simp; omega) (by decide) fun hp2 hk2 h2=>?_
  simp only [bR,List.nil_append] at hk2 h2
  have h3:=h2 (fun _=>False) (fun j hj=>(hj.elim False.elim False.elim:False).elim)
  simp only [bSa,↓bSb,bP,reduceCtorEq,h3.rl.live]
  refine hK _ _ _ ⟨by omega,fun j hj=>?_⟩ (.inl h3) (Rng.ms (by omega) (by omega)) (.inl hne)
  rw [hk2 j (by omega) (by simp [DV.refs]; omega),hk1 j (by omega)]
 ·have hl0:l=[]:=h1.nil0
  subst hl0
  have hr:relW 70 [nilS]=none:=by
   unfold relW
   rw [if_neg (by decide),if_pos (by decide)]
   rfl
  refine kn_1 hr t70 (Nat.le_of_ble_eq_true rfl) fun es e1 e2 he=>?_
  have a0:rawE es (.t .o)=nilS:=he 0 _ rfl
  subst e1 e2
  unfold r70
  simp only [bSa,↓bSb,reduceCtorEq,a0]
  refine Ag4 true (by simp only [n_ev,bR,bP,nilS,Ah7]; rfl) Ad4 ?_
  simp only [bSa,↓bSb,bP,reduceCtorEq]
  exact hK _ _ nilS (Al.refl _ _) (.inl .nil) (Rng.nil _ _) (.inr (.inl rfl))
 ·have hl0:l=[]:=h1.sl0
  subst hl0
  exact A70 (d:=.sl [] 0) (by unfold relW; rw [if_neg (by decide),if_pos (by decide)]; rfl) (hK _ _ _ (Al.refl _ _) (.inr ⟨rfl,rfl⟩) (Bh9 _ _) (.inr (.inr rfl)))
theorem A81 (k n0:Nat) (hp:Tr DObj) (nx:Nat) (K:DV→Tr DObj→Nat→Prop) (d:DV) (l:List PVal) (hn:n0≤nx) (h1:RL rVal hp (Bl n0) d l) (hnn:Nn d l) (hl:l.length < 2000000000) (hK:∀ hp' nx' d',Al hp nx hp' nx'→OLs rVal hp' (fun _=>False) d' l→Rng nx nx' d'→Nn d' l→K d' hp' nx'):KW (kN (k+1)) (.fn 142) [d] hp nx K:=by
 rcases hnn with hne | rfl | rfl
 ·have hr:relW 142 [d]=none:=by
   unfold relW
   rw [if_neg (by decide),if_pos (by decide)]
   split
   ·rename_i e
    exact absurd (by cases h1 <;> simp_all) hne
   ·rfl
  refine kn_1 hr t142 (Nat.le_of_ble_eq_true rfl) fun es e1 e2 he=>?_
  have a0:rawE es (.t .o)=d:=he 0 _ rfl
  subst e1 e2
  unfold r142
  simp only [bSa,↓bSb,reduceCtorEq,a0]
  refine Ag4 false (by simp only [n_ev,bR,bP,h1.live]; exact h1.notnil hne) Ad4 ?_
  simp only [bSa,↓bSb]
  refine Am3 (fl:=[]) (by rfl) (by rfl) fun hp1 hg1 hk1=>?_
  simp only [bR] at hg1 hk1
  simp only [bSa,↓bSb,reduceCtorEq,a0]
  have r1:RL rVal hp1 (Bl n0) d l:=h1.keep fun j (hj:j < n0)=>hk1 j (by omega)
  refine Ah9 (R:=rVal) (p:=(fun _=>False)) (p2:=(fun _=>False)) (d:=.ms es.nx 0 0 rVal.e) (d2:=d) (l:=[]) (m:=l) (by simp only [bR,reduceCtorEq,bP]; rfl) (.ms es.nx [] [] hg1 rfl) (by simp only [n_ev,bR,bP]; exact r1.live) ((by obtain ⟨ds,q1,q2⟩:=r1.srcD (es:=⟨_,hp1,_⟩); exact ⟨ds,q1,Am5 (p:=Bl n0) (q:=fun _=>False) (fun h=>h) q2⟩)) rfl rfl (by simp; omega) (by decide) fun hp2 hk2 h2=>?_
  simp only [bR,List.nil_append] at hk2 h2
  have h3:=h2 (fun _=>False) (fun j hj=>(hj.elim False.elim False.elim:False).elim)
  simp only [bSa,↓bSb,bP,reduceCtorEq,h3.rl.live]
  refine hK _ _ _ ⟨by omega,fun j hj=>?_⟩ (.inl h3) (Rng.ms (by omega) (by omega)) (.inl hne)
  rw [hk2 j (by omega) (by simp [DV.refs]; omega),hk1 j (by omega)]
 ·have hl0:l=[]:=h1.nil0
  subst hl0
  have hr:relW 142 [nilS]=none:=by
   unfold relW
   rw [if_neg (by decide),if_pos (by decide)]
   rfl
  refine kn_1 hr t142 (Nat.le_of_ble_eq_true rfl) fun es e1 e2 he=>?_
  have a0:rawE es (.t .o)=nilS:=he 0 _ rfl
  subst e1 e2
  unfold r142
  simp only [bSa,↓bSb,reduceCtorEq,a0]
  refine Ag4 true (by simp only [n_ev,bR,bP,nilS,Ah7]; rfl) Ad4 ?_
  simp only [bSa,↓bSb,bP,reduceCtorEq]
  exact hK _ _ nilS (Al.refl _ _) (.inl .nil) (Rng.nil _ _) (.inr (.inl rfl))
 ·have hl0:l=[]:=h1.sl0
  subst hl0
  exact A70 (d:=.sl [] 0) (by unfold relW; rw [if_neg (by decide),if_pos (by decide)]; rfl) (hK _ _ _ (Al.refl _ _) (.inr ⟨rfl,rfl⟩) (Bh9 _ _) (.inr (.inr rfl)))
theorem Bt1 (k n0:Nat) (hp:Tr DObj) (nx:Nat) (K:DV→Tr DObj→Nat→Prop) (d:DV) (l:List PDim) (hn:n0≤nx) (h1:RL rDim hp (Bl n0) d l) (hnn:Nn d l) (hl:l.length < 2000000000) (hK:∀ hp' nx' d',Al hp nx hp' nx'→OLs rDim hp' (fun _=>False) d' l→Rng nx nx' d'→Nn d' l→K d' hp' nx'):KW (kN (k+1)) (.fn 162) [d] hp nx K:=by
 rcases hnn with hne | rfl | rfl
 ·have hr:relW 162 [d]=none:=by
   unfold relW
   rw [if_neg (by decide),if_pos (by decide)]
   split
   ·rename_i e
    exact absurd (by cases h1 <;> simp_all) hne
   ·rfl
  refine kn_1 hr t162 (Nat.le_of_ble_eq_true rfl) fun es e1 e2 he=>?_
  have a0:rawE es (.t .o)=d:=he 0 _ rfl
  subst e1 e2
  unfold r162
  simp only [bSa,↓bSb,reduceCtorEq,a0]
  refine Ag4 false (by simp only [n_ev,bR,bP,h1.live]; exact h1.notnil hne) Ad4 ?_
  simp only [bSa,↓bSb]
  refine Am3 (fl:=[]) (by rfl) (by rfl) fun hp1 hg1 hk1=>?_
  simp only [bR] at hg1 hk1
  simp only [bSa,↓bSb,reduceCtorEq,a0]
  have r1:RL rDim hp1 (Bl n0) d l:=h1.keep fun j (hj:j < n0)=>hk1 j (by omega)
  refine Ah9 (R:=rDim) (p:=(fun _=>False)) (p2:=(fun _=>False)) (d:=.ms es.nx 0 0 rDim.e) (d2:=d) (l:=[]) (m:=l) (by simp only [bR,reduceCtorEq,bP]; rfl) (.ms es.nx [] [] hg1 rfl) (by simp only [n_ev,bR,bP]; exact r1.live) ((by obtain ⟨ds,q1,q2⟩:=r1.srcD (es:=⟨_,hp1,_⟩); exact ⟨ds,q1,Am5 (p:=Bl n0) (q:=fun _=>False) (fun h=>h) q2⟩)) rfl rfl (by simp; omega) (by decide) fun hp2 hk2 h2=>?_
  simp only [bR,List.nil_append] at hk2 h2
  have h3:=h2 (fun _=>False) (fun j hj=>(hj.elim False.elim False.elim:False).elim)
  simp only [bSa,↓bSb,bP,reduceCtorEq,h3.rl.live]
  refine hK _ _ _ ⟨by omega,fun j hj=>?_⟩ (.inl h3) (Rng.ms (by omega) (by omega)) (.inl hne)
  rw [hk2 j (by omega) (by simp [DV.refs]; omega),hk1 j (by omega)]
 ·have hl0:l=[]:=h1.nil0
  subst hl0
  have hr:relW 162 [nilS]=none:=by
   unfold relW
   rw [if_neg (by decide),if_pos (by decide)]
   rfl
  refine kn_1 hr t162 (Nat.le_of_ble_eq_true rfl) fun es e1 e2 he=>?_
  have a0:rawE es (.t .o)=nilS:=he 0 _ rfl
  subst e1 e2
  unfold r162
  simp only [bSa,↓bSb,reduceCtorEq,a0]
  refine Ag4 true (by simp only [n_ev,bR,bP,nilS,Ah7]; rfl) Ad4 ?_
  simp only [bSa,↓bSb,bP,reduceCtorEq]
  exact hK _ _ nilS (Al.refl _ _) (.inl .nil) (Rng.nil _ _) (.inr (.inl rfl))
 ·have hl0:l=[]:=h1.sl0
  subst hl0
  exact A70 (d:=.sl [] 0) (by unfold relW; rw [if_neg (by decide),if_pos (by decide)]; rfl) (hK _ _ _ (Al.refl _ _) (.inr ⟨rfl,rfl⟩) (Bh9 _ _) (.inr (.inr rfl)))
theorem Bt2 (k n0:Nat) (hp:Tr DObj) (nx:Nat) (K:DV→Tr DObj→Nat→Prop) (d:DV) (l:List PAttr) (hn:n0≤nx) (h1:RL rAttr hp (Bl n0) d l) (hnn:Nn d l) (hl:l.length < 2000000000) (hK:∀ hp' nx' d',Al hp nx hp' nx'→OLs rAttr hp' (fun _=>False) d' l→Rng nx nx' d'→Nn d' l→K d' hp' nx'):KW (kN (k+1)) (.fn 163) [d] hp nx K:=by
 rcases hnn with hne | rfl | rfl
 ·have hr:relW 163 [d]=none:=by
   unfold relW
   rw [if_neg (by decide),if_pos (by decide)]
   split
   ·rename_i e
    exact absurd (by cases h1 <;> simp_all) hne
   ·rfl
  refine kn_1 hr t163 (Nat.le_of_ble_eq_true rfl) fun es e1 e2 he=>?_
  have a0:rawE es (.t .o)=d:=he 0 _ rfl
  subst e1 e2
  unfold r163
  simp only [bSa,↓bSb,reduceCtorEq,a0]
  refine Ag4 false (by simp only [n_ev,bR,bP,h1.live]; exact h1.notnil hne) Ad4 ?_
  simp only [bSa,↓bSb]
  refine Am3 (fl:=[]) (by rfl) (by rfl) fun hp1 hg1 hk1=>?_
  simp only [bR] at hg1 hk1
  simp only [bSa,↓bSb,reduceCtorEq,a0]
  have r1:RL rAttr hp1 (Bl n0) d l:=h1.keep fun j (hj:j < n0)=>hk1 j (by omega)
  refine Ah9 (R:=rAttr) (p:=(fun _=>False)) (p2:=(fun _=>False)) (d:=.ms es.nx 0 0 rAttr.e) (d2:=d) (l:=[]) (m:=l) (by simp only [bR,reduceCtorEq,bP]; rfl) (.ms es.nx [] [] hg1 rfl) (by simp only [n_ev,bR,bP]; exact r1.live) ((by obtain ⟨ds,q1,q2⟩:=r1.srcD (es:=⟨_,hp1,_⟩); exact ⟨ds,q1,Am5 (p:=Bl n0) (q:=fun _=>False) (fun h=>h) q2⟩)) rfl rfl (by simp; omega) (by decide) fun hp2 hk2 h2=>?_
  simp only [bR,List.nil_append] at hk2 h2
  have h3:=h2 (fun _=>False) (fun j hj=>(hj.elim False.elim False.elim:False).elim)
  simp only [bSa,↓bSb,bP,reduceCtorEq,h3.rl.live]
  refine hK _ _ _ ⟨by omega,fun j hj=>?_⟩ (.inl h3) (Rng.ms (by omega) (by omega)) (.inl hne)
  rw [hk2 j (by omega) (by simp [DV.refs]; omega),hk1 j (by omega)]
 ·have hl0:l=[]:=h1.nil0
  subst hl0
  have hr:relW 163 [nilS]=none:=by
   unfold relW
   rw [if_neg (by decide),if_pos (by decide)]
   rfl
  refine kn_1 hr t163 (Nat.le_of_ble_eq_true rfl) fun es e1 e2 he=>?_
  have a0:rawE es (.t .o)=nilS:=he 0 _ rfl
  subst e1 e2
  unfold r163
  simp only [bSa,↓bSb,reduceCtorEq,a0]
  refine Ag4 true (by simp only [n_ev,bR,bP,nilS,Ah7]; rfl) Ad4 ?_
  simp only [bSa,↓bSb,bP,reduceCtorEq]
  exact hK _ _ nilS (Al.refl _ _) (.inl .nil) (Rng.nil _ _) (.inr (.inl rfl))
 ·have hl0:l=[]:=h1.sl0
  subst hl0
  exact A70 (d:=.sl [] 0) (by unfold relW; rw [if_neg (by decide),if_pos (by decide)]; rfl) (hK _ _ _ (Al.refl _ _) (.inr ⟨rfl,rfl⟩) (Bh9 _ _) (.inr (.inr rfl)))
def rCells:Rep (List PCell):=rList rCell 24
end Go.DD

/- Contracts: arrays that are alike; where coordinates lie in an array. Conditions: those that each theorem states. -/
namespace Go.DD
open Go Go.Proofs
theorem Ct2 {a:Nat} (h:a < 9000000000000000000):binD .quo (.v (.int .i64 (a:Int))) (.v (.int .i64 2))=some (.v (.int .i64 ((a / 2:Nat):Int))):=by
 have e:(a:Int).tdiv 2=((a / 2:Nat):Int):=rfl
 have hlt:a / 2≤a:=Nat.div_le_self _ _
 generalize a / 2=q at e hlt ⊢
 have e2:binI .quo .i64 (a:Int) 2=some (.int .i64 (q:Int)):=by
  unfold binI
  simp only
  rw [if_neg (by decide),e,wrap_in (by omega)]
 simp only [binD,binV,isSh]
 simp [e2]
def SortC (l:List PCell):Prop:=∀ i j,(h:i < j)→(h2:j < l.length)→cmpL (l[i]'(by omega)).pos l[j].pos = -1
def Ab0 (l:List PCell) (x:List Int):List PVal:=match l.find? (fun c=>decide (c.pos=x)) with
 | some c=>c.vals
 | none=>[]
theorem Az4 {l m:List Int} (h:cmpL l m = -1):l≠m:=fun e=>by rw [cmpL_0.2 e] at h; cases h
theorem Bk8 {l:List PCell} (hs:SortC l) {i:Nat} (hi:i < l.length):Ab0 l l[i].pos=l[i].vals:=by
 have:l.find? (fun c=>decide (c.pos=l[i].pos))=some l[i]:=by
  rw [List.find?_eq_some_iff_getElem]
  refine ⟨by simp,i,hi,rfl,fun j hj=>?_⟩
  have:=Az4 (hs j i hj hi)
  simpa using this
 unfold Ab0
 rw [this]
theorem Bk9 {l:List PCell} {x:List Int} (h:∀ j,(h:j < l.length)→l[j].pos≠x):Ab0 l x=[]:=by
 have:l.find? (fun c=>decide (c.pos=x))=none:=by
  rw [List.find?_eq_none]
  intro c hc
  obtain ⟨j,hj,rfl⟩:=List.mem_iff_getElem.1 hc
  simpa using h j hj
 unfold Ab0
 rw [this]
section
variable (k n0:Nat) (hp:Tr DObj) (nx:Nat) (K:DV→Tr DObj→Nat→Prop)
theorem B30 (d1 d2:DV) (x y:PArr) (hn:n0≤nx) (h1:AR hp (Bl n0) d1 x) (h2:AR hp (Bl n0) d2 y) (hx:AOK x) (hK:∀ hp' nx',Al hp nx hp' nx'→K (bv (decide (x.dims=y.dims) && decide (x.attrs=y.attrs))) hp' nx'):KW (kN (k+2)) (.fn 67) [d1,d2] hp nx K:=by
 obtain ⟨d,a,c,rfl,r1,r2,r3⟩:=h1
 obtain ⟨d',a',c',rfl,s1,s2,s3⟩:=h2
 refine kn_1 (Aa3 (by decide)) t67 (Nat.le_of_ble_eq_true rfl) fun es e1 e2 he=>?_
 have a0:rawE es (.t .o)=.agg [d,a,c]:=he 0 _ rfl
 have a1:rawE es (.t (.l .o))=.agg [d',a',c']:=he 1 _ rfl
 unfold r67
 subst e1 e2
 simp only [↓bSb]
 refine Ac1 (cs:=[d,a,c]) (by rw [evt,a0]; exact AR.live r1 r2 r3) fun hp1 hg1 hk1=>?_
 simp only [bR] at hg1 hk1
 have hal1:Al es.hp es.nx hp1 (es.nx+1):=⟨by omega,fun j hj=>hk1 j (by omega)⟩
 simp only [bSa,↓bSb]
 refine Ac1 (cs:=[d',a',c']) (by simp only [evt,bR,reduceCtorEq,a1]; exact AR.live (s1.ka hn hal1) (s2.ka hn hal1) (s3.ka hn hal1)) fun hp2 hg2 hk2=>?_
 simp only [bR] at hg2 hk2
 have hal2:Al es.hp es.nx hp2 (es.nx+2):=⟨by omega,fun j hj=>by rw [hk2 j (by omega),hk1 j (by omega)]⟩
 obtain ⟨⟨f0,f1,f2⟩,l0,l1,l2,_⟩:=Aa7 ((hk2 es.nx (by omega)).trans hg1)
 obtain ⟨⟨q0,q1,q2⟩,m0,m1,m2,_⟩:=Aa7 hg2
 simp only [bSa,↓bSb,reduceCtorEq,f0,l0,q0,m0]
 refine kws (Cb1 (k:=k) n0 _ _ _ d d' _ _ (by omega) (r1.ka hn hal2) (s1.ka hn hal2) hx.d fun nx3 hn3=>?_)
 cases c1:decide (x.dims=y.dims) with
 | false=>
  simp only [bSa,↓bSb,bP,reduceCtorEq]
  have:=hK hp2 nx3 (hal2.nx (by omega))
  rw [c1] at this
  exact this
 | true=>
  simp only [bSa,↓bSb,reduceCtorEq,f1,l1,q1,m1]
  refine kws (Cb2 (k:=k) n0 _ _ _ a a' _ _ (by omega) (r2.ka hn hal2) (s2.ka hn hal2) hx.a fun nx4 hn4=>?_)
  simp only [bSa,↓bSb,bP,reduceCtorEq]
  have:=hK hp2 nx4 (hal2.nx (by omega))
  rw [c1] at this
  exact this
end
end Go.DD

/- Contracts: cells are merged and sorted. Conditions: those that each theorem states. -/
namespace Go.DD
open Go Go.Proofs
theorem RL.sliE {α:Type} {R:Rep α} {hp:Tr DObj} {p:Nat→Prop} {d:DV} {l:List α} (hd:RL R hp p d l) {a z e:Nat} {lo hi:Option DV} (he:e=R.e) (hlo:bdD 0 lo=some (a:Int)) (hhi:∀ n:Int,n=l.length→bdD n hi=some (z:Int)) (haz:a≤z) (hz:z≤l.length):Go.DD.sliE e d lo hi=some (slD R.e a z d):=by
 subst he
 cases hd with
 | nil=>
  have ha:a=0∧z=0:=by simp at hz; omega
  obtain ⟨rfl,rfl⟩:=ha
  have hh:=hhi 0 rfl
  unfold Go.DD.sliE
  simp only [nilS,hlo,hh]
  rfl
 | sl=>
  have hh:=hhi l.length rfl
  unfold Go.DD.sliE
  simp only [hlo,hh]
  rw [if_pos ⟨by omega,by omega,by omega⟩]
  simp only [Int.toNat_natCast]; rfl
 | ms id off fl l hg hid hl hr hs=>
  have hh:=hhi l.length rfl
  unfold Go.DD.sliE
  simp only [hlo,hh]
  rw [if_pos ⟨trivial,by omega,by omega,by omega⟩]
  simp only [Int.toNat_natCast]
  have e2:((a:Int) < (z:Int)∨(a:Int)=0)↔(a < z∨a=0):=by omega
  unfold slD
  simp only [e2]
theorem Am6 {hp:Tr DObj} {p:Nat→Prop} {d:DV} {l:List PCell} (h:RL rCell hp p d l) (hi:0 < l.length):iaD hp 2 d (.v (.int .i64 0))=some (adrE 2 d 0):=h.ia hi
section
variable (k n0:Nat) (hp:Tr DObj) (nx:Nat) (K:DV→Tr DObj→Nat→Prop)
end
end Go.DD

/- Contracts: cells are sorted. Conditions: those that each theorem states. -/
namespace Go.DD
open Go Go.Proofs
theorem RL.ro' {α:Type} {R:Rep α} {hp:Tr DObj} {p:Nat→Prop} {d:DV} {l:List α} {n m:Nat} {an:List Nat} (h:RL R hp p d l) (ho:∀ j,p j→j < n∨n+m≤j):Aa6 d (fun id=>okRef n m an hp id):=fun id hid=>(Aj5 hp id).2 ⟨(h.refs id hid).2,(ho id (h.refs id hid).1).imp (fun h=>h) .inl⟩
end Go.DD

/- Contracts: the coordinates of some arrays. Conditions: those that each theorem states. -/
namespace Go.DD
open Go Go.Proofs
def rChange:Rep PCell:=rPair rInts rVals 62 PCell.pos PCell.vals
theorem rChange_rd {hp:Tr DObj} {p:Nat→Prop} {ds:List DV} {x:PCell} : rChange.rd hp p ds x↔∃ a b,ds=[a,b]∧RL rInt hp p a x.pos∧RL rVal hp p b x.vals:=rCell_rd
section
variable (k n0:Nat) (hp:Tr DObj) (nx:Nat) (K:DV→Tr DObj→Nat→Prop)
end
end Go.DD

/- Contracts: the reference's difference of two arrays. Conditions: those that each theorem states. -/
namespace Go.DD
open Go Go.Proofs
theorem Bi0 {z w:Value} {a b:DV} (h1:a.okC=true∧a.cells=[a]) (h2:b.okC=true∧b.cells=[b]):fillD [DV.v z,DV.v w] [(0,1,a),(1,1,b)]=some [a,b]:=by
 simp [fillD,h1.1,h1.2,h2.1,h2.2]
theorem Ct3 {z:List Value} {a b:DV} (hz:z.length=2):fillD (List.replicate 1 (z.map DV.v)).flatten [(0,2,.agg [a,b])]=some [a,b]:=by
 match z,hz with
 | [u,v],_=>rfl
theorem AR.same {hp:Tr DObj} {p:Nat→Prop} {a b c:DV} {x:PArr} (h1:RL rDim hp p a x.dims) (h2:RL rAttr hp p b x.attrs) (h3:RL rCell hp p c x.cells):∀ d∈[a,b,c],Ab5 6 d d=true:=fun d hd=>by
 simp only [List.mem_cons,List.not_mem_nil,or_false] at hd
 rcases hd with rfl | rfl | rfl
 ·exact h1.same (by decide)
 ·exact h2.same (by decide)
 ·exact h3.same (by decide)
theorem Aa4 {α β:Type} {R:Rep α} {S:Rep β} {hp:Tr DObj} {p q:Nat→Prop} {a b:DV} {l:List α} {m:List β} (h1:RL R hp p a l) (h2:RL S hp q b m):liveE hp (.agg [a,b])=.agg [a,b]:=Ag1 fun id hid=>by
 have:id∈a.refs∨id∈b.refs:=by simpa [DV.refs,DV.refsL] using hid
 rcases this with h | h
 ·exact (h1.refs id h).2
 ·exact (h2.refs id h).2
section
variable (k n0:Nat) (hp:Tr DObj) (nx:Nat) (K:DV→Tr DObj→Nat→Prop)
end
end Go.DD

/- Contracts: the reference's Delta; equal changes. Conditions: those that each theorem states. -/
namespace Go.DD
open Go Go.Proofs
theorem As2 {hp:Tr DObj} {p:Nat→Prop} {d:DV} {l:List PCell} (h:RL rChange hp p d l) {i:Nat} (hi:i < l.length):∃ a b,RL rInt hp p a l[i].pos∧RL rVal hp p b l[i].vals∧ldD hp (some 2) (adrE 2 d i)=some (.agg [a,b])∧ldD hp none (adrF (adrE 2 d i) 0)=some a∧ldD hp none (adrF (adrE 2 d i) 1)=some b:=by
 obtain ⟨ds,hr,h1,h0,h2⟩:=h.at hi
 obtain ⟨a,b,rfl,h3,h4⟩:=rChange_rd.1 hr
 exact ⟨a,b,h3,h4,h1,h2 0 _ rfl,h2 1 _ rfl⟩
theorem Ad5 {hp:Tr DObj} {p:Nat→Prop} {d:DV} {l:List PCell} (h:RL rChange hp p d l) {i:Nat} (hi:i < l.length):iaD hp 2 d (.v (.int .i64 (i:Int)))=some (adrE 2 d i):=h.ia hi
theorem Az5 {hp:Tr DObj} {p:Nat→Prop} {d:DV} {l:List PCell} {k:Nat} (h:RL rChange hp p d l) {i:Nat} (hi:i < l.length):faD hp k (adrE 2 d i)=some (adrF (adrE 2 d i) k):=h.fa hi
theorem A36 {hp:Tr DObj} {n0:Nat} {d:DV} {l:List PCell} {n m i:Nat} {an:List Nat} (h:RL rChange hp (Bl n0) d l) (hn:n0≤n):Aa6 (adrE 2 d i) (fun id=>okRef n m an hp id):=h.roax hn
theorem A37 {hp:Tr DObj} {n0:Nat} {d:DV} {l:List PCell} {n m i k:Nat} {an:List Nat} (h:RL rChange hp (Bl n0) d l) (hn:n0≤n):Aa6 (adrF (adrE 2 d i) k) (fun id=>okRef n m an hp id):=h.rofx hn
theorem Bl0 {d:List PDim} {a:List PAttr} {l:List PCell} : ∀ {b:PCell},chkF d a (some b) l=0→(∀ c∈l,cmpL b.pos c.pos = -1∧cellE d a c=0)∧l.Pairwise (fun x y=>cmpL x.pos y.pos = -1):=by
 induction l with
 | nil=>intro b _; exact ⟨fun c hc=>(by cases hc),.nil⟩
 | cons c l ih=>
  intro b h
  unfold chkF at h
  by_cases c1:cellE d a c=0
  ·rw [if_neg (by simp [c1])] at h
   by_cases c2:cmpL b.pos c.pos=0
   ·rw [if_pos c2] at h; cases h
   ·rw [if_neg c2] at h
    by_cases c3:cmpL b.pos c.pos=1
    ·rw [if_pos c3] at h; cases h
    ·rw [if_neg c3] at h
     have c4:cmpL b.pos c.pos = -1:=by have:=Ac4 b.pos c.pos; omega
     obtain ⟨h1,h2⟩:=ih h
     refine ⟨fun e he=>?_,.cons (fun e he=>(h1 e he).1) h2⟩
     rcases List.mem_cons.1 he with rfl | he
     ·exact ⟨c4,c1⟩
     ·exact ⟨Ac6 c4 (h1 e he).1,(h1 e he).2⟩
  ·rw [if_pos c1] at h; exact absurd h c1
theorem Aa8 {x:PArr} (h:Aa5 x=0):x.cells.Pairwise (fun x y=>cmpL x.pos y.pos = -1)∧(∀ c∈x.cells,cellE x.dims x.attrs c=0)∧Af5 x.dims x.attrs=0:=by
 unfold Aa5 at h
 by_cases c1:Af5 x.dims x.attrs=0
 ·rw [if_neg (by simp [c1])] at h
  split at h
  ·cases h
  ·generalize x.cells=l at h ⊢
   cases l with
   | nil=>exact ⟨.nil,fun c hc=>(by cases hc),c1⟩
   | cons c l=>
    unfold chkF at h
    by_cases c2:cellE x.dims x.attrs c=0
    ·rw [if_neg (by simp [c2])] at h
     obtain ⟨h1,h2⟩:=Bl0 h
     refine ⟨.cons (fun e he=>(h1 e he).1) h2,fun e he=>?_,c1⟩
     rcases List.mem_cons.1 he with rfl | he
     ·exact c2
     ·exact (h1 e he).2
    ·rw [if_pos c2] at h; exact absurd h c2
 ·rw [if_pos c1] at h; exact absurd h c1
theorem Az6 {x:PArr} (h:Aa5 x=0):SortC x.cells:=fun i j hij hj=>List.pairwise_iff_getElem.1 (Aa8 h).1 i j (by omega) hj hij
theorem Ax0 {x:PArr} (h:Aa5 x=0):∀ c∈x.cells,c.pos≠[]:=fun c hc he=>by
 have h1:=(Aa8 h).2.1 c hc
 have h2:=(Aa8 h).2.2
 have h3:c.pos.length=x.dims.length:=by
  unfold cellE at h1
  split at h1
  ·cases h1
  ·rename_i h3; omega
 have h4:x.dims.length=0:=by rw [← h3,he]; rfl
 have h5:dimsE x.dims=13:=by unfold dimsE; rw [if_pos (Or.inl (show x.dims.length < 1 by omega))]
 unfold Af5 at h2
 rw [h5] at h2
 cases h2
def Am7 (x y:PArr):Bool:=decide (x.dims=y.dims) && decide (x.attrs=y.attrs)
def Ac5 (x y:PArr):Int:=if Aa5 x≠0∨Aa5 y≠0 then 2 else if Am7 x y=false then 13 else 0
section
variable (k n0:Nat) (hp:Tr DObj) (nx:Nat) (K:DV→Tr DObj→Nat→Prop)
end
end Go.DD
