/- A part. -/
import Derived.Test.YtnphfnhhpcelbaaGreatXe
import Derived.Test.YtnphfnhhpcelbaaGreatXg
import Derived.Test.YtnphfnhhpcelbaaGreatXh
import Derived.Laws.RangeAny
import Derived.Laws.RangeString
set_option linter.unusedSectionVars false
set_option linter.unusedVariables false
namespace Go.DD
open Go Go.Proofs
theorem te_ok:TbOK Tryz.prog 1000000 te:=Bn6 _ _
theorem Bp5 {f:Nat} (cl0n:∀ cap,Known Tryz.prog f [.v (.slice none 0 cap)] (.v (.slice none 0 0))) (cl0s:∀ a cap,Known Tryz.prog f [.v (.slice (some a) 0 cap)] (.sl [] 0)):Known Tryz.prog f [.sl [] 0] (.sl [] 0):=by
 refine ⟨(cl0n 0).1,fun x hx=>by rw [List.mem_singleton] at hx; subst hx; rfl,fun w S vs h1 h2 h3 hg=>?_⟩
 obtain ⟨v,rfl⟩:∃ v,vs=[v]:=by
  match vs,h2 with
  | [v],_=>exact ⟨v,rfl⟩
 have hr:=h3 0 v _ rfl rfl
 have fin:∀ a cap,v=.slice a 0 cap→Calls Tryz.prog f [v].toArray w fun e w'=>∃ v r,e=.returned v∧r=.sl [] 0∧Go.RowKit.Below w.heap.size w w'∧RelI w' (fun b=>(S b∨w.heap.size≤b)∧b < w'.heap.size) v r:=by
  intro a cap hv
  subst hv
  cases a with
  | none=>
   refine ((cl0n cap).2.2 w S [.slice none 0 cap] h1 rfl (fun j u d hu hd=>?_) hg).mono fun e w' ⟨v,r,h4,h5,h6,h7⟩=>?_
   ·match j with
    | 0=>cases hu; cases hd; exact .v _
    | j+1=>cases hu
   ·subst h5
    cases h7
    exact ⟨_,_,h4,rfl,h6,.sl0 _ _⟩
  | some a=>
   refine (cl0s a cap).2.2 w S [.slice (some a) 0 cap] h1 rfl (fun j u d hu hd=>?_) hg
   match j with
   | 0=>cases hu; cases hd; exact .v _
   | j+1=>cases hu
 cases hr with
 | sl0 a cap=>exact fin a cap rfl
 | sl ad n cap us cs hl hn ha ho hc h=>exact fin (some ad) cap rfl
def Be4:List Nat:=[70,142,139,162,163]
theorem Co4:∀ f∈Be4,Known Tryz.prog f [.sl [] 0] (.sl [] 0):=by
 intro f hf
 simp only [Be4,List.mem_cons,List.mem_nil_iff,or_false] at hf
 rcases hf with rfl | rfl | rfl | rfl | rfl <;> exact Bp5 (fun cap=>A56 (n:=1000) (k:=3) mixed te_ok (MemoOK.nil _) rfl (by kernel_rfl)) fun a cap=>A56 (n:=1000) (k:=3) mixed te_ok (MemoOK.nil _) rfl (by kernel_rfl)
noncomputable def relW (f:Nat) (ds:List DV):Option DV:=if f=15 then (match ds with
 | []=>some (.v (.bool true))
 | _=>none) else if f∈Be4 then (match ds with
 | [.sl [] 0]=>some (.sl [] 0)
 | _=>none) else none
theorem Cf4:∀ f ds d,relW f ds=some d→Known Tryz.prog f ds d:=by
 intro f ds d h
 unfold relW at h
 split at h
 ·rename_i hf
  subst hf
  cases ds with
  | nil=>cases h; exact Co3
  | cons _ _=>cases h
 ·split at h
  ·rename_i hf
   split at h
   ·cases h; exact Co4 f hf
   ·cases h
  ·cases h
theorem Aa2 {f:Nat} {ds:List DV} (h:f≠15∧f∉Be4):relW f ds=none:=by unfold relW; rw [if_neg h.1,if_neg h.2]
noncomputable def kN (k:Nat):CallT:=callN te 1000000 relW k
theorem A27 (k:Nat) (hp:Tr DObj) (nx:Nat) (K:DV→Tr DObj→Nat→Prop) (h:K (.v (.bool true)) hp nx):KW (kN (k+1)) (.fn 15) [] hp nx K:=A57 (d:=.v (.bool true)) rfl h
section
variable {α:Type} {R:Rep α} {hp hp':Tr DObj} {n0 nx nx':Nat} {d:DV} {l:List α}
theorem RL.ka (h:RL R hp (Bl n0) d l) (hn:n0≤nx) (a:Al hp nx hp' nx'):RL R hp' (Bl n0) d l:=h.keep fun j hj=>a.same j (Nat.lt_of_lt_of_le hj hn)
theorem RL.bl {n:Nat} (h:RL R hp (Bl n0) d l) (hn:n0≤n):RL R hp (Bl n) d l:=h.mono fun _ hj=>Nat.lt_of_lt_of_le hj hn
theorem RL.rox {n m:Nat} {an:List Nat} (h:RL R hp (Bl n0) d l) (hn:n0≤n):Aa6 d (fun id=>okRef n m an hp id):=h.ro fun _ hj=>Nat.lt_of_lt_of_le hj hn
theorem RL.roax {n m i:Nat} {an:List Nat} (h:RL R hp (Bl n0) d l) (hn:n0≤n):Aa6 (adrE R.e d i) (fun id=>okRef n m an hp id):=h.roa fun _ hj=>Nat.lt_of_lt_of_le hj hn
theorem RL.rofx {n m i k:Nat} {an:List Nat} (h:RL R hp (Bl n0) d l) (hn:n0≤n):Aa6 (adrF (adrE R.e d i) k) (fun id=>okRef n m an hp id):=h.rof fun _ hj=>Nat.lt_of_lt_of_le hj hn
end
theorem Al.nx {hp hp':Tr DObj} {n n' m:Nat} (a:Al hp n hp' n') (h:n'≤m):Al hp n hp' m:=⟨Nat.le_trans a.le h,a.same⟩
theorem Al.new {hp hp' hp2:Tr DObj} {n n' n2:Nat} (a:Al hp n hp' n') (h:n'≤n2) (hk:∀ j,j < n→hp2.get j=hp'.get j):Al hp n hp2 n2:=⟨Nat.le_trans a.le h,fun j hj=>(hk j hj).trans (a.same j hj)⟩
theorem Al.ini (hp:Tr DObj) {n m:Nat} (h:n≤m):Al hp n hp m:=⟨h,fun _ _=>rfl⟩
section
variable {hp:Tr DObj} {n0:Nat} {p:Nat→Prop} {d:DV} {l:List Int} {i:Nat}
theorem Ad5 (h:RL rInt hp p d l) (hi:i < l.length):iaD hp 1 d (.v (.int .i64 (i:Int)))=some (adrE 1 d i):=h.ia hi
theorem Ac2 {n m:Nat} {an:List Nat} (h:RL rInt hp (Bl n0) d l) (hn:n0≤n):Aa6 (adrE 1 d i) (fun id=>okRef n m an hp id)↔True:=iff_true_intro (h.roax hn)
end
section
variable {hp:Tr DObj} {n0:Nat} {p:Nat→Prop} {d:DV} {l:List PVal} {i:Nat}
theorem An0 (h:RL rVal hp p d l) (hi:i < l.length):iaD hp 4 d (.v (.int .i64 (i:Int)))=some (adrE 4 d i):=h.ia hi
theorem Cf5 {k:Nat} (h:RL rVal hp p d l) (hi:i < l.length):faD hp k (adrE 4 d i)=some (adrF (adrE 4 d i) k):=h.fa hi
theorem Aq0 {n m:Nat} {an:List Nat} (h:RL rVal hp (Bl n0) d l) (hn:n0≤n):Aa6 (adrE 4 d i) (fun id=>okRef n m an hp id)↔True:=iff_true_intro (h.roax hn)
end
section
variable {hp:Tr DObj} {n0:Nat} {p:Nat→Prop} {d:DV} {l:List PDim} {i:Nat}
theorem Ad8 (h:RL rDim hp p d l) (hi:i < l.length):iaD hp 3 d (.v (.int .i64 (i:Int)))=some (adrE 3 d i):=h.ia hi
theorem Ah6 {k:Nat} (h:RL rDim hp p d l) (hi:i < l.length):faD hp k (adrE 3 d i)=some (adrF (adrE 3 d i) k):=h.fa hi
theorem Aj5 {n m:Nat} {an:List Nat} (h:RL rDim hp (Bl n0) d l) (hn:n0≤n):Aa6 (adrE 3 d i) (fun id=>okRef n m an hp id)↔True:=iff_true_intro (h.roax hn)
theorem At6 {n m k:Nat} {an:List Nat} (h:RL rDim hp (Bl n0) d l) (hn:n0≤n):Aa6 (adrF (adrE 3 d i) k) (fun id=>okRef n m an hp id)↔True:=iff_true_intro (h.rofx hn)
end
section
variable {hp:Tr DObj} {n0:Nat} {p:Nat→Prop} {d:DV} {l:List PAttr} {i:Nat}
theorem Ae6 (h:RL rAttr hp p d l) (hi:i < l.length):iaD hp 2 d (.v (.int .i64 (i:Int)))=some (adrE 2 d i):=h.ia hi
theorem Ai4 {k:Nat} (h:RL rAttr hp p d l) (hi:i < l.length):faD hp k (adrE 2 d i)=some (adrF (adrE 2 d i) k):=h.fa hi
theorem Aj2 {n m:Nat} {an:List Nat} (h:RL rAttr hp (Bl n0) d l) (hn:n0≤n):Aa6 (adrE 2 d i) (fun id=>okRef n m an hp id)↔True:=iff_true_intro (h.roax hn)
theorem Aw7 {n m k:Nat} {an:List Nat} (h:RL rAttr hp (Bl n0) d l) (hn:n0≤n):Aa6 (adrF (adrE 2 d i) k) (fun id=>okRef n m an hp id)↔True:=iff_true_intro (h.rofx hn)
end
section
variable {hp:Tr DObj} {n0:Nat} {p:Nat→Prop} {d:DV} {l:List PCell} {i:Nat}
theorem Aa8 (h:RL rCell hp p d l) (hi:i < l.length):iaD hp 2 d (.v (.int .i64 (i:Int)))=some (adrE 2 d i):=h.ia hi
theorem Ad2 {k:Nat} (h:RL rCell hp p d l) (hi:i < l.length):faD hp k (adrE 2 d i)=some (adrF (adrE 2 d i) k):=h.fa hi
theorem Ac8 {n m:Nat} {an:List Nat} (h:RL rCell hp (Bl n0) d l) (hn:n0≤n):Aa6 (adrE 2 d i) (fun id=>okRef n m an hp id)↔True:=iff_true_intro (h.roax hn)
theorem Ah0 {n m k:Nat} {an:List Nat} (h:RL rCell hp (Bl n0) d l) (hn:n0≤n):Aa6 (adrF (adrE 2 d i) k) (fun id=>okRef n m an hp id)↔True:=iff_true_intro (h.rofx hn)
end
section
variable {hp:Tr DObj} {n0:Nat} {p:Nat→Prop} {d:DV} {l:List (List Int)} {i:Nat}
end
section
variable {hp:Tr DObj} {n0:Nat} {p:Nat→Prop} {d:DV} {l:List (List PVal)} {i:Nat}
end
theorem Aq1 {α:Type} {l m:List α} {i:Nat} (h1:i < l.length) (h2:i < m.length):(l.drop i=m.drop i)↔(l[i]=m[i]∧l.drop (i+1)=m.drop (i+1)):=by
 rw [List.drop_eq_getElem_cons h1,List.drop_eq_getElem_cons h2,List.cons.injEq]
theorem Az2 (neg:Bool) (ks:List Nat) (x y:Operand) (nid:Nat) (es:ES):xKeep (xAny (.eqs neg ks x y)) nid es=eqsD neg ks (es.ds.ev x) (es.ds.ev y):=xk_k (X:=fun es=>eqsD neg ks (es.ds.ev x) (es.ds.ev y)) (k_eqs neg ks x y) nid
theorem An4 {hp:Tr DObj} {cs:List DV} (h:DV.refsL cs=[]):liveE hp (.agg cs)=.agg cs:=Ab6 (by rw [DV.refs]; exact h)
theorem An8 {cs:List DV} {f:Nat→Bool} (h:DV.refsL cs=[]):Aa6 (.agg cs) f↔True:=A58 (by rw [DV.refs]; exact h)
theorem bytes_eq (a b:ByteArray):(a.toList == b.toList)=decide (a=b):=by
 by_cases h:a=b
 ·subst h; simp
 ·have:a.toList≠b.toList:=fun e=>h (by
   rw [ByteArray.toList_eq,ByteArray.toList_eq] at e
   have e2:=Array.toList_inj.1 e
   obtain ⟨a⟩:=a; obtain ⟨b⟩:=b
   simp only at e2; rw [e2])
  simp [h,this]
theorem eq_vc (x y:PVal):eqL [0,0,0,2] (vc x) (vc y)=some (decide (x=y)):=by
 obtain ⟨k,n,d,s⟩:=x
 obtain ⟨k',n',d',s'⟩:=y
 simp only [vc,eqL,eqC,iv,sv,if_true,bytes_eq,PVal.mk.injEq]
 by_cases h1:k=k'
 ·by_cases h2:n=n'
  ·by_cases h3:d=d'
   ·by_cases h4:s=s' <;> simp [h1,h2,h3,h4]
   ·simp [h1,h2,h3,beq_eq_false_iff_ne.2 h3]
  ·simp [h1,h2,beq_eq_false_iff_ne.2 h2]
 ·simp [h1,beq_eq_false_iff_ne.2 h1]
theorem eq_dc (x y:PDim):eqL [2,0,0] (dc x) (dc y)=some (decide (x=y)):=by
 obtain ⟨n,a,b⟩:=x
 obtain ⟨n',a',b'⟩:=y
 simp only [dc,eqL,eqC,iv,sv,if_true,bytes_eq,PDim.mk.injEq]
 by_cases h1:n=n'
 ·by_cases h2:a=a'
  ·by_cases h3:b=b'
   ·simp [h1,h2,h3]
   ·simp [h1,h2,h3,beq_eq_false_iff_ne.2 h3]
  ·simp [h1,h2,beq_eq_false_iff_ne.2 h2]
 ·simp [h1]
theorem eq_ac (x y:PAttr):eqL [2,0] (ac x) (ac y)=some (decide (x=y)):=by
 obtain ⟨n,a⟩:=x
 obtain ⟨n',a'⟩:=y
 simp only [ac,eqL,eqC,iv,sv,if_true,bytes_eq,PAttr.mk.injEq]
 by_cases h1:n=n'
 ·by_cases h2:a=a'
  ·simp [h1,h2]
  ·simp [h1,h2,beq_eq_false_iff_ne.2 h2]
 ·simp [h1]
theorem sw_gC {p:Pa} {b:Bool} {f:Nat} {args:List EO} {dst:Option Pa} {call:CallT} {es:ES} {Q:ES→Prop} : SW (sG p b dst (sCall f args dst)) call es Q↔GW (rawE es (.t p)) b (SW (sCall f args dst) call es Q) (Q (es.putE dst (.v undef))):=sw_g'
theorem k_lkp (kd:KD) (z:Value) (x k:Operand) (es:ES) (nid:Nat):xAny (.lkp kd z x k false) es nid=keepU (lkpD es.hp kd z (es.ds.ev x) (es.ds.ev k)):=by
 rw [x_any]
 simp only [execU,lkpD]
 cases kvOf (es.ds.ev k) with
 | none=>rfl
 | some kv=>
  simp only []
  by_cases hk:Al3 kd kv=true
  ·rw [if_pos hk,if_pos hk]
   cases es.ds.ev x with
   | v a=>
    cases a with
    | map a=>cases a <;> rfl
    | _=>rfl
   | mp id=>
    show (match es.hp.get id with
     | some (.mapo _ es)=>match findD kd kv es 0 with
      | some (some p)=>some (lkRes false p.2.v true,Upd.keep)
      | some none=>some (lkRes false (.v z) false,.keep)
      | none=>none
     | _=>none)=keepU (match es.hp.get id with
     | some (.mapo _ es)=>match findD kd kv es 0 with
      | some (some p)=>some (lkRes false p.2.v true)
      | some none=>some (lkRes false (.v z) false)
      | none=>none
     | _=>none)
    cases es.hp.get id with
    | none=>rfl
    | some o=>
     cases o with
     | mapo c l=>
      simp only []
      cases findD kd kv l 0 with
      | none=>rfl
      | some r=>cases r <;> rfl
     | _=>rfl
   | _=>rfl
  ·rw [if_neg hk,if_neg hk]; rfl
theorem B86 {dst:Option Pa} {kd:KD} {z:Value} {x k:Operand} {call:CallT} {es:ES} {Q:ES→Prop} : SW (sU dst (xAny (.lkp kd z x k false))) call es Q↔XW (lkpD es.hp kd z (es.ds.ev x) (es.ds.ev k)) fun d=>Q (es.putE dst d):=sw_k (k_lkp kd z x k)
theorem Cf6 {p:Pa} {g:Bool} {dst:Option Pa} {kd:KD} {z:Value} {x k:Operand} {call:CallT} {es:ES} {Q:ES→Prop} : SW (sG p g dst (sU dst (xAny (.lkp kd z x k false)))) call es Q↔XW (gdO (rawE es (.t p)) g (lkpD es.hp kd z (es.ds.ev x) (es.ds.ev k))) fun d=>Q (es.putE dst d):=sw_gk (k_lkp kd z x k)
theorem kb {K:DV→Tr DObj→Nat→Prop} {a b:Bool} {hp:Tr DObj} {nx:Nat} (h:K (bv b) hp nx) (e:a=b):K (.v (.bool a)) hp nx:=by rw [e]; exact h
theorem uv_at {l:List UInt8} {i:Nat} (h:i < l.length):partD none ((l.map fun c=>DV.v (.int .u8 (c.toNat:Int))).drop (i*1))=some (.v (.int .u8 (l[i].toNat:Int))):=by
 rw [Nat.mul_one,List.drop_eq_getElem_cons (by simpa using h)]
 simp [partD]
theorem Be5 {s:ByteArray} {i:Nat} {k:IntKind} (h:i < s.data.toList.length):ixsD (.v (.string s)) (.v (.int k (i:Int)))=some (.v (.int .u8 (s.data.toList[i].toNat:Int))):=by
 show (if 0≤(i:Int) then (s[(i:Int).toNat]?).map fun c=>DV.v (.int .u8 (c.toNat:Int)) else none)=_
 rw [if_pos (by omega)]
 have hs:i < s.size:=h
 have:s[(i:Int).toNat]?=some s.data.toList[i]:=by
  rw [Int.toNat_natCast,getElem?_pos s i hs]; rfl
 rw [this]; rfl
theorem Cf7 {s:ByteArray} {k:IntKind} (h:0 < s.data.toList.length):ixsD (.v (.string s)) (.v (.int k 0))=some (.v (.int .u8 (s.data.toList[0].toNat:Int))):=Be5 (i:=0) h
theorem k_ixs (x y:Operand) (es:ES) (nid:Nat):xAny (.ixs x y) es nid=keepU (ixsD (es.ds.ev x) (es.ds.ev y)):=by
 rw [x_any]; simp only [execU]
 cases es.ds.ev x with
 | v a=>
  cases a with
  | string b=>
   cases es.ds.ev y with
   | v c=>
    cases c with
    | int kk j=>
     show (if 0≤j then (b[j.toNat]?).map fun c=>(DV.v (.int .u8 (c.toNat:Int)),Upd.keep) else none)=keepU (if 0≤j then (b[j.toNat]?).map fun c=>DV.v (.int .u8 (c.toNat:Int)) else none)
     by_cases h:0≤j
     ·rw [if_pos h,if_pos h]; cases b[j.toNat]? <;> rfl
     ·rw [if_neg h,if_neg h]; rfl
    | _=>rfl
   | _=>rfl
  | _=>cases es.ds.ev y with
   | v c=>cases c <;> rfl
   | _=>rfl
 | _=>cases es.ds.ev y with
  | v c=>cases c <;> rfl
  | _=>rfl
theorem B87 {dst:Option Pa} {x:Operand} {v:Value} {call:CallT} {es:ES} {Q:ES→Prop} : SW (sU dst (xAny (.ixs x (.const v)))) call es Q↔XW (ixsD (es.ds.ev x) (ofV v)) fun d=>Q (es.putE dst d):=sw_k (k_ixs x (.const v))
theorem z_mup {call:CallT} {es:ES} {Q:ES→Prop} {dst:Option Pa} {kd:KD} {x k y:Operand} : SW (sU dst (xAny (.mup kd x k y))) call es Q↔@SWs (sU dst (xAny (.mup kd x k y))) call es ⟨Q⟩:=Iff.rfl
def CWs (t:Bool) [a:Hold Prop] [b:Hold Prop]:Prop:=(t=true→a.val)∧(t=false→b.val)
theorem Cf8 {t:Bool} {A B:Prop} : CW (.v (.bool t)) A B↔@CWs t ⟨A⟩ ⟨B⟩:=cw_b
theorem cws_t {A B:Prop} : @CWs true ⟨A⟩ ⟨B⟩↔A:=by unfold CWs; simp
theorem cws_f {A B:Prop} : @CWs false ⟨A⟩ ⟨B⟩↔B:=by unfold CWs; simp
theorem cws {t:Bool} {a b:Hold Prop} (h1:t=true→a.val) (h2:t=false→b.val) : @CWs t a b:=⟨h1,h2⟩
theorem Co5 {c:Bool} {hp:Tr DObj} {kd:KD} {z:Value} {a b y:DV} : lkpD hp kd z (if c=true then a else b) y=if c=true then lkpD hp kd z a y else lkpD hp kd z b y:=by cases c <;> rfl
theorem Co6 {c:Bool} {hp:Tr DObj} {kd:KD} {z:Value} {a b y:DV} : lkpD hp kd z y (if c=true then a else b)=if c=true then lkpD hp kd z y a else lkpD hp kd z y b:=by cases c <;> rfl
theorem B88 (a b:ByteArray):binD .eql (.v (.string a)) (.v (.string b))=some (.v (.bool (decide (a=b)))):=by
 rw [bin_s]
 show (some (Value.bool (a.toList == b.toList))).map DV.v=_
 rw [bytes_eq]; rfl
theorem B89 (a b:ByteArray):binD .neq (.v (.string a)) (.v (.string b))=some (.v (.bool (!decide (a=b)))):=by
 rw [bin_s]
 show (some (Value.bool !(a.toList == b.toList))).map DV.v=_
 rw [bytes_eq]; rfl
theorem bb_et (a:Bool):bbD false (.v (.bool a)) (.v (.bool true))=some (.v (.bool a)):=by cases a <;> rfl
theorem bb_ef (a:Bool):bbD false (.v (.bool a)) (.v (.bool false))=some (.v (.bool (!a))):=by cases a <;> rfl
theorem p100:pth 100=.r (.l (.r (.l (.l (.r .o))))):=nr rfl
theorem p101:pth 101=.l (.r (.r (.l (.l (.r .o))))):=nr rfl
theorem p102:pth 102=.r (.r (.r (.l (.l (.r .o))))):=nr rfl
theorem p103:pth 103=.l (.l (.l (.r (.l (.r .o))))):=nr rfl
theorem p104:pth 104=.r (.l (.l (.r (.l (.r .o))))):=nr rfl
theorem p105:pth 105=.l (.r (.l (.r (.l (.r .o))))):=nr rfl
theorem p106:pth 106=.r (.r (.l (.r (.l (.r .o))))):=nr rfl
theorem p107:pth 107=.l (.l (.r (.r (.l (.r .o))))):=nr rfl
theorem p108:pth 108=.r (.l (.r (.r (.l (.r .o))))):=nr rfl
theorem p109:pth 109=.l (.r (.r (.r (.l (.r .o))))):=nr rfl
theorem p110:pth 110=.r (.r (.r (.r (.l (.r .o))))):=nr rfl
theorem p111:pth 111=.l (.l (.l (.l (.r (.r .o))))):=nr rfl
theorem p112:pth 112=.r (.l (.l (.l (.r (.r .o))))):=nr rfl
theorem p113:pth 113=.l (.r (.l (.l (.r (.r .o))))):=nr rfl
theorem p114:pth 114=.r (.r (.l (.l (.r (.r .o))))):=nr rfl
theorem p115:pth 115=.l (.l (.r (.l (.r (.r .o))))):=nr rfl
theorem p116:pth 116=.r (.l (.r (.l (.r (.r .o))))):=nr rfl
theorem p117:pth 117=.l (.r (.r (.l (.r (.r .o))))):=nr rfl
theorem p118:pth 118=.r (.r (.r (.l (.r (.r .o))))):=nr rfl
theorem p119:pth 119=.l (.l (.l (.r (.r (.r .o))))):=nr rfl
theorem p120:pth 120=.r (.l (.l (.r (.r (.r .o))))):=nr rfl
theorem p121:pth 121=.l (.r (.l (.r (.r (.r .o))))):=nr rfl
theorem p122:pth 122=.r (.r (.l (.r (.r (.r .o))))):=nr rfl
theorem p123:pth 123=.l (.l (.r (.r (.r (.r .o))))):=nr rfl
theorem p124:pth 124=.r (.l (.r (.r (.r (.r .o))))):=nr rfl
theorem p125:pth 125=.l (.r (.r (.r (.r (.r .o))))):=nr rfl
theorem p126:pth 126=.r (.r (.r (.r (.r (.r .o))))):=nr rfl
theorem p127:pth 127=.l (.l (.l (.l (.l (.l (.l .o)))))):=nr rfl
theorem p128:pth 128=.r (.l (.l (.l (.l (.l (.l .o)))))):=nr rfl
theorem p129:pth 129=.l (.r (.l (.l (.l (.l (.l .o)))))):=nr rfl
theorem p130:pth 130=.r (.r (.l (.l (.l (.l (.l .o)))))):=nr rfl
end Go.DD

/- Lists of lemmas as one name each. Conditions: those that each lemma states. -/
namespace Go.DD
open Go
set_option linter.defProp false
def J {a b:Prop} (x:a) (y:b):a∧b:=⟨x,y⟩
theorem m_an {α:Type} (l:List α):l ++ []=l:=List.append_nil l
theorem m_dz {α:Type} (l:List α):l.drop 0=l:=List.drop_zero
theorem m_mc {α β:Type} (f:α→β) (a:α) (l:List α):(a :: l).map f=f a :: l.map f:=List.map_cons
theorem m_mn {α β:Type} (f:α→β):([]:List α).map f=[]:=List.map_nil
theorem m_na {α:Type} (l:List α):[] ++ l=l:=List.nil_append l
theorem m_es {α:Type} (a:α):(a=a)=True:=eq_self a
theorem m_ge {α:Type} [LE α] {x y:α} : x≥y↔y≤x:=ge_iff_le
theorem m_gt {α:Type} [LT α] {x y:α} : x > y↔y < x:=gt_iff_lt
theorem m_if {α:Type} [Decidable False] (a b:α):(if False then a else b)=b:=if_neg id
theorem m_ip [Decidable False] (a b:Prop):(if False then a else b)=b:=if_neg id
theorem m_it {α:Type} [Decidable True] (a b:α):(if True then a else b)=a:=if_pos trivial
theorem m_iq [Decidable True] (a b:Prop):(if True then a else b)=a:=if_pos trivial
theorem m_lr (a b:Pa):(a.l=b.r)=False:=eq_false nofun
theorem m_rl (a b:Pa):(a.r=b.l)=False:=eq_false nofun
theorem m_ol (b:Pa):(Pa.o=b.l)=False:=eq_false nofun
theorem m_or (b:Pa):(Pa.o=b.r)=False:=eq_false nofun
theorem m_lo (b:Pa):(b.l=.o)=False:=eq_false nofun
theorem m_ro (b:Pa):(b.r=.o)=False:=eq_false nofun
theorem m_sn {α:Type} (a:α):(some a=none)=False:=eq_false nofun
theorem m_ns {α:Type} (a:α):(none=some a)=False:=eq_false nofun
theorem m_ne {α:Type} (a b:α):(a≠b)=¬ (a=b):=ne_eq a b
def bSa:=(J (J (J (J (J (J (J @put_n @m_es) (J @gw_tt @gw_ff)) (J (J @gw_tf @gw_ft) (J @gw_u @A22))) (J (J (J @Am7 @Bo4) (J @cw_t @cw_f)) (J (J @B53 @x_len) (J @x_ia @x_ld)))) (J (J (J (J @x_fa @ld_i) (J @fa_i @m_mc)) (J (J @m_mn @Bn7) (J @A21 @n_c))) (J (J (J @n_mk @Bn8) (J @nx_put @Bn9)) (J (J @n_up @x_bin) (J @B46 @x_un))))) (J (J (J (J (J @n_not @Aj0) (J @Bo2 @Bo3)) (J (J @B47 @m_ne) (J @not_false_eq_true @not_true_eq_false))) (J (J (J @Bool.false_eq_true @Bool.true_eq_false) (J @true_imp_iff @false_imp_iff)) (J (J @and_true @true_and) (J @or_true @true_or)))) (J (J (J (J @and_self @m_it) (J @m_iq @m_if)) (J (J @m_ip @Bool.not_true) (J @Bool.not_false @m_ge))) (J (J (J @m_gt @decide_true) (J @decide_false @Pa.l.injEq)) (J (J @Pa.r.injEq @B63) (J @ro_fn @B60)))))) (J (J (J (J (J (J @xk_mm @Aw5) (J @ro_v @ro_sl)) (J (J @ro_ia @ro_ms) (J @ro_pt @ro_mp))) (J (J (J @Be1 @B42) (J @A83 @Bo9)) (J (J @Bp0 @look_nil) (J @B44 @B43)))) (J (J (J (J @B45 @m_na) (J @m_an @x_xe)) (J (J @ext21 @ext31) (J @ext32 @n_ev))) (J (J (J @n_evc @n_ofi) (J @n_ofb @n_ofl)) (J (J @n_ofp @B88) (J @B89 @Int.natCast_zero))))) (J (J (J (J (J @b_lss @b_gtr) (J @b_leq @b_geq)) (J (J @B64 @B65) (J @Int.ofNat_lt @Int.ofNat_le))) (J (J (J @Int.ofNat_inj @Nat.le_refl) (J @m_dz @Al.refl)) (J (J @Bool.false_xor @Bool.true_xor) (J @Bool.xor_false @Bool.xor_true)))) (J (J (J (J @bb_et @bb_ef) (J @len_s @n_ofs)) (J (J @B55 @B56) (J @B57 @n_lns))) (J (J (J @n_s2b @m_lr) (J @m_rl @m_ol)) (J (J @m_or @m_lo) (J @m_ro (J @m_sn @m_ns))))))))
def bSb:=(J (J (J (J (J @ew_s (J @ew_n @ew_e)) (J (J @ew_c' @ew_b) (J @sw_q @sw_lc))) (J (J (J @sw_ln @ew_t) (J @sw_m1 @sw_z)) (J (J @sw_x @sw_g') (J @B50 @B51)))) (J (J (J @B52 (J @blk_n @blk_r)) (J (J @blk_x @blk_y) (J @z_al @z_bx))) (J (J (J @z_mkm @z_app) (J @z_bsl @z_st)) (J (J @z_sli @z_b2s) (J @z_cv @B61))))) (J (J (J (J @z_l (J @z_r @z_bld)) (J (J @z_nil @B40) (J @tw_lc @tw_ln))) (J (J (J @tw_q @tw_z) (J @tw_dx @tw_dy)) (J (J @tw_dp @B41) (J @Bo1 @tw_g)))) (J (J (J (J @B62 @z_lay) (J @Bp1 @Be0)) (J (J @Ar0 @Bd6) (J @B59 @Bo8))) (J (J (J @sw_mm @sw_bb) (J @z_mup @Bo6)) (J (J @Bo7 @B87) (J @B54 @B86))))))
def bGa:=(J (J (J (J (J (J (J @Co5 @Co6) (J @Cf8 (J @cws_t @cws_f))) (J (J @i_len @i_ia1) (J @i_ia2 (J @i_ld @i_fa)))) (J (J (J @put_n @m_es) (J @gw_tt (J @gw_ff @gw_tf))) (J (J @gw_ft @gw_u) (J @gd_t (J @gd_f @gd_u))))) (J (J (J (J @gd_i @Cm7) (J @i_tt (J @i_ee @Cm8))) (J (J @Cm9 @i_un) (J @Cf0 (J @Cn0 @i_lns)))) (J (J (J @Cn1 @Cn2) (J @i_vb (J @i_or @i_and))) (J (J @Cn3 (J @Bool.true_or @Bool.false_or)) (J @Bool.or_false (J @Bool.or_true @Bool.true_and)))))) (J (J (J (J (J @Bool.false_and @Bool.and_true) (J @Bool.and_false (J @A22 @Am7))) (J (J @Bo4 @B53) (J @x_len (J @x_ia @x_ld)))) (J (J (J @x_fa @ld_i) (J @fa_i (J @m_mc @m_mn))) (J (J @Bn7 @A21) (J @n_c (J @n_mk @Bn8))))) (J (J (J (J @nx_put @Bn9) (J @n_up (J @x_bin @B46))) (J (J @x_un @n_not) (J @Aj0 (J @Bo2 @Bo3)))) (J (J (J @B47 @m_ne) (J @not_false_eq_true (J @not_true_eq_false @Bool.false_eq_true))) (J (J @Bool.true_eq_false (J @true_imp_iff @false_imp_iff)) (J @and_true (J @true_and @or_true))))))) (J (J (J (J (J (J @true_or @and_self) (J @m_it (J @m_iq @m_if))) (J (J @m_ip @Bool.not_true) (J @Bool.not_false (J @m_ge @m_gt)))) (J (J (J @decide_true @decide_false) (J @Pa.l.injEq (J @Pa.r.injEq @B63))) (J (J @ro_fn @B60) (J @xk_mm (J @Aw5 @ro_v))))) (J (J (J (J @ro_sl @ro_ia) (J @ro_ms (J @ro_pt @ro_mp))) (J (J @Be1 @B42) (J @A83 (J @Bo9 @Bp0)))) (J (J (J @look_nil @B44) (J @B43 (J @B45 @m_na))) (J (J @m_an (J @x_xe @ext21)) (J @ext31 (J @ext32 @n_ev)))))) (J (J (J (J (J @n_evc @n_ofi) (J @n_ofb (J @n_ofl @n_ofp))) (J (J @B88 @B89) (J @Int.natCast_zero (J @b_lss @b_gtr)))) (J (J (J @b_leq @b_geq) (J @B64 (J @B65 @Int.ofNat_lt))) (J (J @Int.ofNat_le @Int.ofNat_inj) (J @Nat.le_refl (J @m_dz @Al.refl))))) (J (J (J (J @Bool.false_xor @Bool.true_xor) (J @Bool.xor_false (J @Bool.xor_true @bb_et))) (J (J @bb_ef @len_s) (J @n_ofs (J @B55 @B56)))) (J (J (J @B57 @n_lns) (J @n_s2b (J @m_lr @m_rl))) (J (J @m_ol (J @m_or @m_lo)) (J @m_ro (J @m_sn @m_ns))))))))
def bGb:=(J (J (J (J (J (J @Cn4 @Cn5) (J @ew_s @ew_n)) (J (J @ew_e @ew_c') (J @ew_b @sw_q))) (J (J (J @sw_lc @sw_ln) (J @ew_t @sw_m1)) (J (J @sw_z @sw_x) (J @sw_gx (J @sw_gm @Ce8))))) (J (J (J (J @Ce9 @Cf6) (J @sw_gC @B50)) (J (J @B51 @B52) (J @blk_n @blk_r))) (J (J (J @blk_x @blk_y) (J @z_al @z_bx)) (J (J @z_mkm @z_app) (J @z_bsl (J @z_st @z_sli)))))) (J (J (J (J (J @z_b2s @z_cv) (J @B61 @z_l)) (J (J @z_r @z_bld) (J @z_nil @B40))) (J (J (J @tw_lc @tw_ln) (J @tw_q @tw_z)) (J (J @tw_dx @tw_dy) (J @tw_dp (J @B41 @Bo1))))) (J (J (J (J @tw_g @B62) (J @z_lay @Bp1)) (J (J @Be0 @Ar0) (J @Bd6 @B59))) (J (J (J @Bo8 @sw_mm) (J @sw_bb @z_mup)) (J (J @Bo6 @Bo7) (J @B87 (J @B54 @B86)))))))
def bR:=(J (J (J (J @put_n @Bn7) (J @A21 (J @n_c @n_mk))) (J (J @Bn8 (J @nx_put @Bn9)) (J @A83 (J @Bo9 @Bp0)))) (J (J (J @m_ne (J @not_false_eq_true @Pa.l.injEq)) (J @Pa.r.injEq (J @m_lr @m_rl))) (J (J @m_ol (J @m_or @m_lo)) (J @m_ro (J @m_sn @m_ns)))))
def bP:=(J (J (J (J (J (J (J @p0 @p1) (J @p2 @p3)) (J (J @p4 @p5) (J @p6 @p7))) (J (J (J @p8 @p9) (J @p10 @p11)) (J (J @p12 @p13) (J @p14 @p15)))) (J (J (J (J @p16 @p17) (J @p18 @p19)) (J (J @p20 @p21) (J @p22 @p23))) (J (J (J @p24 @p25) (J @p26 @p27)) (J (J @p28 @p29) (J @p30 @p31))))) (J (J (J (J (J @p32 @p33) (J @p34 @p35)) (J (J @p36 @p37) (J @p38 @p39))) (J (J (J @p40 @p41) (J @p42 @p43)) (J (J @p44 @p45) (J @p46 @p47)))) (J (J (J (J @p48 @p49) (J @p50 @p51)) (J (J @p52 @p53) (J @p54 @p55))) (J (J (J @p56 @p57) (J @p58 @p59)) (J (J @p60 @p61) (J @p62 (J @p63 @p64))))))) (J (J (J (J (J (J @p65 @p66) (J @p67 @p68)) (J (J @p69 @p70) (J @p71 @p72))) (J (J (J @p73 @p74) (J @p75 @p76)) (J (J @p77 @p78) (J @p79 @p80)))) (J (J (J (J @p81 @p82) (J @p83 @p84)) (J (J @p85 @p86) (J @p87 @p88))) (J (J (J @p89 @p90) (J @p91 @p92)) (J (J @p93 @p94) (J @p95 (J @p96 @p97)))))) (J (J (J (J (J @p98 @p99) (J @p100 @p101)) (J (J @p102 @p103) (J @p104 @p105))) (J (J (J @p106 @p107) (J @p108 @p109)) (J (J @p110 @p111) (J @p112 @p113)))) (J (J (J (J @p114 @p115) (J @p116 @p117)) (J (J @p118 @p119) (J @p120 @p121))) (J (J (J @p122 @p123) (J @p124 @p125)) (J (J @p126 @p127) (J @p128 (J @p129 @p130))))))))
end Go.DD

/- Contracts: integers compared; lists of integers compared. Conditions: those that each theorem states. -/
namespace Go.DD
open Go Go.Proofs
section
variable (k:Nat) (hp:Tr DObj) (nx:Nat) (K:DV→Tr DObj→Nat→Prop)
theorem Be6 (a:Int) (hK:K (bv false) hp nx):KW (kN (k+1)) (.fn 173) [iv a] hp nx K:=by
 refine kn_1 (Aa2 (by decide)) t173 (Nat.le_of_ble_eq_true rfl) fun es e1 e2 he=>?_
 have a0:rawE es (.t .o)=iv a:=he 0 _ rfl
 unfold r173
 simp only [bSa,↓bSb,bP,a0,e1,e2]
 exact hK
theorem Co7 (a b:Int) (hK:K (iv (cmpI a b)) hp nx):KW (kN (k+2)) (.fn 141) [iv a,iv b] hp nx K:=by
 refine kn_1 (Aa2 (by decide)) t141 (Nat.le_of_ble_eq_true rfl) fun es e1 e2 he=>?_
 have a0:rawE es (.t .o)=iv a:=he 0 _ rfl
 have a1:rawE es (.t (.l .o))=iv b:=he 1 _ rfl
 unfold r141
 simp only [bSa,↓bSb,a0,e1,e2]
 refine kws (Be6 k _ _ _ _ ?_)
 simp only [bSa,↓bSb,a1,bv]
 refine kws (Be6 k _ _ _ _ ?_)
 unfold cmpI at hK
 by_cases h1:a < b
 ·rw [if_pos h1] at hK
  simp only [bSa,↓bSb,bP,a0,a1,h1,bv]
  exact hK
 ·rw [if_neg h1] at hK
  by_cases h2:b < a
  ·rw [if_pos h2] at hK
   simp only [bSa,↓bSb,bP,a0,a1,h1,h2,bv]
   exact hK
  ·rw [if_neg h2] at hK
   simp only [bSa,↓bSb,bP,a0,a1,h1,h2,bv]
   exact hK
end
section
variable (k n0:Nat) (hp:Tr DObj) (nx:Nat) (K:DV→Tr DObj→Nat→Prop) (d1 d2:DV) (l m:List Int) (hn:n0≤nx) (h1:RL rInt hp (Bl n0) d1 l) (h2:RL rInt hp (Bl n0) d2 m) (hl:l.length < 900000)
include hn h1 h2 hl
theorem Cf9 (hK:K (iv (cmpL l m)) hp nx):KW (kN (k+3)) (.fn 75) [d1,d2] hp nx K:=by
 refine kn_1 (Aa2 (by decide)) t75 (Nat.le_of_ble_eq_true rfl) fun es e1 e2 he=>?_
 have a0:rawE es (.t .o)=d1:=he 0 _ rfl
 have a1:rawE es (.t (.l .o))=d2:=he 1 _ rfl
 unfold r75
 simp only [bSa,↓bSb,a0,e1,h1.len]
 refine EW.up l.length (fun i es1=>es1.hp=hp∧es1.nx=nx∧rawE es1 (.t .o)=d1∧rawE es1 (.t (.l .o))=d2∧rawE es1 (.t (.l (.r (.l .o))))=d1∧rawE es1 (.t (.r (.r (.l .o))))=iv l.length∧rawE es1 (.t (.l (.l (.r .o))))=iv (i:Nat)∧cmpL l m=cmpL (l.drop i) (m.drop i)) ?_ ?_ (by omega)
 ·rintro i es1 hi ⟨g1,g2,b0,b1,b9,b10,b11,hc⟩
  unfold l75_1
  by_cases c1:i < l.length
  ·by_cases c2:i < m.length
   ·have hd:cmpL (l.drop i) (m.drop i)=if cmpI l[i] m[i]=0 then cmpL (l.drop (i+1)) (m.drop (i+1)) else cmpI l[i] m[i]:=by
     rw [List.drop_eq_getElem_cons c1,List.drop_eq_getElem_cons c2]; rfl
    have c3:¬ m.length≤i:=by omega
    simp only [bSa,↓bSb,b1,b9,b10,b11,g1,Ad5 h1 c1,Ad5 h2 c2,ints_at h1 c1,ints_at h2 c2,h2.len,c1,c3]
    refine kws (Co7 k _ _ _ _ _ ?_)
    by_cases c4:cmpI l[i] m[i]=0
    ·rw [if_pos c4] at hd
     simp only [bSa,↓bSb,b0,b1,b9,b10,b11,c4,Aa3 (show i < _ by omega)]
     exact ⟨c1,g2,by rw [hc,hd]⟩
    ·rw [if_neg c4] at hd
     simp only [bSa,↓bSb,bP,c4]
     rw [← hd,← hc,g2]; exact hK
   ·have hd:cmpL (l.drop i) (m.drop i)=1:=by
     rw [List.drop_eq_getElem_cons c1,List.drop_eq_nil_of_le (show m.length≤i by omega)]; rfl
    have c3:m.length≤i:=by omega
    simp only [bSa,↓bSb,bP,b1,b9,b10,b11,g1,Ad5 h1 c1,ints_at h1 c1,h2.len,c1,c3]
    rw [hc,hd] at hK; rw [g2]; exact hK
  ·have hil:i=l.length:=by omega
   have hd:cmpL (l.drop i) (m.drop i)=if l.length < m.length then -1 else 0:=by
    rw [List.drop_eq_nil_of_le (show l.length≤i by omega)]
    by_cases c3:i < m.length
    ·rw [List.drop_eq_getElem_cons c3,if_pos (by omega)]; rfl
    ·rw [List.drop_eq_nil_of_le (show m.length≤i by omega),if_neg (by omega)]; rfl
   by_cases c3:l.length < m.length
   ·rw [if_pos c3] at hd
    simp only [bSa,↓bSb,bP,b0,b1,b10,b11,g1,h1.len,h2.len,c1,c3]
    rw [hc,hd] at hK; rw [g2]; exact hK
   ·rw [if_neg c3] at hd
    simp only [bSa,↓bSb,bP,b0,b1,b10,b11,g1,h1.len,h2.len,c1,c3]
    rw [hc,hd] at hK; rw [g2]; exact hK
 ·simp only [bSa,a0,a1,e1,e2]
theorem Ai6 (hK:K (iv (cmpL l m)) hp nx):KW (kN (k+4)) (.fn 24) [d1,d2] hp nx K:=by
 refine kn_1 (Aa2 (by decide)) t24 (Nat.le_of_ble_eq_true rfl) fun es e1 e2 he=>?_
 have a0:rawE es (.t .o)=d1:=he 0 _ rfl
 have a1:rawE es (.t (.l .o))=d2:=he 1 _ rfl
 unfold r24
 simp only [bSa,↓bSb,a0,a1,e1,e2]
 refine kws (Cf9 k n0 _ _ _ d1 d2 l m hn h1 h2 hl ?_)
 simp only [bSa,↓bSb,bP]
 exact hK
end
end Go.DD

/- Contracts: equal lists of integers, values, dimensions, attributes. Conditions: those that each theorem states. -/
namespace Go.DD
open Go Go.Proofs
theorem Be7 (k n0:Nat) (hp:Tr DObj) (nx:Nat) (K:DV→Tr DObj→Nat→Prop) (d1 d2:DV) (l m:List Int) (hn:n0≤nx) (h1:RL rInt hp (Bl n0) d1 l) (h2:RL rInt hp (Bl n0) d2 m) (hl:l.length < 900000) (hK:∀ nx',nx≤nx'→K (bv (decide (l=m))) hp nx'):KW (kN (k+1)) (.fn 22) [d1,d2] hp nx K:=by
 refine kn_1 (Aa2 (by decide)) t22 (Nat.le_of_ble_eq_true rfl) fun es e1 e2 he=>?_
 have a0:rawE es (.t .o)=d1:=he 0 _ rfl
 have a1:rawE es (.t (.l .o))=d2:=he 1 _ rfl
 unfold r22
 by_cases hlen:l.length=m.length
 ·simp only [bSa,↓bSb,a0,a1,e1,h1.len,h2.len,hlen]
  refine EW.up l.length (fun i es1=>es1.hp=hp∧nx≤es1.nx∧rawE es1 (.t .o)=d1∧rawE es1 (.t (.l .o))=d2∧rawE es1 (.t (.l (.r .o)))=iv (i:Nat)∧(l=m↔l.drop i=m.drop i)) ?_ ?_ (by omega)
  ·rintro i es1 hi ⟨g1,g2,b0,b1,b5,hc⟩
   unfold l22_1
   by_cases c1:i < l.length
   ·have c2:i < m.length:=by omega
    rw [Aq1 c1 c2] at hc
    by_cases c4:l[i]=m[i]
    ·simp only [bSa,↓bSb,b0,b1,b5,g1,h1.len,c1,Ad5 h1 c1,Ad5 h2 c2,ints_at h1 c1,ints_at h2 c2,h1.rox (show n0≤es1.nx by omega),h2.rox (show n0≤es1.nx by omega),Ac2 h1 (show n0≤es1.nx by omega),Ac2 h2 (show n0≤es1.nx by omega),c4,Aa3 (show i < _ by omega)]
     exact ⟨by omega,by rw [hc]; simp [c4]⟩
    ·simp only [bSa,↓bSb,bP,b0,b1,b5,g1,h1.len,c1,Ad5 h1 c1,Ad5 h2 c2,ints_at h1 c1,ints_at h2 c2,h1.rox (show n0≤es1.nx by omega),h2.rox (show n0≤es1.nx by omega),Ac2 h1 (show n0≤es1.nx by omega),Ac2 h2 (show n0≤es1.nx by omega),c4]
     have:¬ l=m:=by rw [hc]; simp [c4]
     have hh:=hK (es1.nx+9) (by omega)
     rw [decide_eq_false this] at hh
     exact hh
   ·have:l=m:=hc.2 (by rw [List.drop_eq_nil_of_le (by omega),List.drop_eq_nil_of_le (by omega)])
    simp only [bSa,↓bSb,bP,b0,b5,g1,h1.len,c1]
    have hh:=hK es1.nx g2
    rw [decide_eq_true this] at hh
    exact hh
  ·simp only [bSa,a0,a1,e1,e2]
 ·simp only [bSa,↓bSb,bP,a0,a1,e1,e2,h1.len,h2.len,hlen]
  have:¬ l=m:=fun e=>hlen (by rw [e])
  have hh:=hK nx (Nat.le_refl _)
  rw [decide_eq_false this] at hh
  exact hh
theorem Bz3 (k n0:Nat) (hp:Tr DObj) (nx:Nat) (K:DV→Tr DObj→Nat→Prop) (d1 d2:DV) (l m:List PVal) (hn:n0≤nx) (h1:RL rVal hp (Bl n0) d1 l) (h2:RL rVal hp (Bl n0) d2 m) (hl:l.length < 900000) (hK:∀ nx',nx≤nx'→K (bv (decide (l=m))) hp nx'):KW (kN (k+1)) (.fn 74) [d1,d2] hp nx K:=by
 refine kn_1 (Aa2 (by decide)) t74 (Nat.le_of_ble_eq_true rfl) fun es e1 e2 he=>?_
 have a0:rawE es (.t .o)=d1:=he 0 _ rfl
 have a1:rawE es (.t (.l .o))=d2:=he 1 _ rfl
 unfold r74
 by_cases hlen:l.length=m.length
 ·simp only [bSa,↓bSb,a0,a1,e1,h1.len,h2.len,hlen]
  refine EW.up l.length (fun i es1=>es1.hp=hp∧nx≤es1.nx∧rawE es1 (.t .o)=d1∧rawE es1 (.t (.l .o))=d2∧rawE es1 (.t (.l (.r .o)))=iv (i:Nat)∧(l=m↔l.drop i=m.drop i)) ?_ ?_ (by omega)
  ·rintro i es1 hi ⟨g1,g2,b0,b1,b5,hc⟩
   unfold l74_1
   by_cases c1:i < l.length
   ·have c2:i < m.length:=by omega
    rw [Aq1 c1 c2] at hc
    by_cases c4:l[i]=m[i]
    ·simp only [bSa,↓bSb,bP,b0,b1,b5,g1,h1.len,c1,An0 h1 c1,An0 h2 c2,Ao5 h1 c1,Ao5 h2 c2,h1.rox (show n0≤es1.nx by omega),h2.rox (show n0≤es1.nx by omega),Aq0 h1 (show n0≤es1.nx by omega),Aq0 h2 (show n0≤es1.nx by omega),Az2,An4 (show DV.refsL (vc _)=[] from rfl),An8 (show DV.refsL (vc _)=[] from rfl),eqs_a,eq_vc,Option.map_some,c4,Aa3 (show i < _ by omega)]
     exact ⟨by omega,by rw [hc]; simp [c4]⟩
    ·simp only [bSa,↓bSb,bP,b0,b1,b5,g1,h1.len,c1,An0 h1 c1,An0 h2 c2,Ao5 h1 c1,Ao5 h2 c2,h1.rox (show n0≤es1.nx by omega),h2.rox (show n0≤es1.nx by omega),Aq0 h1 (show n0≤es1.nx by omega),Aq0 h2 (show n0≤es1.nx by omega),Az2,An4 (show DV.refsL (vc _)=[] from rfl),An8 (show DV.refsL (vc _)=[] from rfl),eqs_a,eq_vc,Option.map_some,c4]
     have:¬ l=m:=by rw [hc]; simp [c4]
     have hh:=hK (es1.nx+9) (by omega)
     rw [decide_eq_false this] at hh
     exact hh
   ·have:l=m:=hc.2 (by rw [List.drop_eq_nil_of_le (by omega),List.drop_eq_nil_of_le (by omega)])
    simp only [bSa,↓bSb,bP,b0,b5,g1,h1.len,c1]
    have hh:=hK es1.nx g2
    rw [decide_eq_true this] at hh
    exact hh
  ·simp only [bSa,a0,a1,e1,e2]
 ·simp only [bSa,↓bSb,bP,a0,a1,e1,e2,h1.len,h2.len,hlen]
  have:¬ l=m:=fun e=>hlen (by rw [e])
  have hh:=hK nx (Nat.le_refl _)
  rw [decide_eq_false this] at hh
  exact hh
theorem Bz4 (k n0:Nat) (hp:Tr DObj) (nx:Nat) (K:DV→Tr DObj→Nat→Prop) (d1 d2:DV) (l m:List PDim) (hn:n0≤nx) (h1:RL rDim hp (Bl n0) d1 l) (h2:RL rDim hp (Bl n0) d2 m) (hl:l.length < 900000) (hK:∀ nx',nx≤nx'→K (bv (decide (l=m))) hp nx'):KW (kN (k+1)) (.fn 64) [d1,d2] hp nx K:=by
 refine kn_1 (Aa2 (by decide)) t64 (Nat.le_of_ble_eq_true rfl) fun es e1 e2 he=>?_
 have a0:rawE es (.t .o)=d1:=he 0 _ rfl
 have a1:rawE es (.t (.l .o))=d2:=he 1 _ rfl
 unfold r64
 by_cases hlen:l.length=m.length
 ·simp only [bSa,↓bSb,a0,a1,e1,h1.len,h2.len,hlen]
  refine EW.up l.length (fun i es1=>es1.hp=hp∧nx≤es1.nx∧rawE es1 (.t .o)=d1∧rawE es1 (.t (.l .o))=d2∧rawE es1 (.t (.l (.r .o)))=iv (i:Nat)∧(l=m↔l.drop i=m.drop i)) ?_ ?_ (by omega)
  ·rintro i es1 hi ⟨g1,g2,b0,b1,b5,hc⟩
   unfold l64_1
   by_cases c1:i < l.length
   ·have c2:i < m.length:=by omega
    rw [Aq1 c1 c2] at hc
    by_cases c4:l[i]=m[i]
    ·simp only [bSa,↓bSb,bP,b0,b1,b5,g1,h1.len,c1,Ad8 h1 c1,Ad8 h2 c2,(Ad1 h1 c1).1,(Ad1 h2 c2).1,h1.rox (show n0≤es1.nx by omega),h2.rox (show n0≤es1.nx by omega),Aj5 h1 (show n0≤es1.nx by omega),Aj5 h2 (show n0≤es1.nx by omega),Az2,An4 (show DV.refsL (dc _)=[] from rfl),An8 (show DV.refsL (dc _)=[] from rfl),eqs_a,eq_dc,Option.map_some,c4,Aa3 (show i < _ by omega)]
     exact ⟨by omega,by rw [hc]; simp [c4]⟩
    ·simp only [bSa,↓bSb,bP,b0,b1,b5,g1,h1.len,c1,Ad8 h1 c1,Ad8 h2 c2,(Ad1 h1 c1).1,(Ad1 h2 c2).1,h1.rox (show n0≤es1.nx by omega),h2.rox (show n0≤es1.nx by omega),Aj5 h1 (show n0≤es1.nx by omega),Aj5 h2 (show n0≤es1.nx by omega),Az2,An4 (show DV.refsL (dc _)=[] from rfl),An8 (show DV.refsL (dc _)=[] from rfl),eqs_a,eq_dc,Option.map_some,c4]
     have:¬ l=m:=by rw [hc]; simp [c4]
     have hh:=hK (es1.nx+9) (by omega)
     rw [decide_eq_false this] at hh
     exact hh
   ·have:l=m:=hc.2 (by rw [List.drop_eq_nil_of_le (by omega),List.drop_eq_nil_of_le (by omega)])
    simp only [bSa,↓bSb,bP,b0,b5,g1,h1.len,c1]
    have hh:=hK es1.nx g2
    rw [decide_eq_true this] at hh
    exact hh
  ·simp only [bSa,a0,a1,e1,e2]
 ·simp only [bSa,↓bSb,bP,a0,a1,e1,e2,h1.len,h2.len,hlen]
  have:¬ l=m:=fun e=>hlen (by rw [e])
  have hh:=hK nx (Nat.le_refl _)
  rw [decide_eq_false this] at hh
  exact hh
theorem Bz5 (k n0:Nat) (hp:Tr DObj) (nx:Nat) (K:DV→Tr DObj→Nat→Prop) (d1 d2:DV) (l m:List PAttr) (hn:n0≤nx) (h1:RL rAttr hp (Bl n0) d1 l) (h2:RL rAttr hp (Bl n0) d2 m) (hl:l.length < 900000) (hK:∀ nx',nx≤nx'→K (bv (decide (l=m))) hp nx'):KW (kN (k+1)) (.fn 65) [d1,d2] hp nx K:=by
 refine kn_1 (Aa2 (by decide)) t65 (Nat.le_of_ble_eq_true rfl) fun es e1 e2 he=>?_
 have a0:rawE es (.t .o)=d1:=he 0 _ rfl
 have a1:rawE es (.t (.l .o))=d2:=he 1 _ rfl
 unfold r65
 by_cases hlen:l.length=m.length
 ·simp only [bSa,↓bSb,a0,a1,e1,h1.len,h2.len,hlen]
  refine EW.up l.length (fun i es1=>es1.hp=hp∧nx≤es1.nx∧rawE es1 (.t .o)=d1∧rawE es1 (.t (.l .o))=d2∧rawE es1 (.t (.l (.r .o)))=iv (i:Nat)∧(l=m↔l.drop i=m.drop i)) ?_ ?_ (by omega)
  ·rintro i es1 hi ⟨g1,g2,b0,b1,b5,hc⟩
   unfold l65_1
   by_cases c1:i < l.length
   ·have c2:i < m.length:=by omega
    rw [Aq1 c1 c2] at hc
    by_cases c4:l[i]=m[i]
    ·simp only [bSa,↓bSb,bP,b0,b1,b5,g1,h1.len,c1,Ae6 h1 c1,Ae6 h2 c2,(Ae5 h1 c1).1,(Ae5 h2 c2).1,h1.rox (show n0≤es1.nx by omega),h2.rox (show n0≤es1.nx by omega),Aj2 h1 (show n0≤es1.nx by omega),Aj2 h2 (show n0≤es1.nx by omega),Az2,An4 (show DV.refsL (ac _)=[] from rfl),An8 (show DV.refsL (ac _)=[] from rfl),eqs_a,eq_ac,Option.map_some,c4,Aa3 (show i < _ by omega)]
     exact ⟨by omega,by rw [hc]; simp [c4]⟩
    ·simp only [bSa,↓bSb,bP,b0,b1,b5,g1,h1.len,c1,Ae6 h1 c1,Ae6 h2 c2,(Ae5 h1 c1).1,(Ae5 h2 c2).1,h1.rox (show n0≤es1.nx by omega),h2.rox (show n0≤es1.nx by omega),Aj2 h1 (show n0≤es1.nx by omega),Aj2 h2 (show n0≤es1.nx by omega),Az2,An4 (show DV.refsL (ac _)=[] from rfl),An8 (show DV.refsL (ac _)=[] from rfl),eqs_a,eq_ac,Option.map_some,c4]
     have:¬ l=m:=by rw [hc]; simp [c4]
     have hh:=hK (es1.nx+9) (by omega)
     rw [decide_eq_false this] at hh
     exact hh
   ·have:l=m:=hc.2 (by rw [List.drop_eq_nil_of_le (by omega),List.drop_eq_nil_of_le (by omega)])
    simp only [bSa,↓bSb,bP,b0,b5,g1,h1.len,c1]
    have hh:=hK es1.nx g2
    rw [decide_eq_true this] at hh
    exact hh
  ·simp only [bSa,a0,a1,e1,e2]
 ·simp only [bSa,↓bSb,bP,a0,a1,e1,e2,h1.len,h2.len,hlen]
  have:¬ l=m:=fun e=>hlen (by rw [e])
  have hh:=hK nx (Nat.le_refl _)
  rw [decide_eq_false this] at hh
  exact hh
end Go.DD

/- Contracts: names, bounds of dimensions; maps of names. Conditions: those that each theorem states. -/
namespace Go.DD
open Go Go.Proofs
def okN (l:List UInt8) (i:Nat):Prop:=∀ j,(h:j < l.length)→j < i→(j=0→Ag9 l[j]=true)∧nextB l[j]=true
theorem Bz6 {l:List UInt8} (h:okN l l.length) (h0:l≠[]):nameL l=true:=by
 cases l with
 | nil=>exact absurd rfl h0
 | cons c cs=>
  have h1:=h 0 (by simp) (by simp)
  simp only [nameL,Bool.and_eq_true,List.all_eq_true]
  refine ⟨h1.1 rfl,fun x hx=>?_⟩
  obtain ⟨j,hj,rfl⟩:=List.mem_iff_getElem.1 hx
  exact (h (j+1) (by simpa using hj) (by simpa using hj)).2
theorem Be8 {l:List UInt8} (h:nameL l=true):okN l l.length:=by
 cases l with
 | nil=>intro j hj; simp at hj
 | cons c cs=>
  simp only [nameL,Bool.and_eq_true,List.all_eq_true] at h
  intro j hj _
  cases j with
  | zero=>exact ⟨fun _=>h.1,by simp [nextB,h.1]⟩
  | succ j=>exact ⟨fun h=>by omega,h.2 _ (by simp)⟩
theorem okN_s {l:List UInt8} {i:Nat} (h:okN l i) (hi:i < l.length) (h1:i=0→Ag9 l[i]=true) (h2:nextB l[i]=true):okN l (i+1):=fun j hj hlt=>by
 by_cases e:j=i
 ·subst e; exact ⟨h1,h2⟩
 ·exact h j hj (by omega)
theorem An5 {s:ByteArray} (h:¬ (1≤s.data.toList.length∧s.data.toList.length≤12)):nameS s=false:=by
 unfold nameS
 by_cases h1:s.size≤12
 ·have:s.data.toList=[]:=List.eq_nil_of_length_eq_zero (by have:s.data.toList.length=s.size:=rfl; omega)
  rw [this]; simp [nameL]
 ·rw [decide_eq_false h1]; rfl
theorem A28 {s:ByteArray} (h:nameL s.data.toList=false):nameS s=false:=by unfold nameS; rw [h,Bool.and_false]
theorem Bp6 {s:ByteArray} (h:okN s.data.toList s.data.toList.length) (h1:1≤s.data.toList.length∧s.data.toList.length≤12):nameS s=true:=by
 unfold nameS
 rw [Bz6 h (fun e=>by rw [e] at h1; simp at h1),decide_eq_true (show s.size≤12 from h1.2)]; rfl
theorem notN1 {l:List UInt8} {i:Nat} (hi:i < l.length) (h:nextB l[i]=false):nameL l=false:=by
 rw [Bool.eq_false_iff]
 intro hn
 have:=(Be8 hn i hi hi).2
 rw [h] at this; cases this
theorem notN0 {l:List UInt8} (hi:0 < l.length) (h:Ag9 l[0]=false):nameL l=false:=by
 rw [Bool.eq_false_iff]
 intro hn
 have:=(Be8 hn 0 hi hi).1 rfl
 rw [h] at this; cases this
section
variable (k:Nat) (hp:Tr DObj) (nx:Nat) (K:DV→Tr DObj→Nat→Prop)
theorem A63 (c:UInt8) (hK:K (bv (Ag9 c)) hp nx):KW (kN (k+1)) (.fn 177) [.v (.int .u8 (c.toNat:Int))] hp nx K:=by
 refine kn_1 (Aa2 (by decide)) t177 (Nat.le_of_ble_eq_true rfl) fun es e1 e2 he=>?_
 have a0:rawE es (.t .o)=.v (.int .u8 (c.toNat:Int)):=he 0 _ rfl
 unfold r177
 simp only [bGa,↓bGb,bP,a0,e1,e2]
 exact kb hK rfl
theorem Bi6 (c:UInt8) (hK:K (bv (nextB c)) hp nx):KW (kN (k+2)) (.fn 178) [.v (.int .u8 (c.toNat:Int))] hp nx K:=by
 refine kn_1 (Aa2 (by decide)) t178 (Nat.le_of_ble_eq_true rfl) fun es e1 e2 he=>?_
 have a0:rawE es (.t .o)=.v (.int .u8 (c.toNat:Int)):=he 0 _ rfl
 unfold r178
 simp only [bSa,↓bSb,a0]
 refine kws (A63 k _ _ _ _ ?_)
 cases c1:Ag9 c <;> by_cases c2:(48:Int)≤c.toNat <;> by_cases c3:(c.toNat:Int)≤57 <;> cases c4:decide ((c.toNat:Int)=95) <;> simp only [bSa,↓bSb,bP,a0,e1,e2,c2,c3,c4] <;> refine kb hK ?_ <;> simp [nextB,c1,c2,c3,c4]
theorem Be9 (s:ByteArray) (hK:K (bv (nameS s)) hp nx):KW (kN (k+3)) (.fn 151) [sv s] hp nx K:=by
 refine kn_1 (Aa2 (by decide)) t151 (Nat.le_of_ble_eq_true rfl) fun es e1 e2 he=>?_
 have a0:rawE es (.t .o)=sv s:=he 0 _ rfl
 unfold r151
 have hsz:s.data.toList.length=s.size:=rfl
 by_cases c1:(s.size:Int) < 1
 ·simp only [bSa,↓bSb,bP,a0,e1,e2,c1]
  exact kb hK (Eq.symm (An5 (by omega)))
 by_cases c2:(12:Int) < s.size
 ·simp only [bSa,↓bSb,bP,a0,e1,e2,c1,c2]
  exact kb hK (Eq.symm (An5 (by omega)))
 have hl:0 < s.data.toList.length:=by omega
 simp only [bSa,↓bSb,bP,a0,e1,e2,c1,c2,Cf7 hl]
 refine kws (A63 (k+1) _ _ _ _ ?_)
 cases c3:Ag9 s.data.toList[0] with
 | false=>
  simp only [bSa,↓bSb,bP]
  exact kb hK (Eq.symm (A28 (notN0 hl c3)))
 | true=>
  simp only [bSa,↓bSb]
  refine EW.up s.data.toList.length (fun i es1=>es1.hp=hp∧es1.nx=nx∧rawE es1 (.t .o)=sv s∧rawE es1 (.t (.l (.l .o)))=iv (i:Nat)∧okN s.data.toList i) ?_ ?_ (by omega)
  ·rintro i es1 hi ⟨g1,g2,b0,b3,hc⟩
   unfold B72
   by_cases h1:i < s.size
   ·simp only [bSa,↓bSb,bP,b0,b3,g1,g2,h1,Be5 (show i < s.data.toList.length from h1)]
    refine kws (Bi6 k _ _ _ _ ?_)
    cases c4:nextB s.data.toList[i] with
    | false=>
     simp only [bSa,↓bSb,bP]
     exact kb hK (Eq.symm (A28 (notN1 h1 c4)))
    | true=>
     simp only [bSa,↓bSb,b0,b3,Aa3 (show i < _ by omega)]
     exact ⟨h1,okN_s hc h1 (fun e=>by subst e; exact c3) c4⟩
   ·simp only [bSa,↓bSb,bP,b0,b3,g1,g2,h1]
    obtain rfl:i=s.data.toList.length:=by omega
    exact kb hK (Eq.symm (Bp6 hc (by omega)))
  ·simp only [bSa,a0]
   exact fun j _ h=>by omega
theorem Bp7 (s:ByteArray) (hK:K (bv (nameS s)) hp nx):KW (kN (k+1)) (.fn 83) [sv s] hp nx K:=by
 refine kn_1 (Aa2 (by decide)) t83 (Nat.le_of_ble_eq_true rfl) fun es e1 e2 he=>?_
 have a0:rawE es (.t .o)=sv s:=he 0 _ rfl
 unfold r83
 have hsz:s.data.toList.length=s.size:=rfl
 by_cases c1:(s.size:Int) < 1
 ·simp only [bSa,↓bSb,bP,a0,e1,e2,c1]
  exact kb hK (Eq.symm (An5 (by omega)))
 by_cases c2:(12:Int) < s.size
 ·simp only [bSa,↓bSb,bP,a0,e1,e2,c1,c2]
  exact kb hK (Eq.symm (An5 (by omega)))
 simp only [bSa,↓bSb,bP,a0,e1,c1,c2]
 refine EW.up s.data.toList.length (fun i es1=>es1.hp=hp∧es1.nx=nx∧rawE es1 (.t (.l (.l (.l (.l .o)))))=.sl (s.data.toList.map fun c=>.v (.int .u8 (c.toNat:Int))) s.size∧rawE es1 (.t (.r (.l (.l (.l .o)))))=iv (s.size:Nat)∧rawE es1 (.t (.l (.r (.l (.l .o)))))=iv (i:Nat)∧okN s.data.toList i) ?_ ?_ (by omega)
 ·rintro i es1 hi ⟨g1,g2,b15,b16,b17,hc⟩
  unfold l83_1
  by_cases h1:i < s.size
  ·have hia:iaD hp 1 (.sl (s.data.toList.map fun c=>.v (.int .u8 (c.toNat:Int))) s.size) (.v (.int .i64 (i:Int)))=some (.ia ((s.data.toList.map fun c=>.v (.int .u8 (c.toNat:Int))).drop (i*1))):=ia_s h1
   have hu:=uv_at (show i < s.data.toList.length from h1)
   have hbad:∀ c,c=s.data.toList[i]→(nextB c=false∨(i=0∧Ag9 c=false))→false=nameS s:=by
    rintro c rfl (h | ⟨h0,h⟩)
    ·exact (A28 (notN1 h1 h)).symm
    ·subst h0; exact (A28 (notN0 h1 h)).symm
   have hgood:∀ c,c=s.data.toList[i]→nextB c=true→(i=0→Ag9 c=true)→okN s.data.toList (i+1):=by
    rintro c rfl h h2
    exact okN_s hc h1 h2 h
   generalize s.data.toList[i]=c at hu hbad hgood
   have hbad:=hbad c rfl
   have hgood:=hgood c rfl
   by_cases c1:(97:Int)≤c.toNat
   ·by_cases c2:(c.toNat:Int)≤122
    ·simp only [bSa,↓bSb,b15,b16,b17,g1,g2,h1,hia,hu,c1,c2,Aa3 (show i < _ by omega)]
     exact ⟨h1,hgood (by simp [nextB,Ag9,c1,c2]) (by simp [Ag9,c1,c2])⟩
    ·by_cases c0:(i:Int)=0
     ·simp only [bSa,↓bSb,bP,b15,b16,b17,g1,g2,h1,hia,hu,c1,c2,decide_eq_true c0]
      exact kb hK (hbad (.inr ⟨by omega,by simp [Ag9,c1,c2]⟩))
     ·simp only [bSa,↓bSb,bP,b15,b16,b17,g1,g2,h1,hia,hu,c1,c2,c0,show ¬ (c.toNat:Int)=95 by omega,show ¬ (c.toNat:Int) < 48 by omega,show (57:Int) < c.toNat by omega]
      exact kb hK (hbad (.inl (by simp [nextB,Ag9,c1,c2]; omega)))
   ·by_cases c0:(i:Int)=0
    ·simp only [bSa,↓bSb,bP,b15,b16,b17,g1,g2,h1,hia,hu,c1,decide_eq_true c0]
     exact kb hK (hbad (.inr ⟨by omega,by simp [Ag9,c1]⟩))
    ·by_cases c3:(c.toNat:Int)=95
     ·simp only [bSa,↓bSb,b15,b16,b17,g1,g2,h1,hia,hu,c1,c0,show decide (¬ (c.toNat:Int)=95)=false by simp [c3],Aa3 (show i < _ by omega)]
      exact ⟨h1,hgood (by simp [nextB,c3]) (fun h=>by omega)⟩
     ·by_cases c4:(c.toNat:Int) < 48
      ·simp only [bSa,↓bSb,bP,b15,b16,b17,g1,g2,h1,hia,hu,c1,c0,c3,c4]
       exact kb hK (hbad (.inl (by simp [nextB,Ag9,c1,c3]; omega)))
      ·by_cases c5:(57:Int) < c.toNat
       ·simp only [bSa,↓bSb,bP,b15,b16,b17,g1,g2,h1,hia,hu,c1,c0,c3,c4,c5]
        exact kb hK (hbad (.inl (by simp [nextB,Ag9,c1,c3]; omega)))
       ·simp only [bSa,↓bSb,b15,b16,b17,g1,g2,h1,hia,hu,c1,c0,c3,c4,c5,Aa3 (show i < _ by omega)]
        exact ⟨h1,hgood (by simp [nextB,c3]; omega) (fun h=>by omega)⟩
  ·simp only [bSa,↓bSb,bP,b16,b17,g1,g2,h1]
   obtain rfl:i=s.data.toList.length:=by omega
   exact kb hK (Eq.symm (Bp6 hc (by omega)))
 ·simp only [bSa,e1,e2]
  exact fun j _ h=>by omega
end
end Go.DD

/- Contracts: bounds of dimensions; maps of names. Conditions: those that each theorem states. -/
namespace Go.DD
open Go Go.Proofs
theorem At7 (a:Int):mmD false (.v (.int .i64 a)) (.v (.int .i64 1073741824))=some (.v (.int .i64 (min a 1073741824))):=Cn6 _ _ _ _
theorem dc_fa {hp:Tr DObj} {id T:Nat} {x:PDim} (h:hp.get id=some (.row T (dc x))):(faD hp 0 (.pt id 0)=some (.pt id 0)∧faD hp 1 (.pt id 0)=some (.pt id 1)∧faD hp 2 (.pt id 0)=some (.pt id 2))∧ldD hp none (.pt id 0)=some (sv x.name)∧ldD hp none (.pt id 1)=some (iv x.lo)∧ldD hp none (.pt id 2)=some (iv x.hi):=by
 refine ⟨⟨fa_p h,fa_p h,fa_p h⟩,?_,?_,?_⟩ <;> rw [ld_p h] <;> rfl
theorem ac_fa {hp:Tr DObj} {id T:Nat} {x:PAttr} (h:hp.get id=some (.row T (ac x))):(faD hp 0 (.pt id 0)=some (.pt id 0)∧faD hp 1 (.pt id 0)=some (.pt id 1))∧ldD hp none (.pt id 0)=some (sv x.name)∧ldD hp none (.pt id 1)=some (iv x.type):=by
 refine ⟨⟨fa_p h,fa_p h⟩,?_,?_⟩ <;> rw [ld_p h] <;> rfl
section
variable (k:Nat) (hp:Tr DObj) (nx:Nat) (K:DV→Tr DObj→Nat→Prop) (x:PDim)
theorem Cg0 (hK:∀ hp' nx',Al hp nx hp' nx'→K (iv (lastC x)) hp' nx'):KW (kN (k+1)) (.fn 180) [.agg (dc x)] hp nx K:=by
 refine kn_1 (Aa2 (by decide)) t180 (Nat.le_of_ble_eq_true rfl) fun es e1 e2 he=>?_
 have a0:rawE es (.t .o)=.agg (dc x):=he 0 _ rfl
 unfold r180
 simp only [↓bSb]
 refine Ab0 (cs:=dc x) (by rw [evt,a0]; exact Ab6 rfl) fun hp1 hg1 hk1=>?_
 simp only [bR,e1,e2] at hg1 hk1
 obtain ⟨⟨_,_,f2⟩,_,_,l2⟩:=dc_fa hg1
 simp only [bSa,↓bSb,bP,e2,f2,l2,At7]
 exact hK _ _ ⟨by omega,fun j hj=>hk1 j (by omega)⟩
theorem Bz7 (hK:∀ hp' nx',Al hp nx hp' nx'→K (iv (lastC x)) hp' nx'):KW (kN (k+1)) (.fn 189) [.agg (dc x)] hp nx K:=by
 refine kn_1 (Aa2 (by decide)) t189 (Nat.le_of_ble_eq_true rfl) fun es e1 e2 he=>?_
 have a0:rawE es (.t .o)=.agg (dc x):=he 0 _ rfl
 unfold r189
 simp only [↓bSb]
 refine Ab0 (cs:=dc x) (by rw [evt,a0]; exact Ab6 rfl) fun hp1 hg1 hk1=>?_
 simp only [bR,e1,e2] at hg1 hk1
 obtain ⟨⟨_,_,f2⟩,_,_,l2⟩:=dc_fa hg1
 simp only [bSa,↓bSb,bP,e2,f2,l2,At7]
 exact hK _ _ ⟨by omega,fun j hj=>hk1 j (by omega)⟩
theorem Bp8 (hK:∀ hp' nx',Al hp nx hp' nx'→K (bv (Al1 x)) hp' nx'):KW (kN (k+1)) (.fn 188) [.agg (dc x)] hp nx K:=by
 refine kn_1 (Aa2 (by decide)) t188 (Nat.le_of_ble_eq_true rfl) fun es e1 e2 he=>?_
 have a0:rawE es (.t .o)=.agg (dc x):=he 0 _ rfl
 unfold r188
 simp only [↓bSb]
 refine Ab0 (cs:=dc x) (by rw [evt,a0]; exact Ab6 rfl) fun hp1 hg1 hk1=>?_
 simp only [bR,e1,e2] at hg1 hk1
 obtain ⟨⟨_,f1,f2⟩,_,l1,l2⟩:=dc_fa hg1
 have hal:Al hp nx hp1 (nx+1):=⟨by omega,fun j hj=>hk1 j (by omega)⟩
 have hh:=hK _ _ hal
 simp only [bGa,↓bGb,bP,e2,f1,f2,l1,l2]
 exact kb hh (by simp [Al1,Bool.and_assoc])
end
structure MapS (hp:Tr DObj) (im:Nat) (met:List ByteArray):Prop where
 ex:∃ ck es,hp.get im=some (.mapo ck es)∧(∀ e∈es,e.v=bv true∧∃ s∈met,e.k=.string s)∧∀ s∈met,∃ e∈es,e.k=.string s
theorem MapS.nil {hp:Tr DObj} {im ck:Nat} (h:hp.get im=some (.mapo ck [])):MapS hp im []:=⟨ck,[],h,(fun _ h=>by cases h),(fun _ h=>by cases h)⟩
theorem MapS.keep {hp hp':Tr DObj} {im:Nat} {met:List ByteArray} (h:MapS hp im met) (hk:hp'.get im=hp.get im):MapS hp' im met:=by
 obtain ⟨ck,es,h1,h2,h3⟩:=h
 exact ⟨ck,es,hk.trans h1,h2,h3⟩
theorem memB_iff {s:ByteArray} {l:List ByteArray} : memB s l=true↔s∈l:=by
 unfold memB
 rw [List.any_eq_true]
 constructor
 ·rintro ⟨x,hx,he⟩
  rw [← of_decide_eq_true he]; exact hx
 ·intro h; exact ⟨s,h,decide_eq_true rfl⟩
theorem dl_eq (a b:ByteArray):(a.data.toList == b.data.toList)=decide (a=b):=by
 rw [← bytes_eq,ByteArray.toList_eq,ByteArray.toList_eq]
theorem findS:∀ (es:List ME) (s:ByteArray) (i:Nat),(∀ e∈es,∃ t,e.k=.string t)→(findD (.p .string) (.string s) es i=some none∧∀ e∈es,e.k≠.string s)∨∃ j e,findD (.p .string) (.string s) es i=some (some (i+j,e))∧e∈es∧e.k=.string s∧es[j]?=some e
 | [],s,i,_=>.inl ⟨rfl,fun _ h=>by cases h⟩
 | e :: es,s,i,hk=>by
  obtain ⟨t,ht⟩:=hk e (List.mem_cons_self ..)
  have hs:sameK (.p .string) (.string s) e.k=some (decide (s=t)):=by
   rw [ht]
   show some (s.data.toList == t.data.toList)=_
   rw [dl_eq]
  by_cases h:s=t
  ·refine .inr ⟨0,e,?_,List.mem_cons_self ..,by rw [ht,h],rfl⟩
   unfold findD; rw [hs,decide_eq_true h]; rfl
  ·have hfd:findD (.p .string) (.string s) (e :: es) i=findD (.p .string) (.string s) es (i+1):=by
    conv=>lhs; unfold findD
    rw [hs,decide_eq_false h]
   rcases findS es s (i+1) (fun e he=>hk e (List.mem_cons_of_mem _ he)) with ⟨h1,h2⟩ | ⟨j,e',h1,h2,h3,h4⟩
   ·refine .inl ⟨hfd.trans h1,fun x hx=>?_⟩
    rcases List.mem_cons.1 hx with rfl | hx
    ·rw [ht]; intro e; exact h (Value.string.inj e).symm
    ·exact h2 x hx
   ·exact .inr ⟨j+1,e',by rw [hfd,h1,Nat.add_assoc,Nat.add_comm 1 j],List.mem_cons_of_mem _ h2,h3,by simpa using h4⟩
theorem MapS.lkp {hp:Tr DObj} {im:Nat} {met:List ByteArray} (h:MapS hp im met) (s:ByteArray):lkpD hp (.p .string) (.bool false) (.mp im) (.v (.string s))=some (.v (.bool (memB s met))):=by
 obtain ⟨ck,es,h1,h2,h3⟩:=h
 unfold lkpD
 show (if Al3 (.p .string) (.string s)=true then _ else none)=_
 rw [if_pos (by rfl)]
 simp only [h1]
 rcases findS es s 0 (fun e he=>by obtain ⟨_,t,_,ht⟩:=h2 e he; exact ⟨t,ht⟩) with ⟨h4,h5⟩ | ⟨j,e,h4,h5,h6,_⟩
 ·rw [h4]
  have:memB s met=false:=by
   rw [Bool.eq_false_iff]
   intro hm
   obtain ⟨e,he,hs⟩:=h3 s (memB_iff.1 hm)
   exact h5 e he hs
  rw [this]; rfl
 ·rw [h4]
  obtain ⟨hv,t,ht,hkt⟩:=h2 e h5
  have:t=s:=by rw [h6] at hkt; exact (Value.string.inj hkt).symm
  subst this
  rw [memB_iff.2 ht]
  simp only [lkRes]
  rw [hv]; rfl
theorem Bf0 {call:CallT} {es:ES} {dst:Option Pa} {q:Hold (ES→Prop)} {x k y:Operand} {im:Nat} {met:List ByteArray} {s:ByteArray} (hm:MapS es.hp im met) (e1:es.ds.ev x=.mp im) (e2:es.ds.ev k=sv s) (e3:es.ds.ev y=bv true)
  (h:∀ hp',MapS hp' im (met ++ [s])→(∀ j,j≠im→hp'.get j=es.hp.get j)→q.val ((ES.mk es.sl hp' es.nx).putE dst .any)) :
  SWs (sU dst (xAny (.mup (.p .string) x k y))) call es:=by
 obtain ⟨ck,l,h1,h2,h3⟩:=hm
 show SW _ _ _ _
 rw [sw_u,x_any]
 have key:∀ ck2 es2,putD (.p .string) (.string s) (bv true) ck l=some (ck2,es2)→execU es.nx es.ds (.mup (.p .string) x k y)=some (.any,.wr im (.mapo ck2 es2)):=by
  intro ck2 es2 hp
  simp only [execU,e1,e2,e3,kvOf,sv]
  rw [if_pos (by rfl)]
  show (match es.hp.get im with
   | some (.mapo ck es)=>match putD (.p .string) (.string s) (bv true) ck es with
    | some p=>some (DV.any,Upd.wr im (.mapo p.1 p.2))
    | none=>none
   | _=>none)=_
  rw [h1]
  simp only [hp]
 have fin:∀ ck2 es2,putD (.p .string) (.string s) (bv true) ck l=some (ck2,es2)→(∀ e∈es2,e.v=bv true∧∃ t∈met ++ [s],e.k=.string t)→(∀ t∈met ++ [s],∃ e∈es2,e.k=.string t)→UW (execU es.nx es.ds (.mup (.p .string) x k y)) fun d u=>q.val ((es.up u).putE dst d):=by
  intro ck2 es2 hp h4 h5
  exact ⟨_,_,key ck2 es2 hp,h (es.up (.wr im (.mapo ck2 es2))).hp ⟨ck2,es2,by rw [up_wr,get_set,if_pos rfl],h4,h5⟩ fun j hj=>by rw [up_wr,get_set,if_neg hj]⟩
 rcases findS l s 0 (fun e he=>by obtain ⟨_,t,_,ht⟩:=h2 e he; exact ⟨t,ht⟩) with ⟨h4,h5⟩ | ⟨j,e,h4,h5,h6,h7⟩
 ·refine fin (ck+1) (l ++ [⟨.string s,bv true,ck⟩]) (by unfold putD; rw [h4]) (fun e he=>?_) (fun t ht=>?_)
  ·rcases List.mem_append.1 he with he | he
   ·obtain ⟨a,t,b,c⟩:=h2 e he
    exact ⟨a,t,List.mem_append_left _ b,c⟩
   ·obtain rfl:=List.mem_singleton.1 he
    exact ⟨rfl,s,by simp,rfl⟩
  ·rcases List.mem_append.1 ht with ht | ht
   ·obtain ⟨e,he,hk⟩:=h3 t ht
    exact ⟨e,List.mem_append_left _ he,hk⟩
   ·obtain rfl:=List.mem_singleton.1 ht
    exact ⟨_,List.mem_append_right _ (List.mem_singleton.2 rfl),rfl⟩
 ·have hj:j < l.length:=(List.getElem?_eq_some_iff.1 h7).1
  refine fin ck (l.set j ⟨.string s,bv true,e.b⟩) (by unfold putD; rw [h4,Nat.zero_add]) (fun x hx=>?_) (fun t ht=>?_)
  ·rcases List.mem_or_eq_of_mem_set hx with hx | hx
   ·obtain ⟨a,t,b,c⟩:=h2 x hx
    exact ⟨a,t,List.mem_append_left _ b,c⟩
   ·subst hx
    exact ⟨rfl,s,by simp,rfl⟩
  ·by_cases hts:t=s
   ·subst hts
    exact ⟨_,List.mem_set hj _,rfl⟩
   ·have ht':t∈met:=by
     rcases List.mem_append.1 ht with ht | ht
     ·exact ht
     ·exact absurd (List.mem_singleton.1 ht) hts
    obtain ⟨x,hx,hk⟩:=h3 t ht'
    obtain ⟨i,hi,rfl⟩:=List.mem_iff_getElem.1 hx
    refine ⟨l[i],?_,hk⟩
    have hij:j≠i:=by
     intro e2
     subst e2
     rw [List.getElem?_eq_getElem hi] at h7
     have:=Option.some.inj h7
     rw [this,h6] at hk
     exact hts (Value.string.inj hk).symm
    refine List.mem_iff_getElem.2 ⟨i,by simpa using hi,?_⟩
    rw [List.getElem_set_ne hij]
end Go.DD

/- Contracts: schemas. Conditions: those that each theorem states. -/
namespace Go.DD
open Go Go.Proofs
theorem Ae8 {α β:Type} (f:α→β) {l:List α} {i:Nat} (h:i < l.length):(l.take (i+1)).map f=(l.take i).map f ++ [f l[i]]:=by
 rw [List.take_succ_eq_append_getElem h,List.map_append]; rfl
theorem Bp9 {met:List ByteArray} {l:List PDim} {i:Nat} (h:i < l.length):dimsF met (l.drop i)=if nameS l[i].name=false∨memB l[i].name met=true then 11 else if Al1 l[i]=false then 3 else dimsF (met ++ [l[i].name]) (l.drop (i+1)):=by
 rw [List.drop_eq_getElem_cons h]; rfl
theorem Bf1 {met:List ByteArray} {l:List PAttr} {i:Nat} (h:i < l.length):As0 met (l.drop i)=if nameS l[i].name=false∨memB l[i].name met=true then 11 else if l[i].type < 1∨4 < l[i].type then 12 else As0 (met ++ [l[i].name]) (l.drop (i+1)):=by
 rw [List.drop_eq_getElem_cons h]; rfl
theorem MapS.live {hp:Tr DObj} {im:Nat} {met:List ByteArray} (h:MapS hp im met):liveE hp (.mp im)=.mp im:=by
 obtain ⟨ck,es,h1,_⟩:=h
 exact Ce7 h1
section
variable (k n0:Nat) (hp:Tr DObj) (nx:Nat) (K:DV→Tr DObj→Nat→Prop)
theorem Cg1 (d:DV) (l:List PDim) (im:Nat) (hn:n0≤nx) (h1:RL rDim hp (Bl n0) d l) (hm:MapS hp im []) (him:n0≤im∧im < nx)
  (hK:∀ hp' nx',nx≤nx'→(∀ j,j < nx→j≠im→hp'.get j=hp.get j)→(dimsE l=0→MapS hp' im (l.map PDim.name))→K (iv (dimsE l)) hp' nx'):KW (kN (k+2)) (.fn 156) [d,.mp im] hp nx K:=by
 refine kn_1 (Aa2 (by decide)) t156 (Nat.le_of_ble_eq_true rfl) fun es e1 e2 he=>?_
 have a0:rawE es (.t .o)=d:=he 0 _ rfl
 have a1:rawE es (.t (.l .o))=.mp im:=he 1 _ rfl
 unfold r156
 by_cases c1:(l.length:Int) < 1
 ·simp only [bSa,↓bSb,bP,a0,e1,e2,h1.len,c1]
  have hh:=hK hp nx (Nat.le_refl _) (fun _ _ _=>rfl)
  unfold dimsE at hh
  rw [if_pos (.inl (by omega))] at hh
  exact hh (fun h=>by cases h)
 by_cases c2:(4:Int) < l.length
 ·simp only [bSa,↓bSb,bP,a0,e1,e2,h1.len,c1,c2]
  have hh:=hK hp nx (Nat.le_refl _) (fun _ _ _=>rfl)
  unfold dimsE at hh
  rw [if_pos (.inr (by omega))] at hh
  exact hh (fun h=>by cases h)
 unfold dimsE at hK
 rw [if_neg (by omega)] at hK
 simp only [bSa,↓bSb,a0,e1,h1.len,c1,c2]
 refine EW.up l.length (fun i es1=>nx≤es1.nx∧(∀ j,j < nx→j≠im→es1.hp.get j=hp.get j)∧MapS es1.hp im ((l.take i).map PDim.name)∧rawE es1 (.t (.l .o))=.mp im∧rawE es1 (.t (.l (.l (.l (.l .o)))))=d∧rawE es1 (.t (.r (.l (.l (.l .o)))))=iv l.length∧rawE es1 (.t (.l (.r (.l (.l .o)))))=iv (i:Nat)∧dimsF [] l=dimsF ((l.take i).map PDim.name) (l.drop i)) ?_ ?_ (by omega)
 ·rintro i es1 hi ⟨g1,g2,gm,b1,b15,b16,b17,hc⟩
  unfold B73
  by_cases h:i < l.length
  ·have r1:RL rDim es1.hp (Bl n0) d l:=h1.keep fun j hj=>g2 j (Nat.lt_of_lt_of_le hj hn) (Nat.ne_of_lt (Nat.lt_of_lt_of_le hj him.1))
   rw [Bp9 h] at hc
   simp only [bGa,↓bGb,b15,b16,b17,h,Ad8 r1 h,(Ad1 r1 h).1]
   refine Ac5 fun hp1 hg1 hk1=>?_
   simp only [bR] at hg1 hk1
   simp only [bGa,↓bGb]
   refine Ac0 (id:=es1.nx) (ds:=dc l[i]) (by simp only [bR]) hg1 (by simp only [evt,bR,reduceCtorEq]; exact Ab6 rfl) rfl rfl fun hp2 hg2 hk2=>?_
   simp only [bR] at hg2 hk2
   obtain ⟨⟨f0,f1,f2⟩,l0,l1,l2⟩:=dc_fa hg2
   have gm2:MapS hp2 im ((l.take i).map PDim.name):=gm.keep (by rw [hk2 im (by omega),hk1 im (by omega)])
   have g22:∀ j,j < nx→j≠im→hp2.get j=hp.get j:=fun j hj hne=>by rw [hk2 j (by omega),hk1 j (by omega),g2 j hj hne]
   simp only [bGa,↓bGb,f0,l0]
   refine kws (Bp7 (k:=k) _ _ _ _ ?_)
   simp only [bGa,↓bGb,bP,b1,f0,l0,gm2.live,gm2.lkp]
   refine cws (fun c=>?_) (fun c=>?_)
   ·rw [if_pos (by simpa using c)] at hc
    rw [hc] at hK
    simp only [bGa,↓bGb,bP]
    exact hK _ _ (by omega) g22 (fun h=>by cases h)
   ·rw [if_neg (by simpa using c)] at hc
    simp only [bGa,↓bGb,f1,f2,l1,l2]
    refine cws (fun c2=>?_) (fun c2=>?_)
    ·have:Al1 l[i]=false:=by
      unfold Al1
      rw [Bool.eq_false_iff]
      intro hb
      simp at c2 hb
      omega
     rw [if_pos this] at hc
     rw [hc] at hK
     simp only [bGa,↓bGb,bP]
     exact hK _ _ (by omega) g22 (fun h=>by cases h)
    ·have:¬ Al1 l[i]=false:=by
      unfold Al1
      simp at c2 ⊢
      omega
     rw [if_neg this] at hc
     simp only [bGa,↓bGb,b1,f0,l0]
     refine Bf0 (im:=im) (s:=l[i].name) gm2 (by simp only [n_ev,bR,reduceCtorEq,bP]; exact gm2.live) (by simp only [n_ev,bR,bP]; exact A85 _ _) (by rfl) fun hp3 hm3 hk3=>?_
     simp only [bR] at hk3
     simp only [bGa,↓bGb,b1,b15,b16,b17,h,Aa3 (show i < _ by omega)]
     refine ⟨by omega,fun j hj hne=>by rw [hk3 j hne,g22 j hj hne],by rw [Ae8 _ h]; exact hm3,by rw [Ae8 _ h]; exact hc⟩
  ·simp only [bGa,↓bGb,bP,b16,b17,h]
   have e:l.drop i=[]:=List.drop_eq_nil_of_le (by omega)
   rw [e] at hc
   rw [hc] at hK
   refine hK _ _ g1 g2 (fun _=>?_)
   rwa [List.take_of_length_le (by omega)] at gm
 ·simp only [bSa,a1,e1,e2]
  exact ⟨fun _ _ _=>trivial,hm,rfl⟩
end
end Go.DD

/- Contracts: schemas, by the program and by the reference. Conditions: those that each theorem states. -/
namespace Go.DD
open Go Go.Proofs
theorem Aw8 (s:ByteArray) (l:List ByteArray) (t:ByteArray):memB s (l ++ [t])=(memB s l || decide (t=s)):=by
 unfold memB
 rw [List.any_append]; simp
theorem Bz8 (s:ByteArray) (l m:List ByteArray):memB s (l ++ m)=(memB s l || memB s m):=by
 unfold memB
 rw [List.any_append]
section
variable (k n0:Nat) (hp:Tr DObj) (nx:Nat) (K:DV→Tr DObj→Nat→Prop) (d a:DV) (l:List PDim) (m:List PAttr) (hn:n0≤nx) (h1:RL rDim hp (Bl n0) d l) (h2:RL rAttr hp (Bl n0) a m)
include hn h1 h2
theorem A64 (hK:∀ hp' nx',Al hp nx hp' nx'→K (iv (Ae3 l m)) hp' nx'):KW (kN (k+3)) (.fn 121) [d,a] hp nx K:=by
 refine kn_1 (Aa2 (by decide)) t121 (Nat.le_of_ble_eq_true rfl) fun es e1 e2 he=>?_
 have a0:rawE es (.t .o)=d:=he 0 _ rfl
 have a1:rawE es (.t (.l .o))=a:=he 1 _ rfl
 unfold r121
 simp only [bGa,↓bGb]
 refine Cf2 fun hp1 hg1 hk1=>?_
 simp only [bR,e1,e2] at hg1 hk1
 simp only [bGa,↓bGb,a0,e2]
 have r1:RL rDim hp1 (Bl n0) d l:=h1.keep fun j hj=>hk1 j (by have:j < n0:=hj; omega)
 have r2:RL rAttr hp1 (Bl n0) a m:=h2.keep fun j hj=>hk1 j (by have:j < n0:=hj; omega)
 refine kws (Cg1 (k+1 - 1) n0 _ _ _ d l nx (by omega) r1 (MapS.nil hg1) ⟨hn,by omega⟩ fun hp2 nx2 hn2 hk2 hm2=>?_)
 have hal2:Al hp nx hp2 nx2:=⟨by omega,fun j hj=>by rw [hk2 j (by omega) (by omega),hk1 j (by omega)]⟩
 have r3:RL rAttr hp2 (Bl n0) a m:=h2.ka hn hal2
 simp only [bGa,↓bGb]
 unfold Ae3 at hK
 refine cws (fun c=>?_) (fun c=>?_)
 ·have c0:dimsE l≠0:=by simpa using c
  rw [if_pos c0] at hK
  simp only [bGa,↓bGb,bP]
  exact hK _ _ hal2
 ·have c0:dimsE l=0:=by simpa using c
  rw [if_neg (by simp [c0])] at hK
  have gm:=hm2 c0
  simp only [bGa,↓bGb,a1,r3.len]
  refine cws (fun c=>?_) (fun c=>?_)
  ·rw [if_pos (by simp at c; omega)] at hK
   simp only [bGa,↓bGb,bP]
   exact hK _ _ hal2
  ·rw [if_neg (by simp at c; omega)] at hK
   have hlen:m.length≤6:=by simp at c; omega
   simp only [bGa,↓bGb,a1,r3.len]
   refine EW.up m.length (fun i es1=>nx2≤es1.nx∧Al hp nx es1.hp es1.nx∧MapS es1.hp nx (l.map PDim.name ++ (m.take i).map PAttr.name)∧rawE es1 (.t (.l (.r .o)))=.mp nx∧rawE es1 (.t (.r (.l (.l (.r .o)))))=a∧rawE es1 (.t (.l (.r (.l (.r .o)))))=iv m.length∧rawE es1 (.t (.r (.r (.l (.r .o)))))=iv (i:Nat)∧As0 (l.map PDim.name) m=As0 (l.map PDim.name ++ (m.take i).map PAttr.name) (m.drop i)) ?_ ?_ (by omega)
   ·rintro i es1 hi ⟨gn,g2,gm,b5,b24,b25,b26,hc⟩
    unfold B67
    by_cases h:i < m.length
    ·have r4:RL rAttr es1.hp (Bl n0) a m:=h2.ka hn g2
     rw [Bf1 h] at hc
     simp only [bGa,↓bGb,b24,b25,b26,h,Ae6 r4 h,(Ae5 r4 h).1]
     refine Ac5 fun hp3 hg3 hk3=>?_
     simp only [bR] at hg3 hk3
     simp only [bGa,↓bGb]
     refine Ac0 (id:=es1.nx) (ds:=ac m[i]) (by simp only [bR]) hg3 (by simp only [evt,bR,reduceCtorEq]; exact Ab6 rfl) rfl rfl fun hp4 hg4 hk4=>?_
     simp only [bR] at hg4 hk4
     obtain ⟨⟨f0,f1⟩,l0,l1⟩:=ac_fa hg4
     have hle:=g2.le
     have gm4:MapS hp4 nx (l.map PDim.name ++ (m.take i).map PAttr.name):=gm.keep (by rw [hk4 nx (by omega),hk3 nx (by omega)])
     have g24:Al hp nx hp4 (es1.nx+1):=⟨by omega,fun j hj=>by rw [hk4 j (by omega),hk3 j (by omega),g2.same j hj]⟩
     simp only [bGa,↓bGb,f0,l0]
     refine kws (Bp7 (k:=k+1) _ _ _ _ ?_)
     simp only [bGa,↓bGb,bP,b5,f0,l0,gm4.live,gm4.lkp]
     refine cws (fun c=>?_) (fun c=>?_)
     ·rw [if_pos (by simpa using c)] at hc
      rw [hc] at hK
      simp only [bGa,↓bGb,bP]
      exact hK _ _ g24
     ·rw [if_neg (by simpa using c)] at hc
      simp only [bGa,↓bGb,f1,l1]
      refine cws (fun c2=>?_) (fun c2=>?_)
      ·rw [if_pos (by simpa using c2)] at hc
       rw [hc] at hK
       simp only [bGa,↓bGb,bP]
       exact hK _ _ g24
      ·rw [if_neg (by simpa using c2)] at hc
       simp only [bGa,↓bGb,b5,f0,l0]
       refine Bf0 (im:=nx) (s:=m[i].name) gm4 (by simp only [n_ev,bR,reduceCtorEq,bP]; exact gm4.live) (by simp only [n_ev,bR,bP]; exact A85 _ _) (by rfl) fun hp5 hm5 hk5=>?_
       simp only [bR] at hk5
       simp only [bGa,↓bGb,b5,b24,b25,b26,h,Aa3 (show i < _ by omega)]
       refine ⟨by omega,⟨by omega,fun j hj=>by rw [hk5 j (by omega),g24.same j hj]⟩,by rw [Ae8 _ h,← List.append_assoc]; exact hm5,by rw [Ae8 _ h,← List.append_assoc]; exact hc⟩
    ·simp only [bGa,↓bGb,bP,b25,b26,h]
     have e:m.drop i=[]:=List.drop_eq_nil_of_le (by omega)
     rw [e] at hc
     rw [hc] at hK
     exact hK _ _ g2
   ·simp only [bGa]
    exact ⟨hal2,by simpa using gm,by simp⟩
omit h2
theorem Bz9 (hK:∀ hp' nx',Al hp nx hp' nx'→K (iv (dimsE l)) hp' nx'):KW (kN (k+4)) (.fn 167) [d] hp nx K:=by
 refine kn_1 (Aa2 (by decide)) t167 (Nat.le_of_ble_eq_true rfl) fun es e1 e2 he=>?_
 have a0:rawE es (.t .o)=d:=he 0 _ rfl
 unfold r167
 simp only [bGa,↓bGb,a0,e1,h1.len]
 unfold dimsE at hK
 refine cws (fun c=>?_) (fun c=>?_)
 ·rw [if_pos (by simp at c; omega)] at hK
  simp only [bGa,↓bGb,bP,e1,e2]
  exact hK _ _ (Al.refl _ _)
 rw [if_neg (by simp at c; omega)] at hK
 have hlen:l.length≤4:=by simp at c; omega
 simp only [bGa,↓bGb]
 refine EW.up l.length (fun i es1=>Al hp nx es1.hp es1.nx∧rawE es1 (.t .o)=d∧rawE es1 (.t (.l (.l .o)))=iv (i:Nat)∧dimsF [] l=dimsF ((l.take i).map PDim.name) (l.drop i)) ?_ ?_ (by omega)
 ·rintro i es1 hi ⟨g1,b0,b3,hc⟩
  unfold B76
  have r1:RL rDim es1.hp (Bl n0) d l:=h1.ka hn g1
  by_cases h:i < l.length
  ·rw [Bp9 h] at hc
   have hle:=g1.le
   simp only [bGa,↓bGb,b0,b3,h,r1.len,Ad8 r1 h,(Ad1 r1 h).2.2.1,Ah6 (k:=0) r1 h]
   refine kws (Be9 (k:=k) _ _ _ _ ?_)
   simp only [bGa,↓bGb]
   refine cws (fun c1=>?_) (fun c1=>?_)
   ·rw [if_pos (.inl (by simpa using c1))] at hc
    rw [hc] at hK
    simp only [bGa,↓bGb,bP]
    exact hK _ _ g1
   have c1:nameS l[i].name=true:=by simpa using c1
   simp only [bGa,↓bGb]
   refine EW.up i (fun j es2=>es2.hp=es1.hp∧es1.nx≤es2.nx∧rawE es2 (.t .o)=d∧rawE es2 (.t (.l (.l .o)))=iv (i:Nat)∧rawE es2 (.t (.r (.l .o)))=iv (j:Nat)∧memB l[i].name ((l.take j).map PDim.name)=false) ?_ ?_ (by omega)
   ·rintro j es2 hj ⟨q1,q2,x0,x3,x4,hm⟩
    unfold B75
    by_cases hji:j < i
    ·have hj2:j < l.length:=by omega
     have ms:=Aw8 l[i].name ((l.take j).map PDim.name) l[j].name
     rw [← Ae8 _ hj2,hm] at ms
     cases c3:decide (l[j].name=l[i].name) with
     | true=>
      simp only [bSa,↓bSb,bP,x0,x3,x4,hji,q1,Ad8 r1 h,Ad8 r1 hj2,(Ad1 r1 h).2.2.1,Ah6 (k:=0) r1 h,(Ad1 r1 hj2).2.2.1,Ah6 (k:=0) r1 hj2,r1.rox (show n0≤es2.nx by omega),Aj5 r1 (show n0≤es2.nx by omega),At6 r1 (show n0≤es2.nx by omega),c3]
      rw [c3,Bool.or_true] at ms
      have hm2:memB l[i].name ((l.take i).map PDim.name)=true:=memB_iff.2 (by
       have:=memB_iff.1 ms
       rw [List.map_take] at this ⊢
       exact List.mem_of_mem_take (i:=j+1) (by rw [List.take_take,Nat.min_eq_left (by omega)]; exact this))
      rw [if_pos (.inr hm2)] at hc
      rw [hc] at hK
      exact hK _ _ (g1.nx (by omega))
     | false=>
      simp only [bSa,↓bSb,x0,x3,x4,hji,q1,Ad8 r1 h,Ad8 r1 hj2,(Ad1 r1 h).2.2.1,Ah6 (k:=0) r1 h,(Ad1 r1 hj2).2.2.1,Ah6 (k:=0) r1 hj2,r1.rox (show n0≤es2.nx by omega),Aj5 r1 (show n0≤es2.nx by omega),At6 r1 (show n0≤es2.nx by omega),c3,Aa3 (show j < _ by omega)]
      exact ⟨by omega,by rw [ms,c3]; rfl⟩
    ·obtain rfl:j=i:=by omega
     rw [if_neg (by rw [hm,c1]; simp)] at hc
     simp only [bSa,↓bSb,x0,x3,x4,q1,Nat.lt_irrefl,Ad8 r1 h,(Ad1 r1 h).1]
     refine kws (Bp8 (k:=k+2) _ _ _ _ fun hp3 nx3 hal3=>?_)
     have g3:Al hp nx hp3 nx3:=(g1.nx (by omega)).trans hal3
     cases c4:Al1 l[j] with
     | false=>
      simp only [bSa,↓bSb,bP]
      rw [if_pos c4] at hc
      rw [hc] at hK
      exact hK _ _ g3
     | true=>
      simp only [bSa,↓bSb,x0,x3,Aa3 (show j < _ by omega)]
      rw [if_neg (by rw [c4]; simp)] at hc
      exact ⟨h,g3,by rw [Ae8 _ h]; exact hc⟩
   ·simp only [bSa,b0,b3]
    rfl
  ·simp only [bSa,↓bSb,bP,b0,b3,h,r1.len]
   have e:l.drop i=[]:=List.drop_eq_nil_of_le (by omega)
   rw [e] at hc
   rw [hc] at hK
   exact hK _ _ g1
 ·simp only [bSa,a0,e1,e2]
  rfl
end
end Go.DD

/- Contracts: the reference's schemas. Conditions: those that each theorem states. -/
namespace Go.DD
open Go Go.Proofs
theorem A65 {s:ByteArray} {l:List ByteArray} {i:Nat} (h:memB s (l.take i)=true):memB s l=true:=memB_iff.2 (List.mem_of_mem_take (memB_iff.1 h))
section
variable (k n0:Nat) (hp:Tr DObj) (nx:Nat) (K:DV→Tr DObj→Nat→Prop) (d a:DV) (l:List PDim) (m:List PAttr) (hn:n0≤nx) (h1:RL rDim hp (Bl n0) d l) (h2:RL rAttr hp (Bl n0) a m)
include hn h1 h2
theorem B00 (n:Nat) (s:ByteArray) (hl:l.length < 900000) (hnm:n≤m.length) (hm:m.length < 900000) (hK:K (bv (memB s (l.map PDim.name ++ (m.take n).map PAttr.name))) hp nx):KW (kN (k+1)) (.fn 168) [d,a,iv (n:Nat),sv s] hp nx K:=by
 refine kn_1 (Aa2 (by decide)) t168 (Nat.le_of_ble_eq_true rfl) fun es e1 e2 he=>?_
 have a0:rawE es (.t .o)=d:=he 0 _ rfl
 have a1:rawE es (.t (.l .o))=a:=he 1 _ rfl
 have a2:rawE es (.t (.r .o))=iv (n:Nat):=he 2 _ rfl
 have a3:rawE es (.t (.l (.l .o)))=sv s:=he 3 _ rfl
 unfold r168
 simp only [bGa,↓bGb]
 rw [Bz8] at hK
 refine EW.up l.length (fun i es1=>es1.hp=hp∧es1.nx=nx∧rawE es1 (.t .o)=d∧rawE es1 (.t (.l .o))=a∧rawE es1 (.t (.r .o))=iv (n:Nat)∧rawE es1 (.t (.l (.l .o)))=sv s∧rawE es1 (.t (.l (.r (.l .o))))=iv (i:Nat)∧memB s ((l.take i).map PDim.name)=false) ?_ ?_ (by omega)
 ·rintro i es1 hi ⟨g1,g2,b0,b1,b2,b3,b9,hc⟩
  unfold B77
  by_cases h:i < l.length
  ·have ms:=Aw8 s ((l.take i).map PDim.name) l[i].name
   rw [← Ae8 _ h,hc] at ms
   cases c:decide (l[i].name=s) with
   | true=>
    simp only [bSa,↓bSb,bP,b0,b3,b9,h,g1,g2,h1.len,Ad8 h1 h,Ah6 (k:=0) h1 h,(Ad1 h1 h).2.2.1,c]
    rw [c,Bool.or_true,List.map_take] at ms
    rw [A65 ms] at hK
    exact hK
   | false=>
    simp only [bSa,↓bSb,b0,b1,b2,b3,b9,h,g1,g2,h1.len,Ad8 h1 h,Ah6 (k:=0) h1 h,(Ad1 h1 h).2.2.1,c,Aa3 (show i < _ by omega)]
    rw [ms,c]; rfl
  ·have hm1:memB s (l.map PDim.name)=false:=by rwa [List.take_of_length_le (by omega)] at hc
   rw [hm1,Bool.false_or] at hK
   simp only [bSa,↓bSb,b0,b9,h,g1,h1.len]
   refine EW.up n (fun i es1=>es1.hp=hp∧es1.nx=nx∧rawE es1 (.t (.l .o))=a∧rawE es1 (.t (.r .o))=iv (n:Nat)∧rawE es1 (.t (.l (.l .o)))=sv s∧rawE es1 (.t (.r (.r (.l .o))))=iv (i:Nat)∧memB s ((m.take i).map PAttr.name)=false) ?_ ?_ (by omega)
   ·rintro i es2 hi ⟨g1,g2,b1,b2,b3,b10,hc⟩
    unfold B78
    by_cases h:i < n
    ·have h':i < m.length:=by omega
     have ms:=Aw8 s ((m.take i).map PAttr.name) m[i].name
     rw [← Ae8 _ h',hc] at ms
     cases c:decide (m[i].name=s) with
     | true=>
      simp only [bSa,↓bSb,bP,b1,b2,b3,b10,h,g1,g2,Ae6 h2 h',Ai4 (k:=0) h2 h',(Ae5 h2 h').2.2.1,c]
      rw [c,Bool.or_true] at ms
      have:memB s ((m.take n).map PAttr.name)=true:=by
       refine A65 (i:=i+1) ?_
       rw [← List.map_take,List.take_take,Nat.min_eq_left (by omega)]; exact ms
      rw [this] at hK
      exact hK
     | false=>
      simp only [bSa,↓bSb,b1,b2,b3,b10,h,g1,g2,Ae6 h2 h',Ai4 (k:=0) h2 h',(Ae5 h2 h').2.2.1,c,Aa3 (show i < _ by omega)]
      rw [ms,c]; rfl
    ·obtain rfl:i=n:=by omega
     simp only [bSa,↓bSb,bP,b2,b10,Nat.lt_irrefl,g1,g2]
     rw [hc] at hK
     exact hK
   ·simp only [bSa,b1,b2,b3,g1,g2]
    rfl
 ·simp only [bSa,a0,a1,a2,a3,e1,e2]
  rfl
theorem Bi7 (hK:∀ hp' nx',Al hp nx hp' nx'→K (iv (Ae3 l m)) hp' nx'):KW (kN (k+5)) (.fn 132) [d,a] hp nx K:=by
 refine kn_1 (Aa2 (by decide)) t132 (Nat.le_of_ble_eq_true rfl) fun es e1 e2 he=>?_
 have a0:rawE es (.t .o)=d:=he 0 _ rfl
 have a1:rawE es (.t (.l .o))=a:=he 1 _ rfl
 unfold r132
 simp only [bGa,↓bGb,a0,e1,e2]
 refine kws (Bz9 (k:=k) n0 _ _ _ d l hn h1 fun hp2 nx2 hal2=>?_)
 have r3:RL rAttr hp2 (Bl n0) a m:=h2.ka hn hal2
 unfold Ae3 at hK
 simp only [bGa,↓bGb]
 refine cws (fun c=>?_) (fun c=>?_)
 ·have c0:dimsE l≠0:=by simpa using c
  rw [if_pos c0] at hK
  simp only [bGa,↓bGb,bP]
  exact hK _ _ hal2
 ·have c0:dimsE l=0:=by simpa using c
  rw [if_neg (by simp [c0])] at hK
  have hl4:l.length≤4:=by
   unfold dimsE at c0
   by_cases hh:l.length < 1∨4 < l.length
   ·rw [if_pos hh] at c0; cases c0
   ·omega
  simp only [bGa,↓bGb,a1,r3.len]
  refine cws (fun c=>?_) (fun c=>?_)
  ·rw [if_pos (by simp at c; omega)] at hK
   simp only [bGa,↓bGb,bP]
   exact hK _ _ hal2
  ·rw [if_neg (by simp at c; omega)] at hK
   have hlen:m.length≤6:=by simp at c; omega
   simp only [bGa,↓bGb]
   refine EW.up m.length (fun i es1=>Al hp nx es1.hp es1.nx∧rawE es1 (.t .o)=d∧rawE es1 (.t (.l .o))=a∧rawE es1 (.t (.r (.r .o)))=iv (i:Nat)∧As0 (l.map PDim.name) m=As0 (l.map PDim.name ++ (m.take i).map PAttr.name) (m.drop i)) ?_ ?_ (by omega)
   ·rintro i es1 hi ⟨g2,b0,b1,b6,hc⟩
    unfold B69
    have r4:RL rAttr es1.hp (Bl n0) a m:=h2.ka hn g2
    have r5:RL rDim es1.hp (Bl n0) d l:=h1.ka hn g2
    have hle:=g2.le
    by_cases h:i < m.length
    ·rw [Bf1 h] at hc
     simp only [bGa,↓bGb,b1,b6,h,r4.len,Ae6 r4 h,Ai4 (k:=0) r4 h,(Ae5 r4 h).2.2.1]
     refine kws (Be9 (k:=k+1) _ _ _ _ ?_)
     cases c1:nameS m[i].name with
     | false=>
      simp only [bSa,↓bSb,bP]
      rw [if_pos (.inl c1)] at hc
      rw [hc] at hK
      exact hK _ _ g2
     | true=>
      simp only [bSa,↓bSb,b0,b1,b6,Ae6 r4 h,Ai4 (k:=0) r4 h,(Ae5 r4 h).2.2.1]
      refine kws (B00 (k:=k+3) n0 _ _ _ d a l m (by omega) r5 r4 i _ (by omega) (by omega) (by omega) ?_)
      cases c2:memB m[i].name (l.map PDim.name ++ (m.take i).map PAttr.name) with
      | true=>
       simp only [bSa,↓bSb,bP]
       rw [if_pos (.inr c2)] at hc
       rw [hc] at hK
       exact hK _ _ g2
      | false=>
       rw [if_neg (by rw [c1,c2]; simp)] at hc
       simp only [bGa,↓bGb,b1,b6,Ae6 r4 h,Ai4 (k:=1) r4 h,(Ae5 r4 h).2.2.2]
       refine cws (fun c3=>?_) (fun c3=>?_)
       ·rw [if_pos (by simpa using c3)] at hc
        rw [hc] at hK
        simp only [bGa,↓bGb,bP]
        exact hK _ _ g2
       ·rw [if_neg (by simpa using c3)] at hc
        simp only [bGa,↓bGb,b0,b1,b6,h,Aa3 (show i < _ by omega)]
        exact ⟨g2,by rw [Ae8 _ h,← List.append_assoc]; exact hc⟩
    ·simp only [bGa,↓bGb,bP,b1,b6,h,r4.len]
     have e:m.drop i=[]:=List.drop_eq_nil_of_le (by omega)
     rw [e] at hc
     rw [hc] at hK
     exact hK _ _ g2
   ·simp only [bGa,a0,a1]
    exact ⟨hal2,by simp⟩
end
end Go.DD

/- Contracts: natural numbers of few digits, greatest common divisors. Conditions: those that each theorem states. -/
namespace Go.DD
open Go Go.Proofs
def rU:Rep Nat:=rFlat 1 251 (fun n=>[.v (.int .u32 (n:Int))]) (by decide) (fun _=>rfl) fun x c h=>by
 obtain rfl:=List.mem_singleton.1 h
 exact ⟨rfl,⟨rfl,rfl⟩,fun n h=>by
  obtain ⟨n,rfl⟩:∃ k,n=k+1:=⟨n - 1,by omega⟩
  simp [Ab1,sameV]⟩
def natD (n:Nat):List Nat:=if h:n=0 then [] else (n % 1000000000) :: natD (n / 1000000000)
termination_by n
decreasing_by omega
def valB:List Nat→Nat
 | []=>0
 | d :: l=>d+1000000000*valB l
theorem Az3:natD 0=[]:=by unfold natD; simp
theorem Az4 {n:Nat} (h:n≠0):natD n=(n % 1000000000) :: natD (n / 1000000000):=by
 conv=>lhs; unfold natD
 rw [dif_neg h]
theorem Ak3 (n:Nat):valB (natD n)=n:=by
 induction n using Nat.strongRecOn with
 | _ n ih=>
  by_cases h:n=0
  ·subst h; rw [Az3]; rfl
  ·rw [Az4 h,valB,ih _ (by omega)]; omega
theorem Bq0 (n:Nat):∀ x∈natD n,x < 1000000000:=by
 induction n using Nat.strongRecOn with
 | _ n ih=>
  by_cases h:n=0
  ·subst h; rw [Az3]; intro x hx; cases hx
  ·rw [Az4 h]
   intro x hx
   rcases List.mem_cons.1 hx with rfl | hx
   ·omega
   ·exact ih _ (by omega) x hx
theorem At8 {k:Nat} : ∀ {n:Nat},n < 1000000000 ^ k→(natD n).length≤k:=by
 induction k with
 | zero=>(intro n h; have:n=0:=by simpa using h); subst this; rw [Az3]; simp
 | succ k ih=>
  intro n h
  by_cases h0:n=0
  ·subst h0; rw [Az3]; simp
  ·rw [Az4 h0,List.length_cons]
   have:=ih (n:=n / 1000000000) (by rw [Nat.pow_succ] at h; exact Nat.div_lt_of_lt_mul (by rw [Nat.mul_comm]; exact h))
   omega
theorem B01 {a b:Nat} (h:natD a=natD b):a=b:=by rw [← Ak3 a,← Ak3 b,h]
theorem valB2 {l:List Nat} (h:l.length≤2):l.getD 0 0+1000000000*l.getD 1 0=valB l:=by
 match l,h with
 | [],_=>rfl
 | [a],_=>rfl
 | [a,b],_=>simp [valB]
theorem us_ia {hp:Tr DObj} {p:Nat→Prop} {d:DV} {l:List Nat} (h:RL rU hp p d l) {i:Nat} (hi:i < l.length):iaD hp 1 d (.v (.int .i64 (i:Int)))=some (adrE 1 d i):=h.ia hi
theorem An9 {hp:Tr DObj} {n0 n m i:Nat} {an:List Nat} {d:DV} {l:List Nat} (h:RL rU hp (Bl n0) d l) (hn:n0≤n):Aa6 (adrE 1 d i) (fun id=>okRef n m an hp id)↔True:=iff_true_intro (h.roax hn)
theorem us_at {hp:Tr DObj} {p:Nat→Prop} {d:DV} {l:List Nat} (h:RL rU hp p d l) {i:Nat} (hi:i < l.length):ldD hp none (adrE 1 d i)=some (.v (.int .u32 (l.getD i 0:Nat))):=by
 obtain ⟨ds,hr,_,h2,_⟩:=h.at hi
 have:ds=[.v (.int .u32 ((l[i]:Nat):Int))]:=hr
 rw [List.getD,List.getElem?_eq_getElem hi]
 exact h2 _ (by rw [this]; rfl)
theorem Co8 {k:IntKind} (a:Nat):binD .rem (.v (.int k (a:Int))) (.v (.int k 1000000000))=some (.v (.int k ((a % 1000000000:Nat):Int))):=Bp3 (b:=1000000000) (by decide)
theorem Co9 {a:Nat} (h:a < 18446744073709551616):binD .quo (.v (.int .u64 (a:Int))) (.v (.int .u64 1000000000))=some (.v (.int .u64 ((a / 1000000000:Nat):Int))):=B66 (b:=1000000000) (by decide) h
section
variable (k:Nat) (hp:Tr DObj) (nx:Nat) (K:DV→Tr DObj→Nat→Prop)
theorem Ak4 (n:Nat) (hn:n < 9223372036854775808) (hK:∀ hp' nx' d',Al hp nx hp' nx'→RL rU hp' (Bw nx nx') d' (natD n)→K d' hp' nx'):KW (kN (k+1)) (.fn 216) [.v (.int .u64 (n:Int))] hp nx K:=by
 refine kn_1 (Aa2 (by decide)) t216 (Nat.le_of_ble_eq_true rfl) fun es e1 e2 he=>?_
 have a0:rawE es (.t .o)=.v (.int .u64 (n:Int)):=he 0 _ rfl
 unfold r216
 simp only [bSa,↓bSb]
 refine EW.l (I:=fun m es1=>∃ n' out d3,m=(natD n').length∧n'≤n∧out.length+(natD n').length≤7∧rawE es1 (.t .o)=.v (.int .u64 (n':Int))∧rawE es1 (.t (.l (.l .o)))=d3∧OL rU es1.hp (fun _=>False) d3 out∧Rng nx es1.nx d3∧Al hp nx es1.hp es1.nx∧out ++ natD n'=natD n) ?_ (natD n).length 1000000 _ ?_ ?_
 ·rintro m es1 ⟨n',out,d3,hm,hle,hol,b0,b3,ho,hr,hal,he⟩
  subst hm
  unfold B85
  by_cases h0:n'=0
  ·subst h0
   rw [Az3,List.append_nil] at he
   subst he
   simp only [bSa,↓bSb,bP,b0,b3,ho.rl.live,Int.lt_irrefl]
   exact hK _ _ _ hal (ho.rl.mono fun j hj=>hj.elim (fun h=>h.elim) fun h=>hr j h)
  ·have hpos:(0:Int) < (n':Int):=by omega
   have hmod:n' % 1000000000 < 1000000000:=Nat.mod_lt _ (by decide)
   simp only [bSa,↓bSb,bP,b0,b3,hpos,Co8,Cf3 (show n' % 1000000000 < _ by omega)]
   refine Ah5 (fl:=[.v (.int .u32 ((n' % 1000000000:Nat):Int))]) rfl (by simp only [List.map_cons,List.map_nil,n_ev,bR,bP,Aj0]; rfl) fun hp1 hg1 hk1=>?_
   simp only [bR] at hg1 hk1
   have hle2:=hal.le
   have ho1:OL rU hp1 (fun _=>False) d3 out:=ho.keep fun j hj=>hk1 j (by rcases hj with h | h; exact h.elim; have:=hr j h; omega)
   simp only [bSa,↓bSb]
   rw [Az4 h0] at hol he
   simp only [List.length_cons] at hol
   refine Ad7 (d:=d3) (l:=out) (d2:=.ms es1.nx 0 1 1) (m:=[n' % 1000000000]) (by simp only [bR,bP]) ho1 (by simp only [n_ev,bR,bP]; exact Ah4 hg1) (Aw6 (p:=fun _=>False) (x:=n' % 1000000000) hg1 rfl) rfl rfl (by simp; omega) (by decide) fun hp2 hk2 h2=>?_
   simp only [bR] at hk2 h2
   simp only [bSa,↓bSb,b0,Co9 (show n' < _ by omega)]
   refine ⟨(natD (n' / 1000000000)).length,by rw [Az4 h0]; simp,n' / 1000000000,out ++ [n' % 1000000000],_,rfl,by omega,by simp; omega,rfl,rfl,?_,?_,⟨by omega,fun j hj=>?_⟩,by rw [List.append_assoc]; exact he⟩
   ·exact h2 (fun _=>False) (fun j hj=>hj.elim (fun h=>h.elim) fun h=>h.elim)
   ·exact Rng.ms (by omega) (by omega)
   ·rw [hk2 j (by omega) (fun h=>by have:=hr j h; omega),hk1 j (by omega),hal.same j hj]
 ·simp only [bSa,a0,e1,e2]
  have:(natD n).length≤3:=At8 (by (have:(9223372036854775808:Nat)≤1000000000 ^ 3:=by decide); omega)
  exact ⟨n,[],nilS,rfl,Nat.le_refl _,by simp; omega,rfl,rfl,.nil,Rng.nil _ _,rfl⟩
 ·have:(natD n).length≤3:=At8 (by (have:(9223372036854775808:Nat)≤1000000000 ^ 3:=by decide); omega)
  omega
theorem Bq1 (n:Int) (hn : -9000000000000000000 < n∧n < 9000000000000000000) (hK:∀ hp' nx' d',Al hp nx hp' nx'→RL rU hp' (Bw nx nx') d' (natD n.natAbs)→K d' hp' nx'):KW (kN (k+2)) (.fn 215) [iv n] hp nx K:=by
 refine kn_1 (Aa2 (by decide)) t215 (Nat.le_of_ble_eq_true rfl) fun es e1 e2 he=>?_
 have a0:rawE es (.t .o)=iv n:=he 0 _ rfl
 unfold r215
 by_cases c:n < 0
 ·have hc:cviE .u64 (.v (.int .i64 n))=some (.v (.int .u64 (n+18446744073709551616))):=by
   show some (DV.v (.int .u64 (IntKind.u64.wrap n)))=_
   congr 3
   simp [IntKind.wrap,IntKind.bits,IntKind.signed]; omega
  have hs:binD .sub (.v (.int .u64 0)) (.v (.int .u64 (n+18446744073709551616)))=some (.v (.int .u64 (n.natAbs:Nat))):=by
   rw [b_sub]
   congr 3
   simp [IntKind.wrap,IntKind.bits,IntKind.signed]; omega
  simp only [bSa,↓bSb,bP,a0,e1,e2,c,hc,hs]
  refine kws (Ak4 k _ _ _ n.natAbs (by omega) fun hp' nx' d' hal hr=>?_)
  simp only [bSa,↓bSb,bP,hr.live]
  exact hK _ _ _ hal hr
 ·have hc:cviE .u64 (.v (.int .i64 n))=some (.v (.int .u64 (n.natAbs:Nat))):=by
   show some (DV.v (.int .u64 (IntKind.u64.wrap n)))=_
   congr 3
   simp [IntKind.wrap,IntKind.bits,IntKind.signed]; omega
  simp only [bSa,↓bSb,bP,a0,e1,e2,c,hc]
  refine kws (Ak4 k _ _ _ n.natAbs (by omega) fun hp' nx' d' hal hr=>?_)
  simp only [bSa,↓bSb,bP,hr.live]
  exact hK _ _ _ hal hr
theorem Bf2 (p:Nat→Prop) (d:DV) (l:List Nat) (i:Nat) (h:RL rU hp p d l) (hl:∀ x∈l,x < 4294967296) (hK:K (.v (.int .u64 (l.getD i 0:Nat))) hp nx):KW (kN (k+1)) (.fn 235) [d,iv (i:Nat)] hp nx K:=by
 refine kn_1 (Aa2 (by decide)) t235 (Nat.le_of_ble_eq_true rfl) fun es e1 e2 he=>?_
 have a0:rawE es (.t .o)=d:=he 0 _ rfl
 have a1:rawE es (.t (.l .o))=iv (i:Nat):=he 1 _ rfl
 unfold r235
 by_cases c:i < l.length
 ·have hlt:l.getD i 0 < 4294967296:=by
   rw [List.getD,List.getElem?_eq_getElem c]
   exact hl _ (List.getElem_mem c)
  have hc:cviE .u64 (.v (.int .u32 (l.getD i 0:Nat)))=some (.v (.int .u64 (l.getD i 0:Nat))):=A26 (by omega)
  simp only [bSa,↓bSb,bP,a0,a1,e1,e2,h.len,c,us_ia h c,us_at h c,hc]
  exact hK
 ·have:l.getD i 0=0:=by rw [List.getD,List.getElem?_eq_none (by omega)]; rfl
  rw [this] at hK
  simp only [bSa,↓bSb,bP,a0,a1,e1,e2,h.len,c]
  exact hK
theorem At9 (p:Nat→Prop) (d:DV) (l:List Nat) (h:RL rU hp p d l) (hl:∀ x∈l,x < 1000000000) (h2:l.length≤2) (hK:K (.v (.int .u64 (valB l:Nat))) hp nx):KW (kN (k+2)) (.fn 231) [d] hp nx K:=by
 refine kn_1 (Aa2 (by decide)) t231 (Nat.le_of_ble_eq_true rfl) fun es e1 e2 he=>?_
 have a0:rawE es (.t .o)=d:=he 0 _ rfl
 unfold r231
 have hd:∀ i,l.getD i 0 < 1000000000:=fun i=>by
  by_cases c:i < l.length
  ·rw [List.getD,List.getElem?_eq_getElem c]; exact hl _ (List.getElem_mem c)
  ·rw [List.getD,List.getElem?_eq_none (by omega)]; decide
 have hl':∀ x∈l,x < 4294967296:=fun x hx=>by have:=hl x hx; omega
 rw [← valB2 h2] at hK
 have d0:=hd 0
 have d1:=hd 1
 simp only [bSa,↓bSb,a0,e1,e2]
 refine kws (Bf2 k _ _ _ p d l 0 h hl' ?_)
 simp only [bSa,↓bSb,a0]
 refine kws (Bf2 k _ _ _ p d l 1 h hl' ?_)
 generalize l.getD 0 0=x at *
 generalize l.getD 1 0=y at *
 have hm:binD .mul (.v (.int .u64 1000000000)) (.v (.int .u64 (y:Int)))=some (.v (.int .u64 ((1000000000*y:Nat):Int))):=by
  rw [b_mul,IntWalk.u64_in _ (by omega)]; rfl
 have ha:binD .add (.v (.int .u64 (x:Int))) (.v (.int .u64 ((1000000000*y:Nat):Int)))=some (.v (.int .u64 ((x+1000000000*y:Nat):Int))):=by
  rw [b_add,IntWalk.u64_in _ (by omega)]; rfl
 simp only [bSa,↓bSb,bP,hm,ha]
 exact hK
theorem B02 (d1 d2:DV) (l m:List Nat) (n0:Nat) (hn:n0≤nx) (h1:RL rU hp (Bl n0) d1 l) (h2:RL rU hp (Bl n0) d2 m) (hl:∀ x∈l,x < 1000000000) (hm:∀ x∈m,x < 1000000000) (hl2:l.length≤2) (hm2:m.length≤2) (h0:valB m≠0) (hlt:valB l < 9000000000000000000)
  (hK:∀ hp' nx' q r,Al hp nx hp' nx'→RL rU hp' (Bw nx nx') q (natD (valB l / valB m))→RL rU hp' (Bw nx nx') r (natD (valB l % valB m))→K (.tup [q,r]) hp' nx'):KW (kN (k+3)) (.fn 227) [d1,d2] hp nx K:=by
 refine kn_2 (Aa2 (by decide)) t227 (Nat.le_of_ble_eq_true rfl) fun es e1 e2 he=>?_
 have a0:rawE es (.t .o)=d1:=he 0 _ rfl
 have a1:rawE es (.t (.l .o))=d2:=he 1 _ rfl
 unfold r227
 have c1:(l.length:Int)≤2:=by omega
 have c2:(m.length:Int)≤2:=by omega
 have hdv:valB l / valB m≤valB l:=Nat.div_le_self _ _
 have hmd:valB l % valB m≤valB l:=Nat.mod_le _ _
 simp only [bSa,↓bSb,a0,a1,e1,e2,h1.len,h2.len,c1,c2]
 refine kws (At9 (k+1 - 1) _ _ _ _ d1 l h1 hl hl2 ?_)
 simp only [bSa,↓bSb,a1]
 refine kws (At9 (k+1 - 1) _ _ _ _ d2 m h2 hm hm2 ?_)
 simp only [bSa,↓bSb,B66 h0 (show valB l < _ by omega)]
 refine kws (Ak4 (k+1) _ _ _ _ (by omega) fun hp3 nx3 q hal3 hq=>?_)
 have r1:RL rU hp3 (Bl n0) d1 l:=h1.ka hn hal3
 have r2:RL rU hp3 (Bl n0) d2 m:=h2.ka hn hal3
 simp only [bSa,↓bSb,a0]
 refine kws (At9 (k+1 - 1) _ _ _ _ d1 l r1 hl hl2 ?_)
 simp only [bSa,↓bSb,a1]
 refine kws (At9 (k+1 - 1) _ _ _ _ d2 m r2 hm hm2 ?_)
 simp only [bSa,↓bSb,Bp3 h0]
 refine kws (Ak4 (k+1) _ _ _ _ (by omega) fun hp4 nx4 r hal4 hr=>?_)
 have hle:=hal3.le
 have hle2:=hal4.le
 have hq':RL rU hp4 (Bw nx nx4) q (natD (valB l / valB m)):=(hq.keep fun j hj=>hal4.same j hj.2).mono fun j hj=>⟨hj.1,Nat.lt_of_lt_of_le hj.2 hle2⟩
 have hr':RL rU hp4 (Bw nx nx4) r (natD (valB l % valB m)):=hr.mono fun j hj=>⟨Nat.le_trans hle hj.1,hj.2⟩
 simp only [bSa,↓bSb,bP,hq'.live,hr'.live]
 exact hK _ _ _ _ (hal3.trans hal4) hq' hr'
end
end Go.DD

/- Contracts: greatest common divisors; what values are valid, by the program. Conditions: those that each theorem states. -/
namespace Go.DD
open Go Go.Proofs
theorem ext2 {α β:Type} {A:Rep α} {B:Rep β} {hp:Tr DObj} {p q:Nat→Prop} {a b:DV} {l:List α} {m:List β} (h1:RL A hp p a l) (h2:RL B hp q b m):extD hp (.tup [a,b]) 0=some a∧extD hp (.tup [a,b]) 1=some b:=by
 have:∀ id∈DV.refsL [a,b],(hp.get id).isSome=true:=fun id hid=>by
  have:id∈a.refs∨id∈b.refs:=by simpa [DV.refsL] using hid
  exact this.elim (fun h=>(h1.refs id h).2) fun h=>(h2.refs id h).2
 exact ⟨Ao4 this,Ao4 this⟩
theorem Bf3 (a b:Nat):Nat.gcd b (a % b)=Nat.gcd a b:=by rw [Nat.gcd_comm b,← Nat.gcd_rec,Nat.gcd_comm]
theorem B03 {a b:Nat} (h:b≤a) (hb:b≠0):2*(a % b)≤a:=by
 have h1:=Nat.mod_lt a (show b > 0 by omega)
 have h2:=Nat.div_add_mod a b
 have h3:1≤a / b:=(Nat.le_div_iff_mul_le (by omega)).2 (by omega)
 have h4:b*1≤b*(a / b):=Nat.mul_le_mul_left b h3
 omega
def GM (m a b:Nat):Prop:=(b≤a∧a*b < 2 ^ m)∨(a < b∧∃ m',m=m'+1∧a*b < 2 ^ m')
theorem GM.ini {a b:Nat} (ha:a < 2 ^ 50) (hb:b < 2 ^ 50):GM 101 a b:=by
 have hab:a*b < 2 ^ 100:=by
  have:a*b≤2 ^ 50*b:=Nat.mul_le_mul_right b (by omega)
  have h2:2 ^ 50*b < 2 ^ 50*2 ^ 50:=Nat.mul_lt_mul_of_pos_left hb (by decide)
  have h3:(2:Nat) ^ 50*2 ^ 50=2 ^ 100:=by decide
  omega
 by_cases h:b≤a
 ·exact .inl ⟨h,by rw [show (2:Nat) ^ 101=2 ^ 100*2 from rfl]; omega⟩
 ·exact .inr ⟨by omega,100,rfl,hab⟩
theorem GM.step {m a b:Nat} (h:GM m a b) (h0:b≠0):∃ m',m' < m∧GM m' b (a % b):=by
 have hlt:=Nat.mod_lt a (show b > 0 by omega)
 rcases h with ⟨h1,h2⟩ | ⟨h1,m',rfl,h2⟩
 ·have hh:=B03 h1 h0
  have ha':1≤a*b:=Nat.mul_pos (by omega) (by omega)
  cases m with
  | zero=>simp at h2; omega
  | succ m=>
   refine ⟨m,by omega,.inl ⟨by omega,?_⟩⟩
   have h3:2*(b*(a % b))≤a*b:=by
    rw [show 2*(b*(a % b))=(2*(a % b))*b by rw [Nat.mul_comm b,Nat.mul_assoc]]
    exact Nat.mul_le_mul_right b hh
   rw [Nat.pow_succ] at h2
   omega
 ·refine ⟨m',by omega,.inl ⟨by omega,?_⟩⟩
  rw [Nat.mod_eq_of_lt h1,Nat.mul_comm]
  exact h2
section
variable (k:Nat) (hp:Tr DObj) (nx:Nat) (K:DV→Tr DObj→Nat→Prop)
theorem Cp0 (a b:Nat) (ha:a < 2 ^ 50) (hb:b < 2 ^ 50) (hK:∀ nx',nx≤nx'→K (iv (Nat.gcd a b:Nat)) hp nx'):KW (kN (k+1)) (.fn 182) [iv (a:Nat),iv (b:Nat)] hp nx K:=by
 refine kn_1 (Aa2 (by decide)) t182 (Nat.le_of_ble_eq_true rfl) fun es e1 e2 he=>?_
 have a0:rawE es (.t .o)=iv (a:Nat):=he 0 _ rfl
 have a1:rawE es (.t (.l .o))=iv (b:Nat):=he 1 _ rfl
 unfold r182
 simp only [bSa,↓bSb]
 refine EW.l (I:=fun m es1=>∃ a' b',GM m a' b'∧es1.hp=hp∧nx≤es1.nx∧rawE es1 (.t .o)=iv (a':Nat)∧rawE es1 (.t (.l .o))=iv (b':Nat)∧Nat.gcd a' b'=Nat.gcd a b) ?_ 101 1000000 _ ?_ (by omega)
 ·rintro m es1 ⟨a',b',hm,g1,g2,q0,q1,hg⟩
  unfold B81
  by_cases h0:b'=0
  ·subst h0
   simp only [bSa,↓bSb,bP,q0,q1]
   rw [Nat.gcd_zero_right] at hg
   rw [g1,hg]
   exact hK _ g2
  ·have h0':¬ (b':Int)=0:=by omega
   simp only [bSa,↓bSb,q0,q1,h0',Bp3 h0]
   obtain ⟨m',h1,h2⟩:=hm.step h0
   exact ⟨m',h1,b',a' % b',h2,g1,by omega,rfl,rfl,by rw [Bf3,hg]⟩
 ·exact ⟨a,b,GM.ini ha hb,by simp only [bSa,e1],by simp only [bSa,e2],by simp only [bSa,a0],by simp only [bSa,a1],rfl⟩
theorem Bq2 (P:Nat→Prop) (hP:∀ j,P j→j < nx) (d1 d2:DV) (a b:Nat) (h1:RL rU hp P d1 (natD a)) (h2:RL rU hp P d2 (natD b)) (ha:a < 2 ^ 50) (hb:b < 2 ^ 50) (hK:∀ hp' nx' d',Al hp nx hp' nx'→RL rU hp' (fun j=>P j∨Bw nx nx' j) d' (natD (Nat.gcd a b))→K d' hp' nx'):KW (kN (k+4)) (.fn 214) [d1,d2] hp nx K:=by
 refine kn_1 (Aa2 (by decide)) t214 (Nat.le_of_ble_eq_true rfl) fun es e1 e2 he=>?_
 have a0:rawE es (.t .o)=d1:=he 0 _ rfl
 have a1:rawE es (.t (.l .o))=d2:=he 1 _ rfl
 unfold r214
 simp only [bSa,↓bSb]
 refine EW.l (I:=fun m es1=>∃ a' b' x y,GM m a' b'∧a' < 2 ^ 50∧b' < 2 ^ 50∧Al hp nx es1.hp es1.nx∧rawE es1 (.t .o)=x∧rawE es1 (.t (.l .o))=y∧RL rU es1.hp (fun j=>P j∨Bw nx es1.nx j) x (natD a')∧RL rU es1.hp (fun j=>P j∨Bw nx es1.nx j) y (natD b')∧Nat.gcd a' b'=Nat.gcd a b) ?_ 101 1000000 _ ?_ (by omega)
 ·rintro m es1 ⟨a',b',x,y,hm,ha',hb',hal,q0,q1,r1,r2,hg⟩
  unfold B84
  by_cases h0:b'=0
  ·subst h0
   have c:¬ (0:Int) < ((natD 0).length:Int):=by rw [Az3]; simp
   simp only [bSa,↓bSb,bP,q0,q1,r2.len,c,r1.live]
   rw [Nat.gcd_zero_right] at hg
   rw [hg] at r1
   exact hK _ _ _ hal r1
  ·have c:(0:Int) < ((natD b').length:Int):=by rw [Az4 h0]; simp
   have h50:(2:Nat) ^ 50=1125899906842624:=by decide
   have hl2:∀ n,n < 2 ^ 50→(natD n).length≤2:=fun n h=>At8 (by rw [show (1000000000:Nat) ^ 2=1000000000000000000 by decide]; omega)
   simp only [bSa,↓bSb,q0,q1,r2.len,c]
   have hbl:∀ j,(P j∨Bw nx es1.nx j)→Bl es1.nx j:=fun j hj=>hj.elim (fun h=>by have:=hP j h; have:=hal.le; show j < es1.nx; omega) fun h=>h.2
   refine kws (B02 (k:=k) _ _ _ x y (natD a') (natD b') es1.nx (Nat.le_refl _) (r1.mono hbl) (r2.mono hbl) (Bq0 _) (Bq0 _) (hl2 _ ha') (hl2 _ hb') (by rw [Ak3]; exact h0) (by rw [Ak3]; omega) fun hp3 nx3 q r hal3 hq hr=>?_)
   rw [Ak3,Ak3] at hq hr
   obtain ⟨x0,x1⟩:=ext2 hq hr
   have hmod:=Nat.mod_lt a' (show b' > 0 by omega)
   have hle:=hal3.le
   simp only [bSa,↓bSb,q1,x0,x1]
   obtain ⟨m',h1,h2⟩:=hm.step h0
   exact ⟨m',h1,b',a' % b',y,r,h2,hb',by omega,hal.trans hal3,rfl,rfl,(r2.keep fun j hj=>hal3.same j (hbl j hj)).mono (fun j hj=>hj.imp id fun h=>⟨h.1,Nat.lt_of_lt_of_le h.2 hle⟩),hr.mono (fun j hj=>.inr ⟨Nat.le_trans hal.le hj.1,hj.2⟩),by rw [Bf3,hg]⟩
 ·exact ⟨a,b,d1,d2,GM.ini ha hb,ha,hb,by simp only [bSa,e1,e2],by simp only [bSa,a0],by simp only [bSa,a1],by simp only [bSa,e1,e2]; exact h1.mono fun _ h=>.inl h,by simp only [bSa,e1,e2]; exact h2.mono fun _ h=>.inl h,rfl⟩
theorem B04 {l m:List Nat} {j:Nat} (hl:l.length=m.length) (hj:j < l.length) (h:l.drop (j+1)=m.drop (j+1)) (he:l.getD j 0=m.getD j 0):l.drop j=m.drop j:=by
 rw [List.drop_eq_getElem_cons hj,List.drop_eq_getElem_cons (by omega:j < m.length),h]
 rw [List.getD,List.getD,List.getElem?_eq_getElem hj,List.getElem?_eq_getElem (by omega:j < m.length)] at he
 simp only [Option.getD_some] at he
 rw [he]
theorem B05 (n0:Nat) (d1 d2:DV) (l m:List Nat) (hn:n0≤nx) (h1:RL rU hp (Bl n0) d1 l) (h2:RL rU hp (Bl n0) d2 m) (hl:l.length < 900000) (hK:∀ r nx',nx≤nx'→(r=0↔l=m)→K (iv r) hp nx'):KW (kN (k+1)) (.fn 213) [d1,d2] hp nx K:=by
 refine kn_1 (Aa2 (by decide)) t213 (Nat.le_of_ble_eq_true rfl) fun es e1 e2 he=>?_
 have a0:rawE es (.t .o)=d1:=he 0 _ rfl
 have a1:rawE es (.t (.l .o))=d2:=he 1 _ rfl
 unfold r213
 by_cases c:l.length=m.length
 ·have hsub:binD .sub (.v (.int .i64 (l.length:Int))) (.v (.int .i64 1))=some (.v (.int .i64 ((l.length:Int) - 1))):=by rw [b_sub,wrap_in (by omega)]
  simp only [bSa,↓bSb,a0,a1,e1,h1.len,h2.len,show decide (¬ l.length=m.length)=false by simp [c],hsub]
  refine EW.l (I:=fun j es1=>j≤l.length∧es1.hp=hp∧nx≤es1.nx∧rawE es1 (.t .o)=d1∧rawE es1 (.t (.l .o))=d2∧rawE es1 (.t (.l (.r .o)))=iv ((j:Int) - 1)∧l.drop j=m.drop j) ?_ l.length 1000000 _ ?_ (by omega)
  ·rintro j es1 ⟨hj,g1,g2,q0,q1,q5,hd⟩
   unfold B83
   cases j with
   | zero=>
    have q5:rawE es1 (.t (.l (.r .o)))=iv (-1):=q5
    have c0:¬ (0:Int)≤-1:=by omega
    simp only [bSa,↓bSb,bP,q5,c0,g1]
    exact hK 0 _ g2 ⟨fun _=>by simpa using hd,fun _=>rfl⟩
   | succ j=>
    have c0:(0:Int)≤(j:Int):=by omega
    have hj1:(((j+1:Nat):Int) - 1)=(j:Int):=by omega
    have hj2:j < m.length:=by omega
    rw [hj1] at q5
    have hsub2:binD .sub (.v (.int .i64 (j:Int))) (.v (.int .i64 1))=some (.v (.int .i64 ((j:Int) - 1))):=by rw [b_sub,wrap_in (by omega)]
    by_cases c1:l.getD j 0 < m.getD j 0
    ·simp only [bSa,↓bSb,bP,q0,q1,q5,c0,g1,us_ia h1 hj,us_ia h2 hj2,us_at h1 hj,us_at h2 hj2,h1.rox (show n0≤es1.nx by omega),h2.rox (show n0≤es1.nx by omega),An9 h1 (show n0≤es1.nx by omega),An9 h2 (show n0≤es1.nx by omega),c1]
     refine hK (-1) _ (by omega) ⟨fun h=>(by cases h),fun h=>absurd (congrArg (fun x=>x.getD j 0) h) (fun e=>by have e:l.getD j 0=m.getD j 0:=e; omega)⟩
    ·by_cases c2:m.getD j 0 < l.getD j 0
     ·simp only [bSa,↓bSb,bP,q0,q1,q5,c0,g1,us_ia h1 hj,us_ia h2 hj2,us_at h1 hj,us_at h2 hj2,h1.rox (show n0≤es1.nx by omega),h2.rox (show n0≤es1.nx by omega),An9 h1 (show n0≤es1.nx by omega),An9 h2 (show n0≤es1.nx by omega),c1,c2,h1.rox (show n0≤es1.nx+9 by omega),h2.rox (show n0≤es1.nx+9 by omega),An9 h1 (show n0≤es1.nx+9 by omega),An9 h2 (show n0≤es1.nx+9 by omega)]
      refine hK 1 _ (by omega) ⟨fun h=>(by cases h),fun h=>absurd (congrArg (fun x=>x.getD j 0) h) (fun e=>by have e:l.getD j 0=m.getD j 0:=e; omega)⟩
     ·simp only [bSa,↓bSb,q0,q1,q5,c0,g1,us_ia h1 hj,us_ia h2 hj2,us_at h1 hj,us_at h2 hj2,h1.rox (show n0≤es1.nx by omega),h2.rox (show n0≤es1.nx by omega),An9 h1 (show n0≤es1.nx by omega),An9 h2 (show n0≤es1.nx by omega),c1,c2,h1.rox (show n0≤es1.nx+9 by omega),h2.rox (show n0≤es1.nx+9 by omega),An9 h1 (show n0≤es1.nx+9 by omega),An9 h2 (show n0≤es1.nx+9 by omega),hsub2]
      exact ⟨j,by omega,by omega,by omega,rfl,B04 c hj hd (by omega)⟩
  ·simp only [bSa,a0,a1,e1,e2]
   rw [List.drop_eq_nil_of_le (Nat.le_refl _),List.drop_eq_nil_of_le (by omega)]
 ·have hne:¬ l=m:=fun e=>c (by rw [e])
  by_cases c1:l.length < m.length
  ·simp only [bSa,↓bSb,bP,a0,a1,e1,e2,h1.len,h2.len,c,c1]
   exact hK (-1) _ (Nat.le_refl _) ⟨fun h=>(by cases h),fun h=>absurd h hne⟩
  ·simp only [bSa,↓bSb,bP,a0,a1,e1,e2,h1.len,h2.len,c,c1]
   exact hK 1 _ (Nat.le_refl _) ⟨fun h=>(by cases h),fun h=>absurd h hne⟩
end
end Go.DD

/- Contracts: what values are valid, by the program. Conditions: those that each theorem states. -/
namespace Go.DD
open Go Go.Proofs
section
variable {call:CallT} {es:ES} {Q:ES→Prop} {dst:Option Pa} {q:Hold (ES→Prop)}
theorem z_rgs {x:Operand} : SW (sU dst (xAny (.rgs x))) call es Q↔@SWs (sU dst (xAny (.rgs x))) call es ⟨Q⟩:=Iff.rfl
theorem z_nxs {x:Operand} : SW (sU dst (xAny (.nxs x))) call es Q↔@SWs (sU dst (xAny (.nxs x))) call es ⟨Q⟩:=Iff.rfl
theorem Cg2 {x:Operand} {s:ByteArray} (e:es.ds.ev x=sv s) (h:∀ hp',hp'.get es.nx=some (.siter s 0)→(∀ j,j≠es.nx→hp'.get j=es.hp.get j)→q.val ((ES.mk es.sl hp' (es.nx+1)).putE dst (.pt es.nx 0))):SWs (sU dst (xAny (.rgs x))) call es:=by
 show SW _ _ _ _
 rw [sw_u,x_any]
 refine ⟨.pt es.nx 0,.lay (.siter s 0),?_,h (es.up (.lay (.siter s 0))).hp (by rw [Al5,get_set,if_pos rfl]) fun j hj=>by rw [Al5,get_set,if_neg hj]⟩
 simp only [execU,e]
theorem Cg3 {x:Operand} {s:ByteArray} {id pos:Nat} (e:es.ds.ev x=.pt id 0) (hg:es.hp.get id=some (.siter s pos))
  (h1:¬ pos < s.size→q.val (es.putE dst (.tup [.v (.bool false)])))
  (h2:∀ hp',pos < s.size→hp'.get id=some (.siter s (pos+(Utf8.decode s pos).2))→(∀ j,j≠id→hp'.get j=es.hp.get j)→q.val ((ES.mk es.sl hp' es.nx).putE dst (.tup [.v (.bool true),.v (.int .i64 (pos:Nat)),.v (.int .i32 ((Utf8.decode s pos).1:Nat))]))):SWs (sU dst (xAny (.nxs x))) call es:=by
 show SW _ _ _ _
 rw [sw_u,x_any]
 have hx:execU es.nx es.ds (.nxs x)=if pos < s.size then some (.tup [.v (.bool true),.v (.int .i64 (pos:Nat)),.v (.int .i32 ((Utf8.decode s pos).1:Nat))],.wr id (.siter s (pos+(Utf8.decode s pos).2))) else some (.tup [.v (.bool false)],.keep):=by
  simp only [execU,e]
  show (match es.hp.get id with
   | some (.siter t pos)=>if pos < t.size then some (DV.tup [.v (.bool true),.v (.int .i64 (pos:Nat)),.v (.int .i32 ((Utf8.decode t pos).1:Nat))],Upd.wr id (.siter t (pos+(Utf8.decode t pos).2))) else some (.tup [.v (.bool false)],.keep)
   | _=>none)=_
  rw [hg]
 rw [hx]
 by_cases h:pos < s.size
 ·rw [if_pos h]
  exact ⟨_,_,rfl,h2 (es.up (.wr id (.siter s (pos+(Utf8.decode s pos).2)))).hp h (by rw [up_wr,get_set,if_pos rfl]) fun j hj=>by rw [up_wr,get_set,if_neg hj]⟩
 ·rw [if_neg h]
  exact ⟨_,_,rfl,h1 h⟩
end
theorem ext10 {hp:Tr DObj} {v:Value} : extD hp (.tup [.v v]) 0=some (.v v):=nr rfl
theorem Cp1 {hp:Tr DObj} {u v w:Value} : extD hp (.tup [.v u,.v v,.v w]) 0=some (.v u):=nr rfl
theorem vc_fa {hp:Tr DObj} {id T:Nat} {x:PVal} (h:hp.get id=some (.row T (vc x))):(faD hp 0 (.pt id 0)=some (.pt id 0)∧faD hp 1 (.pt id 0)=some (.pt id 1)∧faD hp 2 (.pt id 0)=some (.pt id 2)∧faD hp 3 (.pt id 0)=some (.pt id 3))∧ldD hp none (.pt id 0)=some (iv x.kind)∧ldD hp none (.pt id 1)=some (iv x.n)∧ldD hp none (.pt id 2)=some (iv x.d)∧ldD hp none (.pt id 3)=some (sv x.s)∧ldD hp (some 4) (.pt id 0)=some (.agg (vc x)):=by
 refine ⟨⟨fa_p h,fa_p h,fa_p h,fa_p h⟩,?_,?_,?_,?_,?_⟩ <;> rw [ld_p h] <;> rfl
theorem An1 (s:ByteArray):decide (s=bs [])=emp s:=(bytes_eq s (bs [])).symm
section
variable (k:Nat) (hp:Tr DObj) (nx:Nat) (K:DV→Tr DObj→Nat→Prop)
theorem Bf4 (v:PVal) (hK:∀ hp' nx',Al hp nx hp' nx'→K (bv (Ar9 v)) hp' nx'):KW (kN (k+1)) (.fn 181) [.agg (vc v)] hp nx K:=by
 refine kn_1 (Aa2 (by decide)) t181 (Nat.le_of_ble_eq_true rfl) fun es e1 e2 he=>?_
 have a0:rawE es (.t .o)=.agg (vc v):=he 0 _ rfl
 unfold r181
 simp only [↓bGb]
 refine Ab0 (cs:=vc v) (by rw [evt,a0]; exact Ab6 rfl) fun hp1 hg1 hk1=>?_
 simp only [bR,e1,e2] at hg1 hk1
 obtain ⟨⟨_,_,f2,f3⟩,_,_,l2,l3,_⟩:=vc_fa hg1
 simp only [bGa,↓bGb,bP,e2,f2,f3,l2,l3,An1]
 exact kb (hK _ _ ⟨by omega,fun j hj=>hk1 j (by omega)⟩) rfl
theorem B90 (r:Nat) (hK:K (bv (!(decide ((32:Int)≤(r:Int)) && decide ((r:Int)≤126)))) hp nx):KW (kN (k+1)) (.fn 183) [.v (.int .i32 (r:Int))] hp nx K:=by
 refine kn_1 (Aa2 (by decide)) t183 (Nat.le_of_ble_eq_true rfl) fun es e1 e2 he=>?_
 have a0:rawE es (.t .o)=.v (.int .i32 (r:Int)):=he 0 _ rfl
 unfold r183
 simp only [bGa,↓bGb,bP,a0,e1,e2]
 refine kb hK ?_
 rw [Bool.eq_iff_iff]; simp
theorem Bq3 (s:ByteArray) (hl:s.size < 900000) (hK:∀ r hp' nx',Al hp nx hp' nx'→(decide (r < 0)=ascii s)→K (iv r) hp' nx'):KW (kN (k+2)) (.fn 202) [sv s,.fn (.func 183) [.tup []],bv true] hp nx K:=by
 refine kn_1 (Aa2 (by decide)) t202 (Nat.le_of_ble_eq_true rfl) fun es e1 e2 he=>?_
 have a0:rawE es (.t .o)=sv s:=he 0 _ rfl
 have a1:rawE es (.t (.l .o))=.fn (.func 183) [.tup []]:=he 1 _ rfl
 have a2:rawE es (.t (.r .o))=bv true:=he 2 _ rfl
 unfold r202
 simp only [bGa,↓bGb,a0,↓z_rgs]
 refine Cg2 (s:=s) (by simp only [n_ev,bR,bP]; exact A85 _ _) fun hp1 hg1 hk1=>?_
 simp only [bR,e1,e2] at hg1 hk1
 simp only [bGa,↓bGb,e2]
 refine EW.l (I:=fun m es1=>∃ i,m=s.size - i∧i≤s.size∧nx+1≤es1.nx∧(∀ j,j < nx→es1.hp.get j=hp.get j)∧es1.hp.get nx=some (.siter s i)∧rawE es1 (.t (.l .o))=.fn (.func 183) [.tup []]∧rawE es1 (.t (.r .o))=bv true∧rawE es1 (.t (.r (.r (.l .o))))=.pt nx 0∧∀ j,(h:j < s.data.toList.length)→j < i→prnt s.data.toList[j]=true) ?_ s.size 1000000 _ ?_ (by omega)
 ·rintro m es1 ⟨i,rfl,hi,g1,g2,g3,b1,b2,b10,hpr⟩
  unfold B82
  simp only [↓bGb,↓z_nxs]
  refine Cg3 (id:=nx) (s:=s) (pos:=i) (by simp only [n_ev,bP,b10]; exact Aq9 g3) g3 (fun h=>?_) (fun hp2 h hg2 hk2=>?_)
  ·simp only [bGa,↓bGb,bP,ext10]
   refine hK (-1) _ _ ⟨by omega,g2⟩ ?_
   have:ascii s=true:=by
    unfold ascii
    rw [List.all_eq_true]
    intro c hc
    obtain ⟨j,hj,rfl⟩:=List.mem_iff_getElem.1 hc
    exact hpr j hj (by have:s.data.toList.length=s.size:=rfl; omega)
   rw [this]; rfl
  ·simp only [bR] at hg2 hk2
   have h':i < s.data.toList.length:=h
   have hget:(s[i]'h).toNat=(s.data.toList[i]).toNat:=rfl
   simp only [bGa,↓bGb,b1,Cp1,↓z_cv]
   refine sws_f (f:=183) (fs:=[]) (cs:=[]) (by simp only [evt,bR,reduceCtorEq]; exact A24 _ _) ?_
   simp only [bR,List.nil_append,List.append_nil,List.map_cons,List.map_nil]
   have hg2':∀ j,j < nx→hp2.get j=hp.get j:=fun j hj=>by rw [hk2 j (by omega),g2 j hj]
   by_cases hp128:(s.data.toList[i]).toNat < 128
   ·have hdec:=decode_ascii s i h (by rw [hget]; exact hp128)
    rw [hget] at hdec
    rw [hdec] at hg2 ⊢
    simp only at hg2 ⊢
    refine B90 (k:=k) _ _ _ (s.data.toList[i]).toNat ?_
    cases hpc:prnt s.data.toList[i] with
    | true=>
     have:(decide ((32:Int)≤((s.data.toList[i]).toNat:Int)) && decide (((s.data.toList[i]).toNat:Int)≤126))=true:=hpc
     rw [this]
     simp only [bGa,↓bGb,bP,b1,b2,b10]
     refine ⟨s.size - (i+1),by omega,i+1,rfl,by omega,by omega,hg2',hg2,fun j hj hji=>?_⟩
     by_cases e:j=i
     ·subst e; exact hpc
     ·exact hpr j hj (by omega)
    | false=>
     have:(decide ((32:Int)≤((s.data.toList[i]).toNat:Int)) && decide (((s.data.toList[i]).toNat:Int)≤126))=false:=hpc
     rw [this]
     simp only [bGa,↓bGb,bP,b2]
     refine hK _ _ _ ⟨by omega,hg2'⟩ ?_
     have:ascii s=false:=by
      rw [Bool.eq_false_iff]
      intro ha
      have:=List.all_eq_true.1 ha _ (List.getElem_mem h')
      rw [hpc] at this; cases this
     rw [this,decide_eq_false (by omega)]
   ·have hdec:=decode_high s i h (by rw [hget]; omega)
    have hpc:prnt s.data.toList[i]=false:=by
     unfold prnt
     rw [Bool.and_eq_false_iff]
     exact .inr (decide_eq_false (by omega))
    refine B90 (k:=k) _ _ _ _ ?_
    have:(decide ((32:Int)≤(((Utf8.decode s i).1:Nat):Int)) && decide ((((Utf8.decode s i).1:Nat):Int)≤126))=false:=by
     rw [Bool.and_eq_false_iff]
     exact .inr (decide_eq_false (by omega))
    rw [this]
    simp only [bGa,↓bGb,bP,b2]
    refine hK _ _ _ ⟨by omega,hg2'⟩ ?_
    have:ascii s=false:=by
     rw [Bool.eq_false_iff]
     intro ha
     have:=List.all_eq_true.1 ha _ (List.getElem_mem h')
     rw [hpc] at this; cases this
    rw [this,decide_eq_false (by omega)]
 ·simp only [bGa,a1,a2]
  exact ⟨0,rfl,by omega,fun j hj=>hk1 j (by omega),hg1,fun j _ h=>by omega⟩
theorem B06 (s:ByteArray) (hl:s.size < 900000) (hK:∀ r hp' nx',Al hp nx hp' nx'→(decide (r < 0)=ascii s)→K (iv r) hp' nx'):KW (kN (k+3)) (.fn 184) [sv s,.fn (.func 183) [.tup []]] hp nx K:=by
 refine kn_1 (Aa2 (by decide)) t184 (Nat.le_of_ble_eq_true rfl) fun es e1 e2 he=>?_
 have a0:rawE es (.t .o)=sv s:=he 0 _ rfl
 have a1:rawE es (.t (.l .o))=.fn (.func 183) [.tup []]:=he 1 _ rfl
 unfold r184
 simp only [bGa,↓bGb,a0,a1,e1,e2]
 refine kws (Bq3 k _ _ _ s hl fun r hp' nx' hal hr=>?_)
 simp only [bGa,↓bGb,bP]
 exact hK r _ _ hal hr
end
end Go.DD

/- Contracts: which values are valid, and fit a type. Conditions: those that each theorem states. -/
namespace Go.DD
open Go Go.Proofs
theorem Bf5 {v:PVal} (h:v.kind=0):Af3 v=(Ar9 v && decide (1≤v.n) && decide (v.n≤255)):=by unfold Af3; rw [if_pos h,Bool.and_assoc]
theorem Bf6 {v:PVal} (h:v.kind=1):Af3 v=(Ar9 v && (decide (v.n=0) || decide (v.n=1))):=by unfold Af3; rw [if_neg (by omega),if_pos h]
theorem Bf7 {v:PVal} (h:v.kind=2):Af3 v=(emp v.s && (decide (1≤v.d) && (decide (v.d≤1099511627776) && (decide (-1099511627776≤v.n) && (decide (v.n≤1099511627776) && decide (Nat.gcd v.n.natAbs v.d.natAbs=1)))))):=by unfold Af3; rw [if_neg (by omega),if_neg (by omega),if_pos h]
theorem Bf8 {v:PVal} (h:v.kind=3):Af3 v=(decide (v.n=0) && (decide (v.d=0) && (decide (v.s.size≤16) && ascii v.s))):=by unfold Af3; rw [if_neg (by omega),if_neg (by omega),if_neg (by omega),if_pos h]
theorem A29 {v:PVal} (h0:v.kind≠0) (h1:v.kind≠1) (h2:v.kind≠2) (h3:v.kind≠3):Af3 v=false:=by unfold Af3; rw [if_neg h0,if_neg h1,if_neg h2,if_neg h3]
section
variable (k:Nat) (hp:Tr DObj) (nx:Nat) (K:DV→Tr DObj→Nat→Prop)
theorem B07 (v:PVal) (hl:v.s.size < 900000) (hK:∀ hp' nx',Al hp nx hp' nx'→K (bv (Af3 v)) hp' nx'):KW (kN (k+4)) (.fn 158) [.agg (vc v)] hp nx K:=by
 refine kn_1 (Aa2 (by decide)) t158 (Nat.le_of_ble_eq_true rfl) fun es e1 e2 he=>?_
 have a0:rawE es (.t .o)=.agg (vc v):=he 0 _ rfl
 unfold r158
 simp only [↓bSb]
 refine Ab0 (cs:=vc v) (by rw [evt,a0]; exact Ab6 rfl) fun hp1 hg1 hk1=>?_
 simp only [bR,e1,e2] at hg1 hk1
 obtain ⟨⟨f0,f1,f2,f3⟩,l0,l1,l2,l3,l4⟩:=vc_fa hg1
 have hal:Al hp nx hp1 (nx+1):=⟨by omega,fun j hj=>hk1 j (by omega)⟩
 by_cases k0:v.kind=0
 ·rw [Bf5 k0] at hK
  simp only [bSa,↓bSb,e2,f0,l0,l4,decide_eq_true k0]
  refine kws (Bf4 (k:=k+2) _ _ _ v fun hp2 nx2 hal2=>?_)
  have q1:faD hp2 1 (.pt nx 0)=some (.pt nx 1):=fa_p ((hal2.same nx (by omega)).trans hg1)
  have q2:ldD hp2 none (.pt nx 1)=some (iv v.n):=by rw [ld_p ((hal2.same nx (by omega)).trans hg1)]; rfl
  simp only [bGa,↓bGb,bP,e2,q1,q2]
  exact kb (hK _ _ (hal.trans hal2)) rfl
 by_cases k1:v.kind=1
 ·rw [Bf6 k1] at hK
  simp only [bSa,↓bSb,e2,f0,l0,l4,decide_eq_false k0,decide_eq_true k1]
  refine kws (Bf4 (k:=k+2) _ _ _ v fun hp2 nx2 hal2=>?_)
  have q1:faD hp2 1 (.pt nx 0)=some (.pt nx 1):=fa_p ((hal2.same nx (by omega)).trans hg1)
  have q2:ldD hp2 none (.pt nx 1)=some (iv v.n):=by rw [ld_p ((hal2.same nx (by omega)).trans hg1)]; rfl
  have hh:=hK _ _ (hal.trans hal2)
  cases hpl:Ar9 v <;> cases h0:decide (v.n=0) <;> cases h1:decide (v.n=1) <;> simp only [bSa,↓bSb,bP,e2,q1,q2,h0,h1] <;> exact kb hh (by simp [hpl,h0,h1])
 by_cases k2:v.kind=2
 ·rw [Bf7 k2] at hK
  have hh:=hK _ _ hal
  cases c1:emp v.s with
  | false=>
   simp only [bSa,↓bSb,bP,e2,f0,l0,f3,l3,decide_eq_false k0,decide_eq_false k1,decide_eq_true k2,An1,c1]
   exact kb hh (by rw [c1]; rfl)
  | true=>
   rw [c1,Bool.true_and] at hh hK
   by_cases c2:1≤v.d
   ·by_cases c3:v.d≤1099511627776
    ·by_cases c4 : -1099511627776≤v.n
     ·by_cases c5:v.n≤1099511627776
      ·have hneg:unD .neg (.v (.int .i64 v.n))=some (.v (.int .i64 (-v.n))):=by rw [n_neg,wrap_in (by omega)]; congr 3; omega
       have hmax:mmD true (.v (.int .i64 v.n)) (.v (.int .i64 (-v.n)))=some (.v (.int .i64 ((v.n.natAbs:Nat):Int))):=by rw [Cn7]; congr 3; omega
       have hd:v.d=((v.d.natAbs:Nat):Int):=by omega
       have l2':ldD hp1 none (.pt nx 2)=some (iv ((v.d.natAbs:Nat):Int)):=by rw [← hd]; exact l2
       have c2':(1:Int)≤((v.d.natAbs:Nat):Int):=by omega
       have c3':((v.d.natAbs:Nat):Int)≤1099511627776:=by omega
       simp only [bSa,↓bSb,bP,e2,f0,l0,f1,l1,f2,l2',f3,l3,decide_eq_false k0,decide_eq_false k1,decide_eq_true k2,An1,c1,c2',c3',c4,c5,hneg,hmax]
       have h50:(2:Nat) ^ 50=1125899906842624:=by decide
       refine kws (Cp0 (k:=k+2) _ _ _ v.n.natAbs v.d.natAbs (by omega) (by omega) fun nx2 hn2=>?_)
       have he:decide ((Nat.gcd v.n.natAbs v.d.natAbs:Int)=1)=decide (Nat.gcd v.n.natAbs v.d.natAbs=1):=decide_eq_decide.2 (by omega)
       have hh2:=hK hp1 nx2 (hal.nx hn2)
       cases c6:decide (Nat.gcd v.n.natAbs v.d.natAbs=1) with
       | true=>
        simp only [bSa,↓bSb,bP,he,c6]
        exact kb hh2 (by simp [c2,c3,c4,c5,c6])
       | false=>
        simp only [bSa,↓bSb,bP,he,c6]
        exact kb hh2 (by simp [c6])
      ·simp only [bSa,↓bSb,bP,e2,f0,l0,f1,l1,f2,l2,f3,l3,decide_eq_false k0,decide_eq_false k1,decide_eq_true k2,An1,c1,c2,c3,c4,c5]
       exact kb hh (by simp [c5])
     ·simp only [bSa,↓bSb,bP,e2,f0,l0,f1,l1,f2,l2,f3,l3,decide_eq_false k0,decide_eq_false k1,decide_eq_true k2,An1,c1,c2,c3,c4]
      exact kb hh (by simp [c4])
    ·simp only [bSa,↓bSb,bP,e2,f0,l0,f2,l2,f3,l3,decide_eq_false k0,decide_eq_false k1,decide_eq_true k2,An1,c1,c2,c3]
     exact kb hh (by simp [c3])
   ·simp only [bSa,↓bSb,bP,e2,f0,l0,f2,l2,f3,l3,decide_eq_false k0,decide_eq_false k1,decide_eq_true k2,An1,c1,c2]
    exact kb hh (by simp [c2])
 by_cases k3:v.kind=3
 ·rw [Bf8 k3] at hK
  have hh:=hK _ _ hal
  cases c1:decide (v.n=0) with
  | false=>
   simp only [bSa,↓bSb,bP,e2,f0,l0,f1,l1,decide_eq_false k0,decide_eq_false k1,decide_eq_false k2,decide_eq_true k3,c1]
   exact kb hh (by rw [c1]; rfl)
  | true=>
   cases c2:decide (v.d=0) with
   | false=>
    simp only [bSa,↓bSb,bP,e2,f0,l0,f1,l1,f2,l2,decide_eq_false k0,decide_eq_false k1,decide_eq_false k2,decide_eq_true k3,c1,c2]
    exact kb hh (by rw [c1,c2]; rfl)
   | true=>
    by_cases c3:(v.s.size:Int)≤16
    ·simp only [bSa,↓bSb,bP,e2,f0,l0,f1,l1,f2,l2,f3,l3,decide_eq_false k0,decide_eq_false k1,decide_eq_false k2,decide_eq_true k3,c1,c2,c3]
     refine kws (B06 (k:=k) _ _ _ v.s hl fun r hp2 nx2 hal2 hr=>?_)
     have hh2:=hK _ _ (hal.trans hal2)
     cases c4:decide (r < 0) with
     | true=>
      simp only [bSa,↓bSb,bP,c4]
      exact kb hh2 (by rw [c1,c2,← hr,c4,decide_eq_true (show v.s.size≤16 by omega)]; rfl)
     | false=>
      simp only [bSa,↓bSb,bP,c4]
      exact kb hh2 (by rw [← hr,c4]; simp)
    ·simp only [bSa,↓bSb,bP,e2,f0,l0,f1,l1,f2,l2,f3,l3,decide_eq_false k0,decide_eq_false k1,decide_eq_false k2,decide_eq_true k3,c1,c2,c3]
     exact kb hh (by rw [decide_eq_false (show ¬ v.s.size≤16 by omega)]; simp)
 ·simp only [bSa,↓bSb,bP,e2,f0,l0,decide_eq_false k0,decide_eq_false k1,decide_eq_false k2,decide_eq_false k3]
  rw [A29 k0 k1 k2 k3] at hK
  exact hK _ _ hal
theorem Bq4 (v:PVal) (t:Int) (hl:v.s.size < 900000) (hK:∀ hp' nx',Al hp nx hp' nx'→K (bv (fitsV v t)) hp' nx'):KW (kN (k+5)) (.fn 123) [.agg (vc v),iv t] hp nx K:=by
 refine kn_1 (Aa2 (by decide)) t123 (Nat.le_of_ble_eq_true rfl) fun es e1 e2 he=>?_
 have a0:rawE es (.t .o)=.agg (vc v):=he 0 _ rfl
 have a1:rawE es (.t (.l .o))=iv t:=he 1 _ rfl
 unfold r123
 simp only [↓bSb]
 refine Ab0 (cs:=vc v) (by rw [evt,a0]; exact Ab6 rfl) fun hp1 hg1 hk1=>?_
 simp only [bR,e1,e2] at hg1 hk1
 obtain ⟨_,_,_,_,_,l4⟩:=vc_fa hg1
 have hal1:Al hp nx hp1 (nx+1):=⟨by omega,fun j hj=>hk1 j (by omega)⟩
 simp only [bGa,↓bGb,e2,l4]
 refine kws (B07 k _ _ _ v hl fun hp2 nx2 hal2=>?_)
 have hg2:=(hal2.same nx (by omega)).trans hg1
 obtain ⟨⟨f0,f1,f2,f3⟩,l0,l1,l2,l3,l4⟩:=vc_fa hg2
 have hh:=hK _ _ (hal1.trans hal2)
 unfold fitsV at hh
 simp only [bGa,↓bGb,e2,a1]
 refine cws (fun c=>?_) (fun c=>?_)
 ·rw [if_pos (by cases hr:Af3 v <;> simp [hr] at c ⊢; omega)] at hh
  simp only [bGa,↓bGb,bP]
  exact hh
 rw [if_neg (by cases hr:Af3 v <;> simp [hr] at c ⊢; omega)] at hh
 by_cases k1:v.kind=1
 ·rw [if_pos k1] at hh
  simp only [bGa,↓bGb,bP,e2,a1,f0,l0,decide_eq_true k1]
  exact hh
 rw [if_neg k1] at hh
 by_cases k2:v.kind=2
 ·rw [if_pos k2] at hh
  cases h3:decide (t=3) <;> cases h2:decide (t=2) <;> cases h1:decide (v.d=1) <;> simp only [bSa,↓bSb,bP,e2,a1,f0,l0,f2,l2,decide_eq_false k1,decide_eq_true k2,h3,h2,h1] <;> exact kb hh (by simp [h1,h2,h3])
 rw [if_neg k2] at hh
 by_cases k3:v.kind=3
 ·rw [if_pos k3] at hh
  simp only [bGa,↓bGb,bP,e2,a1,f0,l0,decide_eq_false k1,decide_eq_false k2,decide_eq_true k3]
  exact hh
 ·rw [if_neg k3] at hh
  simp only [bGa,↓bGb,bP,e2,f0,l0,decide_eq_false k1,decide_eq_false k2,decide_eq_false k3]
  exact hh
end
end Go.DD

/- Contracts: which values are valid, and fit a type, by the reference. Conditions: those that each theorem states. -/
namespace Go.DD
open Go Go.Proofs
def errB (b:Bool):Int:=if b then 0 else 2
theorem Ah7 {n0 m i:Nat} {an refs lo:List Nat} {c:Bool} {ws:List Look} {ps:List Past} {id:Nat} {T:TypeId} {cs:List DV} (hr:∀ j∈refs,j=id) (hid:id < n0) (hp:∀ p∈ps,p.a.get id=some (.row T cs)∧p.b.get id=some (.row T cs)) (hc:∀ c∈cs,Ab1 6 c c=true) (h2:Ag3 n0 m ws ps=true):Ag3 n0 m (lookE i an true c refs n0 lo ws) ps=true:=
 Ai2 (fun j hj=>by
  rw [hr j hj]
  refine ⟨hid,fun p hp'=>.inr (.inr ?_)⟩
  obtain ⟨h3,h4⟩:=hp p hp'
  cases c with
  | true=>rw [if_pos rfl]; exact Aj1 h3 (h4.trans h3.symm) hc
  | false=>rw [if_neg (by simp)]; simp [Av9,h3,h4]) h2
theorem Bq5 (v:PVal):∀ c∈vc v,Ab1 6 c c=true:=fun c hc=>rVal.samec v c hc 6 (by decide)
theorem RL.ron {α:Type} {R:Rep α} {hp:Tr DObj} {d:DV} {l:List α} {n m a b:Nat} {an:List Nat} (h:RL R hp (Bw a b) d l) (hn:n+m≤a):Aa6 d (fun id=>okRef n m an hp id)↔True:=iff_true_intro fun id hid=>(Af7 hp id).2 ⟨(h.refs id hid).2,.inr (.inl (by have:=(h.refs id hid).1.1; omega))⟩
section
variable (k:Nat) (hp:Tr DObj) (nx:Nat) (K:DV→Tr DObj→Nat→Prop)
theorem Bi8 (v:PVal) (hl:v.s.size < 900000) (hK:∀ hp' nx',Al hp nx hp' nx'→K (iv (errB (Af3 v))) hp' nx'):KW (kN (k+5)) (.fn 190) [.agg (vc v)] hp nx K:=by
 refine kn_1 (Aa2 (by decide)) t190 (Nat.le_of_ble_eq_true rfl) fun es e1 e2 he=>?_
 have a0:rawE es (.t .o)=.agg (vc v):=he 0 _ rfl
 unfold r190
 simp only [↓bSb]
 refine Ab0 (cs:=vc v) (by rw [evt,a0]; exact Ab6 rfl) fun hp1 hg1 hk1=>?_
 simp only [bR,e1,e2] at hg1 hk1
 obtain ⟨⟨f0,f1,f2,f3⟩,l0,l1,l2,l3,l4⟩:=vc_fa hg1
 have hal:Al hp nx hp1 (nx+1):=⟨by omega,fun j hj=>hk1 j (by omega)⟩
 have hh:=hK _ _ hal
 by_cases k0:v.kind=0
 ·rw [Bf5 k0] at hh
  unfold Ar9 at hh
  by_cases c1:1≤v.n <;> by_cases c2:v.n≤255 <;> cases c3:decide (v.d=0) <;> cases c4:emp v.s <;> simp only [bSa,↓bSb,bP,e2,f0,l0,f1,l1,f2,l2,f3,l3,decide_eq_true k0,An1,c1,c2,c3,c4] <;> simpa [errB,c1,c2,c3,c4] using hh
 by_cases k1:v.kind=1
 ·rw [Bf6 k1] at hh
  unfold Ar9 at hh
  cases c1:decide (v.n=0) <;> cases c2:decide (v.n=1) <;> cases c3:decide (v.d=0) <;> cases c4:emp v.s <;> simp only [bSa,↓bSb,bP,e2,f0,l0,f1,l1,f2,l2,f3,l3,decide_eq_false k0,decide_eq_true k1,An1,c1,c2,c3,c4] <;> simpa [errB,c1,c2,c3,c4] using hh
 by_cases k2:v.kind=2
 ·rw [Bf7 k2] at hK
  have hh:=hK hp1 (nx+37) (hal.nx (by omega))
  by_cases c1:1≤v.d
  ·by_cases c2:v.d≤1099511627776
   ·by_cases c3 : -1099511627776≤v.n
    ·by_cases c4:v.n≤1099511627776
     ·cases c5:emp v.s with
      | true=>
       simp only [bSa,↓bSb,e2,f0,l0,f1,l1,f2,l2,f3,l3,decide_eq_false k0,decide_eq_false k1,decide_eq_true k2,c1,c2,c3,c4,An1,c5,Aa1 (n0:=nx+1) (m:=36) hg1 (show nx < nx+1 by omega)]
       refine Aa0 rfl (Aa7 ?_)
       simp only [bR,List.map_cons,List.map_nil]
       refine Bq1 (k:=k+2) _ _ _ v.n (by omega) fun hp2 nx2 x2 hal2 hr2=>?_
       have hle2:=hal2.le
       have hg2:=(hal2.same nx (by omega)).trans hg1
       obtain ⟨⟨_,q1,q2,q3⟩,_,m1,m2,m3,_⟩:=vc_fa hg2
       simp only [bSa,↓bSb,e2,q2,m2,hle2,Aa1 (n0:=nx+1) (m:=36) hg2 (show nx < nx+1 by omega)]
       refine Aa0 rfl (Aa7 ?_)
       simp only [bR,List.map_cons,List.map_nil]
       refine Bq1 (k:=k+2) _ _ _ v.d (by omega) fun hp3 nx3 x3 hal3 hr3=>?_
       have hle3:=hal3.le
       have hg3:=(hal3.same nx (by omega)).trans hg2
       have hr2':=hr2.keep fun j hj=>hal3.same j hj.2
       simp only [bSa,↓bSb,e2,hle3,hr2'.ron (show nx+1+36≤nx+37 by omega),hr3.ron (show nx+1+36≤nx2 by omega)]
       have h50:(2:Nat) ^ 50=1125899906842624:=by decide
       refine Aa0 rfl (Aa7 ?_)
       simp only [bR,List.map_cons,List.map_nil]
       refine Bq2 (k:=k) _ _ _ (Bw (nx+37) nx3) (fun j hj=>hj.2) x2 x3 v.n.natAbs v.d.natAbs (hr2'.mono fun j hj=>⟨hj.1,Nat.lt_of_lt_of_le hj.2 hle3⟩) (hr3.mono fun j hj=>⟨Nat.le_trans hle2 hj.1,hj.2⟩) (by omega) (by omega) fun hp4 nx4 x4 hal4 hr4=>?_
       have hle4:=hal4.le
       have hr4':RL rU hp4 (Bw (nx+37) nx4) x4 (natD (Nat.gcd v.n.natAbs v.d.natAbs)):=hr4.mono fun j hj=>hj.elim (fun h=>⟨h.1,Nat.lt_of_lt_of_le h.2 hle4⟩) fun h=>⟨by have:=h.1; omega,h.2⟩
       simp only [bSa,↓bSb,e2,hle4]
       refine Aa0 rfl (Aa7 ?_)
       simp only [bR,List.map_cons,List.map_nil]
       refine Ak4 (k:=k+3) _ _ _ 1 (by omega) fun hp5 nx5 x5 hal5 hr5=>?_
       have hle5:=hal5.le
       have hr4'':=hr4'.keep fun j hj=>hal5.same j hj.2
       simp only [bSa,↓bSb,e2,hle5,hr4''.ron (show nx+1+36≤nx+37 by omega),hr5.ron (show nx+1+36≤nx4 by omega)]
       refine Aa0 rfl (Aa7 ?_)
       simp only [bR,List.map_cons,List.map_nil]
       refine B05 (k:=k+3) _ _ _ nx5 x4 x5 _ _ (Nat.le_refl _) (hr4''.mono fun j hj=>Nat.lt_of_lt_of_le hj.2 hle5) hr5.inl (by
        have:(natD (Nat.gcd v.n.natAbs v.d.natAbs)).length≤2:=At8 (by
         have:=Nat.gcd_le_right v.n.natAbs (show 0 < v.d.natAbs by omega)
         have e:(1000000000:Nat) ^ 2=1000000000000000000:=by decide
         omega)
        omega) fun r nx6 hle6 hr=>?_
       have hr2:decide (r=0)=decide (Nat.gcd v.n.natAbs v.d.natAbs=1):=decide_eq_decide.2 (hr.trans ⟨fun h=>B01 h,fun h=>by rw [h]⟩)
       simp only [bSa,↓bSb,bP,e2,hle6,hr2]
       have hg4:=(hal4.same nx (by omega)).trans hg3
       have hg5:=(hal5.same nx (by omega)).trans hg4
       have hps:∀ p∈[(⟨32,[30,31,23,26,29,25,24,22,18,21,17,13,16,12,8,11,7,3,6,2,1,0,5,4,10,9,15,14,20,19,28,27],hp5,hp5⟩:Past),⟨31,[30,23,26,29,25,24,22,18,21,17,13,16,12,8,11,7,3,6,2,1,0,5,4,10,9,15,14,20,19,28,27],hp4,hp5⟩,⟨30,[26,29,23,25,24,22,18,21,17,13,16,12,8,11,7,3,6,2,1,0,5,4,10,9,15,14,20,19,28,27],hp3,hp4⟩,⟨29,[28,26,23,27,22,18,21,17,13,16,12,8,11,7,3,6,2,1,0,5,4,10,9,15,14,20,19,25,24],hp2,hp3⟩,⟨26,[25,23,24,22,18,21,17,13,16,12,8,11,7,3,6,2,1,0,5,4,10,9,15,14,20,19],hp1,hp2⟩],p.a.get nx=some (.row 41 (vc v))∧p.b.get nx=some (.row 41 (vc v)):=by
        intro p hp'
        simp only [List.mem_cons,List.mem_nil_iff,or_false] at hp'
        rcases hp' with rfl | rfl | rfl | rfl | rfl <;> exact ⟨by assumption,by assumption⟩
       have hrf:∀ (off:Nat),∀ j∈(DV.pt nx off).refs,j=nx:=fun off j hj=>by simpa [DV.refs] using hj
       refine ⟨Ah7 (hrf 2) (by omega) hps (Bq5 v) (Ah7 (hrf 0) (by omega) hps (Bq5 v) rfl),?_⟩
       have hal5':Al hp nx hp5 nx6:=((((hal.nx (by omega:nx+1≤nx+1+36)).trans hal2).trans hal3).trans hal4).trans hal5 |>.nx hle6
       have hh2:=hK _ _ hal5'
       cases c6:decide (Nat.gcd v.n.natAbs v.d.natAbs=1) with
       | true=>
        simp only [bSa]
        simpa [errB,c1,c2,c3,c4,c5,c6] using hh2
       | false=>
        simp only [bSa]
        simpa [errB,c6] using hh2
      | false=>
       simp only [bSa,↓bSb,bP,e2,f0,l0,f1,l1,f2,l2,f3,l3,decide_eq_false k0,decide_eq_false k1,decide_eq_true k2,c1,c2,c3,c4,An1,c5,Aa1 (n0:=nx+1) (m:=36) hg1 (show nx < nx+1 by omega)]
       simpa [errB,c5] using hh
     ·simp only [bSa,↓bSb,bP,e2,f0,l0,f1,l1,f2,l2,decide_eq_false k0,decide_eq_false k1,decide_eq_true k2,c1,c2,c3,c4,Aa1 (n0:=nx+1) (m:=36) hg1 (show nx < nx+1 by omega)]
      simpa [errB,c4] using hh
    ·simp only [bSa,↓bSb,bP,e2,f0,l0,f1,l1,f2,l2,decide_eq_false k0,decide_eq_false k1,decide_eq_true k2,c1,c2,c3,Aa1 (n0:=nx+1) (m:=36) hg1 (show nx < nx+1 by omega)]
     simpa [errB,c3] using hh
   ·simp only [bSa,↓bSb,bP,e2,f0,l0,f2,l2,decide_eq_false k0,decide_eq_false k1,decide_eq_true k2,c1,c2,Aa1 (n0:=nx+1) (m:=36) hg1 (show nx < nx+1 by omega)]
    simpa [errB,c2] using hh
  ·simp only [bSa,↓bSb,bP,e2,f0,l0,f2,l2,decide_eq_false k0,decide_eq_false k1,decide_eq_true k2,c1,Aa1 (n0:=nx+1) (m:=36) hg1 (show nx < nx+1 by omega)]
   simpa [errB,c1] using hh
 by_cases k3:v.kind=3
 ·rw [Bf8 k3] at hK
  have loop:∀ es0 b,es0.hp=hp1→es0.nx=nx+1→rawE es0 (.t (.l .o))=.pt nx 0→rawE es0 (.t (.l (.l .o)))=bv b→rawE es0 (.t (.r (.l .o)))=iv 0→b=(decide (v.n=0) && (decide (v.d=0) && decide (v.s.size≤16)))→∀ Q:Hold (Exit→ES→Prop),(∀ es',es'.hp=hp1→nx+1≤es'.nx→rawE es' (.t (.l (.l .o)))=bv (b && ascii v.s)→Q.val (.exit 1) es')→@EWs (cL 1000000 Bp4) (kN (k+4)) es0 Q:=by
   intro es0 b h1 h2 h3 h4 h5 hb Q hQ
   refine EW.up v.s.size (fun i es1=>es1.hp=hp1∧nx+1≤es1.nx∧rawE es1 (.t (.l .o))=.pt nx 0∧rawE es1 (.t (.l (.l .o)))=bv (b && (v.s.data.toList.take i).all prnt)∧rawE es1 (.t (.r (.l .o)))=iv (i:Nat)) ?_ ⟨h1,by omega,h3,by rw [h4]; simp,h5⟩ (by omega)
   rintro i es1 hi ⟨g1,g2,b1,b3,b4⟩
   unfold Bp4
   by_cases h:i < v.s.size
   ·have h':i < v.s.data.toList.length:=h
    have hall:(v.s.data.toList.take (i+1)).all prnt=((v.s.data.toList.take i).all prnt && prnt v.s.data.toList[i]):=by
     rw [List.take_succ_eq_append_getElem h',List.all_append]; simp
    rw [hall,← Bool.and_assoc]
    have hpc:prnt v.s.data.toList[i]=(decide ((32:Int)≤((v.s.data.toList[i]).toNat:Int)) && decide (((v.s.data.toList[i]).toNat:Int)≤126)):=rfl
    rw [hpc]
    have hix:=Be5 (k:=.i64) h'
    generalize (b && (v.s.data.toList.take i).all prnt)=b' at b3 ⊢
    generalize v.s.data.toList[i]=c at hix ⊢
    cases b' with
    | false=>
     simp only [bSa,↓bSb,bP,b1,b3,b4,g1,f3,l3,h,Aa3 (show i < _ by omega)]
     exact ⟨by omega,rfl⟩
    | true=>
     by_cases c1:(32:Int)≤(c.toNat:Int)
     ·by_cases c2:(c.toNat:Int)≤126
      ·simp only [bSa,↓bSb,bP,b1,b3,b4,g1,f3,l3,h,hix,c1,c2,Aa3 (show i < _ by omega)]
       exact ⟨by omega,rfl⟩
      ·simp only [bSa,↓bSb,bP,b1,b3,b4,g1,f3,l3,h,hix,c1,c2,Aa3 (show i < _ by omega)]
       exact ⟨by omega,rfl⟩
     ·simp only [bSa,↓bSb,bP,b1,b3,b4,g1,f3,l3,h,hix,c1,Aa3 (show i < _ by omega)]
      exact ⟨by omega,rfl⟩
   ·have h':v.s.data.toList.length≤i:=by have:v.s.data.toList.length=v.s.size:=rfl; omega
    rw [List.take_of_length_le h'] at b3
    simp only [bSa,↓bSb,bP,b1,b4,g1,f3,l3,h]
    refine hQ _ g1 g2 ?_
    simp only [bR]
    exact b3
  simp only [bGa,↓bGb,bP,e2,f0,l0,f1,l1,f2,l2,f3,l3,decide_eq_false k0,decide_eq_false k1,decide_eq_false k2,decide_eq_true k3]
  refine loop _ (decide (v.n=0) && decide (v.d=0) && decide ((v.s.size:Int)≤16)) (by simp only []) (by simp only []) (by simp only [bSa]) (by simp only [bSa]) (by simp only [bSa]) (by rw [Bool.and_assoc]; congr 2; exact decide_eq_decide.2 (by omega)) _ fun es' g1 g2 b3=>?_
  have hh2:=hK es'.hp es'.nx (by rw [g1]; exact hal.nx g2)
  have hb:(decide (v.n=0) && decide (v.d=0) && decide ((v.s.size:Int)≤16) && ascii v.s)=(decide (v.n=0) && (decide (v.d=0) && (decide (v.s.size≤16) && ascii v.s))):=by
   rw [Bool.and_assoc,Bool.and_assoc]; congr 3; exact decide_eq_decide.2 (by omega)
  rw [← hb] at hh2
  simp only [bGa,↓bGb,b3]
  generalize (decide (v.n=0) && decide (v.d=0) && decide ((v.s.size:Int)≤16) && ascii v.s)=b at hh2
  refine cws (fun c=>?_) (fun c=>?_)
  ·subst c
   simp only [bGa,↓bGb,bP]
   exact hh2
  ·subst c
   simp only [bGa,↓bGb,bP]
   exact hh2
 ·rw [A29 k0 k1 k2 k3] at hh
  simp only [bSa,↓bSb,bP,e2,f0,l0,decide_eq_false k0,decide_eq_false k1,decide_eq_false k2,decide_eq_false k3]
  exact hh
theorem B08 (v:PVal) (t:Int) (hl:v.s.size < 900000) (hK:∀ hp' nx',Al hp nx hp' nx'→K (bv (fitsV v t)) hp' nx'):KW (kN (k+6)) (.fn 170) [.agg (vc v),iv t] hp nx K:=by
 refine kn_1 (Aa2 (by decide)) t170 (Nat.le_of_ble_eq_true rfl) fun es e1 e2 he=>?_
 have a0:rawE es (.t .o)=.agg (vc v):=he 0 _ rfl
 have a1:rawE es (.t (.l .o))=iv t:=he 1 _ rfl
 unfold r170
 simp only [↓bSb]
 refine Ab0 (cs:=vc v) (by rw [evt,a0]; exact Ab6 rfl) fun hp1 hg1 hk1=>?_
 simp only [bR,e1,e2] at hg1 hk1
 obtain ⟨_,_,_,_,_,l4⟩:=vc_fa hg1
 have hal1:Al hp nx hp1 (nx+1):=⟨by omega,fun j hj=>hk1 j (by omega)⟩
 simp only [bGa,↓bGb,e2,l4]
 refine kws (Bi8 k _ _ _ v hl fun hp2 nx2 hal2=>?_)
 have hg2:=(hal2.same nx (by omega)).trans hg1
 obtain ⟨⟨f0,f1,f2,f3⟩,l0,l1,l2,l3,l4⟩:=vc_fa hg2
 have hh:=hK _ _ (hal1.trans hal2)
 unfold fitsV at hh
 have he:decide (¬ errB (Af3 v)=0) = !Af3 v:=by cases Af3 v <;> rfl
 simp only [bGa,↓bGb,e2,a1,he]
 refine cws (fun c=>?_) (fun c=>?_)
 ·rw [if_pos (by cases hr:Af3 v <;> simp [hr] at c ⊢; omega)] at hh
  simp only [bGa,↓bGb,bP]
  exact hh
 rw [if_neg (by cases hr:Af3 v <;> simp [hr] at c ⊢; omega)] at hh
 by_cases k0:v.kind=0
 ·rw [if_neg (by omega),if_neg (by omega),if_neg (by omega)] at hh
  simp only [bGa,↓bGb,bP,e2,f0,l0,decide_eq_true k0]
  exact hh
 by_cases k1:v.kind=1
 ·rw [if_pos k1] at hh
  simp only [bGa,↓bGb,bP,e2,a1,f0,l0,decide_eq_false k0,decide_eq_true k1]
  exact hh
 rw [if_neg k1] at hh
 by_cases k2:v.kind=2
 ·rw [if_pos k2] at hh
  cases h3:decide (t=3) <;> cases h2:decide (t=2) <;> cases h1:decide (v.d=1) <;> simp only [bSa,↓bSb,bP,e2,a1,f0,l0,f2,l2,decide_eq_false k0,decide_eq_false k1,decide_eq_true k2,h3,h2,h1] <;> exact kb hh (by simp [h1,h2,h3])
 rw [if_neg k2] at hh
 have k3:v.kind=3:=by
  by_cases k3:v.kind=3
  ·exact k3
  ·rw [A29 k0 k1 k2 k3] at c; simp at c
 rw [if_pos k3] at hh
 simp only [bGa,↓bGb,bP,e2,a1,f0,l0,decide_eq_false k0,decide_eq_false k1,decide_eq_false k2]
 exact hh
end
end Go.DD

/- Contracts: coordinates of dimensions; cells. Conditions: those that each theorem states. -/
namespace Go.DD
open Go Go.Proofs
theorem ofF_s {d:List PDim} {x:List Int} {i:Nat} (h:i < d.length) (h2:i < x.length):ofF (d.drop i) (x.drop i)=if x[i] < d[i].lo∨lastC d[i] < x[i] then false else ofF (d.drop (i+1)) (x.drop (i+1)):=by
 rw [List.drop_eq_getElem_cons h,List.drop_eq_getElem_cons h2]; rfl
theorem ofF_e {d:List PDim} {x:List Int} {i:Nat} (h:d.length≤i):ofF (d.drop i) (x.drop i)=true:=by
 rw [List.drop_eq_nil_of_le h]; cases x.drop i <;> rfl
theorem A86 {v:List PVal} {a:List PAttr} {i:Nat} (h:i < v.length) (h2:i < a.length):fitsL (v.drop i) (a.drop i)=if fitsV v[i] a[i].type=false then false else fitsL (v.drop (i+1)) (a.drop (i+1)):=by
 rw [List.drop_eq_getElem_cons h,List.drop_eq_getElem_cons h2]; rfl
theorem A87 {v:List PVal} {a:List PAttr} {i:Nat} (h:v.length≤i):fitsL (v.drop i) (a.drop i)=true:=by
 rw [List.drop_eq_nil_of_le h]; cases a.drop i <;> rfl
def PsOK (ps:List Past) (hp:Tr DObj) (n0:Nat):Prop:=∀ q∈ps,(∀ j,Bl n0 j→q.a.get j=hp.get j)∧∀ j,Bl n0 j→q.b.get j=hp.get j
theorem PsOK.nil (hp:Tr DObj) (n0:Nat):PsOK [] hp n0:=fun q h=>by cases h
theorem PsOK.cons {hp:Tr DObj} {n0 i:Nat} {an:List Nat} {a b:Tr DObj} {ps:List Past} (h:PsOK ps hp n0) (h1:∀ j,j < n0→a.get j=hp.get j) (h2:∀ j,j < n0→b.get j=hp.get j):PsOK (⟨i,an,a,b⟩ :: ps) hp n0:=fun q hq=>by
 rcases List.mem_cons.1 hq with rfl | hq
 ·exact ⟨h1,h2⟩
 ·exact h q hq
theorem PsOK.al {hp hp':Tr DObj} {n0 i n n':Nat} {an:List Nat} (h:Al hp n hp' n') (hn:n0≤n):PsOK [⟨i,an,hp,hp'⟩] hp n0:=(PsOK.nil hp n0).cons (fun _ _=>rfl) fun j hj=>h.same j (Nat.lt_of_lt_of_le hj hn)
section
variable (k n0:Nat) (hp:Tr DObj) (nx:Nat) (K:DV→Tr DObj→Nat→Prop)
theorem kn_of (d x:DV) (l:List PDim) (m:List Int) (hn:n0≤nx) (h1:RL rDim hp (Bl n0) d l) (h2:RL rInt hp (Bl n0) x m) (hm:m.length < 900000) (hK:∀ hp' nx',Al hp nx hp' nx'→K (bv (ofB l m)) hp' nx'):KW (kN (k+2)) (.fn 157) [d,x] hp nx K:=by
 refine kn_1 (Aa2 (by decide)) t157 (Nat.le_of_ble_eq_true rfl) fun es e1 e2 he=>?_
 have a0:rawE es (.t .o)=d:=he 0 _ rfl
 have a1:rawE es (.t (.l .o))=x:=he 1 _ rfl
 unfold r157
 by_cases c:m.length=l.length
 ·have hb:ofB l m=ofF l m:=by unfold ofB; rw [decide_eq_true c]; rfl
  rw [hb] at hK
  simp only [bSa,↓bSb,a0,a1,e1,h1.len,h2.len,show decide (¬ m.length=l.length)=false by simp [c]]
  refine EW.up m.length (fun i es1=>Al hp nx es1.hp es1.nx∧rawE es1 (.t .o)=d∧rawE es1 (.t (.r (.l (.r .o))))=x∧rawE es1 (.t (.l (.r (.r .o))))=iv m.length∧rawE es1 (.t (.r (.r (.r .o))))=iv (i:Nat)∧ofF l m=ofF (l.drop i) (m.drop i)) ?_ ?_ (by omega)
  ·rintro i es1 hi ⟨g,b0,b12,b13,b14,hc⟩
   unfold B74
   by_cases h:i < m.length
   ·have h':i < l.length:=by omega
    have r1:=h1.ka hn g
    have r2:=h2.ka hn g
    rw [ofF_s h' h] at hc
    by_cases c1:m[i] < l[i].lo
    ·rw [if_pos (.inl c1)] at hc
     rw [hc] at hK
     simp only [bSa,↓bSb,bP,b0,b12,b13,b14,h,Ad5 r2 h,ints_at r2 h,Ad8 r1 h',Ah6 (k:=1) r1 h',(Ad1 r1 h').2.2.2.1,c1]
     exact hK _ _ g
    ·simp only [bSa,↓bSb,b0,b12,b13,b14,h,Ad5 r2 h,ints_at r2 h,Ad8 r1 h',Ah6 (k:=1) r1 h',(Ad1 r1 h').2.2.2.1,(Ad1 r1 h').1,c1]
     refine kws (Cg0 (k:=k) _ _ _ l[i] fun hp2 nx2 hal2=>?_)
     by_cases c2:lastC l[i] < m[i]
     ·rw [if_pos (.inr c2)] at hc
      rw [hc] at hK
      simp only [bSa,↓bSb,bP,c2]
      exact hK _ _ (g.trans hal2)
     ·rw [if_neg (by omega)] at hc
      simp only [bSa,↓bSb,b0,b12,b13,b14,h,c2,Aa3 (show i < _ by omega)]
      exact ⟨g.trans hal2,hc⟩
   ·simp only [bSa,↓bSb,bP,b13,b14,h]
    rw [ofF_e (by omega)] at hc
    rw [hc] at hK
    exact hK _ _ g
  ·simp only [bSa,a0,e1,e2]
 ·have hb:ofB l m=false:=by unfold ofB; rw [decide_eq_false c]; rfl
  rw [hb] at hK
  simp only [bSa,↓bSb,bP,a0,a1,e1,e2,h1.len,h2.len,c]
  exact hK _ _ (Al.refl _ _)
theorem Bq6 (d x:DV) (l:List PDim) (m:List Int) (hn:n0≤nx) (h1:RL rDim hp (Bl n0) d l) (h2:RL rInt hp (Bl n0) x m) (hm:l.length < 900000) (hK:∀ hp' nx',Al hp nx hp' nx'→K (bv (ofB l m)) hp' nx'):KW (kN (k+2)) (.fn 169) [d,x] hp nx K:=by
 refine kn_1 (Aa2 (by decide)) t169 (Nat.le_of_ble_eq_true rfl) fun es e1 e2 he=>?_
 have a0:rawE es (.t .o)=d:=he 0 _ rfl
 have a1:rawE es (.t (.l .o))=x:=he 1 _ rfl
 unfold r169
 by_cases c:m.length=l.length
 ·have hb:ofB l m=ofF l m:=by unfold ofB; rw [decide_eq_true c]; rfl
  rw [hb] at hK
  simp only [bSa,↓bSb,a0,a1,e1,h1.len,h2.len,show decide (¬ m.length=l.length)=false by simp [c]]
  refine EW.up l.length (fun i es1=>Al hp nx es1.hp es1.nx∧rawE es1 (.t .o)=d∧rawE es1 (.t (.l .o))=x∧rawE es1 (.t (.l (.r .o)))=iv (i:Nat)∧ofF l m=ofF (l.drop i) (m.drop i)) ?_ ?_ (by omega)
  ·rintro i es1 hi ⟨g,b0,b1,b5,hc⟩
   unfold B79
   have r1:=h1.ka hn g
   have r2:=h2.ka hn g
   have hle:=g.le
   by_cases h':i < l.length
   ·have h:i < m.length:=by omega
    rw [ofF_s h' h] at hc
    by_cases c1:m[i] < l[i].lo
    ·rw [if_pos (.inl c1)] at hc
     rw [hc] at hK
     simp only [bSa,↓bSb,bP,b0,b1,b5,h',r1.len,Ad5 r2 h,ints_at r2 h,Ad8 r1 h',Ah6 (k:=1) r1 h',(Ad1 r1 h').2.2.2.1,c1,r1.rox (show n0≤es1.nx by omega),r2.rox (show n0≤es1.nx by omega),Aj5 r1 (show n0≤es1.nx by omega),At6 r1 (show n0≤es1.nx by omega),Ac2 r2 (show n0≤es1.nx by omega)]
     exact hK _ _ (g.nx (by omega))
    ·simp only [bSa,↓bSb,b0,b1,b5,h',r1.len,Ad5 r2 h,ints_at r2 h,Ad8 r1 h',Ah6 (k:=1) r1 h',(Ad1 r1 h').2.2.2.1,(Ad1 r1 h').1,c1,r1.rox (show n0≤es1.nx by omega),r2.rox (show n0≤es1.nx by omega),Aj5 r1 (show n0≤es1.nx by omega),At6 r1 (show n0≤es1.nx by omega),Ac2 r2 (show n0≤es1.nx by omega),An8 (show DV.refsL (dc l[i])=[] from rfl)]
     refine Aa0 rfl (Aa7 ?_)
     simp only [bR,List.map_cons,List.map_nil]
     refine Bz7 (k:=k) _ _ _ l[i] fun hp2 nx2 hal2=>?_
     have hle2:=hal2.le
     by_cases c2:lastC l[i] < m[i]
     ·rw [if_pos (.inr c2)] at hc
      rw [hc] at hK
      simp only [bSa,↓bSb,bP,c2,hle2]
      exact ⟨Az1 r2 (fun j (hj:j < n0)=>by omega) (PsOK.al hal2 (by omega)) (At5 _ _ _) (Az1 r2 (fun j (hj:j < n0)=>by omega) (PsOK.al hal2 (by omega)) (fun _ h=>h) (Az1 r2 (fun j (hj:j < n0)=>by omega) (PsOK.al hal2 (by omega)) (fun _ h=>h) rfl)),hK _ _ ((g.nx (by omega)).trans hal2)⟩
     ·rw [if_neg (by omega)] at hc
      simp only [bSa,↓bSb,b0,b1,b5,h',c2,hle2,Aa3 (show i < _ by omega)]
      exact ⟨Az1 r2 (fun j (hj:j < n0)=>by omega) (PsOK.al hal2 (by omega)) (At5 _ _ _) (Az1 r2 (fun j (hj:j < n0)=>by omega) (PsOK.al hal2 (by omega)) (fun _ h=>h) (Az1 r2 (fun j (hj:j < n0)=>by omega) (PsOK.al hal2 (by omega)) (fun _ h=>h) rfl)),(g.nx (by omega)).trans hal2,hc⟩
   ·simp only [bSa,↓bSb,bP,b0,b5,h',r1.len]
    rw [ofF_e (by omega)] at hc
    rw [hc] at hK
    exact hK _ _ g
  ·simp only [bSa,a0,a1,e1,e2]
 ·have hb:ofB l m=false:=by unfold ofB; rw [decide_eq_false c]; rfl
  rw [hb] at hK
  simp only [bSa,↓bSb,bP,a0,a1,e1,e2,h1.len,h2.len,c]
  exact hK _ _ (Al.refl _ _)
end
end Go.DD
