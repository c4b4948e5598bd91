/- A part. -/
import Derived.Below
import Derived.Orders
import Derived.RecoverIn
import Derived.ControlIn
import Derived.OwnWalkIn
import Derived.Laws.Rows
import Derived.Laws.Append
import GoSem.Core.Program
import Derived.Laws.BytesArg
import Derived.Laws.StructEq
namespace Go.DD
abbrev Aa:=@List.getElem?_eq_getElem
abbrev Ab:=@Nat.le_of_ble_eq_true
abbrev Ac:=@Option.map_eq_some_iff
abbrev Ad:=@if_neg
abbrev Af:=@if_pos
abbrev Ag:=@List.map_cons
abbrev Ah:=@not_false_eq_true
abbrev Ai:=@Nat.le_refl
abbrev Aj:=@decide_eq_false
abbrev Ak:=@List.map_nil
abbrev Am:=@List.mem_singleton
abbrev Ap:=@List.length_append
abbrev Aq:=@List.mem_cons
abbrev Ar:=@decide_eq_true
abbrev As:=@List.getElem?_eq_some_iff
abbrev Au:=@List.mem_of_getElem?
abbrev Aw:=@List.mem_append
abbrev Az:=@Option.bind_eq_some_iff
abbrev Bb:=@List.drop_eq_getElem_cons
abbrev Bc:=@List.drop_eq_nil_of_le
abbrev Be:=@List.mem_cons_of_mem
abbrev Bf:=@List.length_singleton
abbrev Bh:=@List.getElem_mem
abbrev Bi:=@List.all_eq_true
abbrev Bm:=@List.mem_map
abbrev Bn:=@iff_true_intro
abbrev Bo:=@Bool.and_eq_true
abbrev Bp:=@Nat.lt_of_lt_of_le
abbrev Bq:=@List.mem_iff_getElem
abbrev Br:=@List.length_map
abbrev Bs:=@List.length_take
abbrev Bt:=@Array.getElem?_eq_some_iff
abbrev Bu:=@List.append_assoc
abbrev Bv:=@List.nil_append
abbrev Bx:=@ne_eq
abbrev Bz:=@List.getElem?_take
abbrev Cc:=@List.take_of_length_le
abbrev Cf:=@Option.map_some
abbrev Ci:=@List.not_mem_nil
abbrev Ck:=@Array.length_toList
abbrev Cp:=@Nat.zero_add
abbrev Cr:=@List.length_drop
abbrev Cu:=@Nat.mul_le_mul_right
abbrev Cw:=@List.map_append
abbrev Cy:=@List.pairwise_iff_getElem
abbrev Cz:=@List.getElem?_append_left
abbrev Da:=@Iff.rfl
abbrev Dd:=@Nat.lt_or_ge
abbrev De:=@Array.ext'
abbrev Df:=@List.mem_of_mem_drop
abbrev Dh:=@List.append_nil
abbrev Dk:=@Array.getElem?_toList
abbrev Dn:=@beq_eq_false_iff_ne
abbrev Dq:=@List.mem_append_left
abbrev Dr:=@List.getElem?_append
abbrev Du:=@Option.isSome_iff_exists
abbrev Dv:=@List.mem_cons_self
abbrev Dw:=@List.getElem?_take_of_lt
abbrev Dz:=@Nat.add_mul
abbrev Ea:=@List.map_congr_left
abbrev Ec:=@List.length_cons
abbrev Ed:=@Option.some.injEq
abbrev Ee:=@List.getElem?_map
abbrev Ef:=@List.eq_nil_of_length_eq_zero
abbrev Eh:=@Bool.false_eq_true
abbrev Ek:=@Ne.symm
abbrev El:=@List.getElem_of_mem
abbrev Em:=@List.mem_append_right
abbrev Ep:=@Nat.le_trans
abbrev Er:=@List.getElem_take
abbrev Ex:=@if_true
abbrev Ey:=@List.mem_filter
abbrev Fe:=@of_decide_eq_true
abbrev Ff:=@not_true_eq_false
abbrev Fg:=@Nat.eq_of_beq_eq_true
abbrev Fh:=@List.getElem?_eq_none
abbrev Fm:=@List.pairwise_cons
abbrev Fq:=@Nat.lt_succ_self
abbrev Fs:=@List.getElem_map
abbrev Fu:=@Array.getD_eq_getD_getElem?
abbrev Fx:=@eq_self
abbrev Fy:=@List.take_succ_eq_append_getElem
abbrev Fz:=@List.length_range
abbrev Gc:=@Option.bind_eq_bind
abbrev Ge:=@Option.some.inj
abbrev Gh:=@Array.getElem?_setIfInBounds_ne
abbrev Gm:=@beq_iff_eq
abbrev Gn:=@List.mem_filterMap
abbrev Gp:=@Bool.false_or
abbrev Gu:=@Nat.zero_le
abbrev Gv:=@List.mem_of_mem_take
abbrev Gx:=@List.mapM_cons
abbrev Hc:=@Int.toNat_natCast
abbrev Hd:=@Bool.eq_false_iff
abbrev Hf:=@Option.pure_def
abbrev Hi:=@List.findIdx?_eq_some_iff_findIdx_eq
abbrev Hn:=@decide_false
abbrev Ho:=@List.getElem_cons_zero
abbrev Hs:=@Bool.not_true
abbrev Hu:=@Option.getD_some
abbrev Ib:=@if_false
abbrev Ic:=@List.getElem_range
abbrev Iq:=@List.nodup_append
abbrev Ir:=@List.ext_getElem?
abbrev It:=@Nat.lt_irrefl
abbrev Jd:=@List.replicate_succ
abbrev Ji:=@beq_self_eq_true
abbrev Jj:=@List.ext_getElem
abbrev Jk:=@List.Nodup.length_le_of_subset
abbrev Jl:=@Array.toList_inj
abbrev Jm:=@Array.eq_empty_of_size_eq_zero
abbrev Js:=@List.getElem?_drop
abbrev Jy:=@List.nodup_cons
abbrev Jz:=@Bool.or_eq_true
abbrev Ke:=@List.contains_iff_mem
abbrev Kf:=@Array.getElem?_modify
abbrev Km:=@decide_eq_true_eq
abbrev Kn:=@List.getElem_drop
abbrev Ko:=@List.drop_sublist
abbrev Lb:=@Nat.blt_eq
abbrev Lc:=@List.drop_zero
abbrev Ld:=@Bool.or_eq_false_iff
abbrev Le:=@Array.toList_setIfInBounds
abbrev Lk:=@getElem!_pos
abbrev Ll:=@List.cons_append
abbrev Lz:=@Array.getElem?_eq_getElem
abbrev Mq:=@congrArg
abbrev Mr:=@Nat.add_assoc
abbrev Mw:=@List.range_succ
abbrev Mx:=@List.length_set
abbrev My:=@List.length_nil
abbrev Na:=@List.filter_append
abbrev Oq:=@Nat.add_zero
abbrev Ot:=@List.size_toArray
abbrev Ou:=@List.flatMap_cons
abbrev Pm:=@List.getElem?_toArray
abbrev Pr:=@Option.bind_some
abbrev Ps:=@List.mem_nil_iff
abbrev Pt:=@List.mem_flatMap
abbrev Pu:=@List.getElem_set
abbrev Pv:=@List.filter_cons
abbrev Ql:=@decide_true
abbrev Qm:=@Nat.one_mul
abbrev Rh:=@List.length_pos_iff
abbrev Rm:=@Nat.add_comm
abbrev Sn:=@Nat.ble_eq
abbrev So:=@Nat.add_sub_cancel
abbrev Sp:=@List.mem_eraseDups
abbrev Sq:=@Bool.and_false
abbrev Tj:=@List.mem_or_eq_of_mem_set
abbrev Tk:=@List.extract_eq_take_drop
abbrev Uk:=@Int.le_refl
abbrev Uy:=@List.mapM_nil
abbrev Wd:=@eq_false
abbrev We:=@Nat.lt_of_not_le
abbrev Wf:=@Nat.add_sub_cancel_left
abbrev Wg:=@List.getElem?_replicate
abbrev Wh:=@List.getElem?_cons_zero
abbrev Wi:=@List.filter_cons_of_pos
abbrev Wj:=@List.filter_cons_of_neg
abbrev Wl:=@List.any_eq_true
abbrev Wm:=@Int.eq_ofNat_of_zero_le
abbrev Xj:=@List.getElem?_set_self
abbrev Xk:=@List.drop_of_length_le
abbrev Xl:=@Array.toList_replicate
abbrev Yr:=@Bool.eq_iff_iff
abbrev Yx:=@Array.getElem?_append
abbrev aQ:=@Nat.mul_le_mul
abbrev aR:=@List.pairwise_append
abbrev aS:=@List.mem_range
abbrev aT:=@List.getElem?_set_ne
abbrev aU:=@Array.mem_toList_iff
def ta(ops:Array Oper):Option Nat:=match ops.toList with
 | [o]=>match o.op,o.dst,o.guard with
  | .call c,some t,none=>match c.callee with
   | .builtin .recover=>some t
   | _=>none
  | _,_,_=>none
 | _=>none
def Cb4(P:Program)(T:TypeId):Bool:=match P.underlying T with
 | some (.interface _)=>true
 | _=>false
def sy(P:Program)(t5:Nat)(ops:Array Oper):Option Nat:=match ops.toList with
 | [o]=>match o.op,o.dst,o.guard with
  | .binOp .eql T (.tmp t) (.const .nilIface) _,some t7,none=>if t=t5/\Cb4 P T=true then some t7 else none
  | _,_,_=>none
 | _=>none
def sx(ops:Array Oper):Bool:=match ops.toList with
 | [o]=>match o.op,o.dst,o.guard with
  | .assign (.tmp _),some _,none=>true
  | _,_,_=>false
 | _=>false
def Cb5(P:Program)(nt:Nat):Code->Bool
 | .seq (.region _ a false) (.block _ (.seq (.region _ b false) (.cond (.tmp t) (.region _ c false) _)))=>match ta a with
  | some t5=>match sy P t5 b with
   | some t7=>decide (t7=t/\t5<nt/\t7<nt)&&sx c
   | none=>false
  | none=>false
 | _=>false
def OH(P:Program)(g:FuncId):Bool:=match P.funcs[g]? with
 | some fn=>fn.name != "runtime.NumGoroutine" && decide (fn.results.size=0)&&match fn.body with
  | some c=>Cb5 P fn.ntmps c
  | none=>false
 | none=>false
theorem Bc6{ops:Array Oper}{t:Nat}(h:ta ops=some t):∃ o c,ops = #[o]/\o.op=.call c/\c.callee=.builtin .recover/\o.dst=some t/\o.guard=none:=by
 unfold ta at h
 split at h
 rotate_left
 .cases h
 rename_i o ho
 have e:ops = #[o]:=by apply De;simpa using ho
 split at h
 .rename_i c t' h1 h2 h3
  split at h
  .rename_i h4;cases h;exact ⟨o,c,e,h1,h4,h2,h3⟩
  .cases h
 .cases h
theorem Bc7{P:Program}{t5:Nat}{ops:Array Oper}{t:Nat}(h:sy P t5 ops=some t):∃ o T T' ms,P.underlying T=some (.interface ms)/\ops = #[o]/\o.op=.binOp .eql T (.tmp t5) (.const .nilIface) T'/\o.dst=some t/\o.guard=none:=by
 unfold sy at h
 split at h
 rotate_left
 .cases h
 rename_i o ho
 have e:ops = #[o]:=by apply De;simpa using ho
 split at h
 .rename_i T t6 T' t7 h1 h2 h3
  split at h
  .rename_i h4
   cases h
   obtain ⟨rfl,h5⟩:=h4
   unfold Cb4 at h5
   split at h5
   .rename_i ms hm;exact ⟨o,T,T',ms,hm,e,h1,h2,h3⟩
   .cases h5
  .cases h
 .cases h
theorem Bc8{ops:Array Oper}(h:sx ops=true):∃ o x t,ops = #[o]/\o.op=.assign x/\o.dst=some t/\o.guard=none:=by
 unfold sx at h
 split at h
 rotate_left
 .cases h
 rename_i o ho
 have e:ops = #[o]:=by apply De;simpa using ho
 split at h
 .rename_i x t h1 h2 h3;exact ⟨o,_,t,e,h1,h2,h3⟩
 .cases h
theorem B36{P:Program}{g:FuncId}(h:OH P g=true)(Lv:Array Value)(w:World) :
  (invoke (.fn (.func g) Lv) #[]).run P w=.ok (.enter g Lv) w/\CallsDIn Fence.wide 0 P g Lv .returning w λe u' w'=>u'=.returning/\(∃ v,e=.returned v)/\w'=w:=by
 unfold OH at h
 split at h
 rotate_left
 .cases h
 rename_i fn hf
 simp only [Bo,bne_iff_ne,Bx,Km] at h
 obtain ⟨⟨IP,dZ⟩,h⟩:=h
 split at h
 rotate_left
 .cases h
 rename_i body hb
 refine ⟨?_,callsDIn_of_wpSIn hf hb trivial λc₀ cs hu=>?_⟩
 .simp [invoke,callFunc,hf,hb,IP]
 unfold Cb5 at h
 split at h
 rotate_left
 .cases h
 split at h
 rotate_left
 .cases h
 rename_i i0 a i1 i2 b t i3 c y t5 h0
 split at h
 rotate_left
 .cases h
 rename_i t7 h1
 simp only [Bo,Km] at h
 obtain ⟨⟨rfl,hl5,hl7⟩,h2⟩:=h
 obtain ⟨o0,c0,rfl,dz,Gs,JY,QG⟩:=Bc6 h0
 obtain ⟨o1,T,T',ms,eo,rfl,IG,kV,Dm⟩:=Bc7 h1
 obtain ⟨o2,x,t2,rfl,IF,rK,Ft⟩:=Bc8 h2
 have gM:recoverD (c₀::cs)=none:=by simp [recoverD,hu]
 have je:∀ (ρ:Operand->Value),(execOp ρ o0).run P w=.ok .recover w:=λρ=>by
  simp [execOp,dz,resolve,Gs,invoke,builtin]
 refine wpSIn_seq (wpSIn_region ?_)
 simp only [wpOpsSIn,Ot,Bf,List.range_one,Pm,Wh,Region.wanted,QG,Ex]
 refine ⟨λ_ _=>trivial,?_⟩
 rw [je]
 simp only [gM]
 have He:Lv.size+(fn.ntmps-Lv.size)=(Lv++Array.replicate (fn.ntmps-Lv.size) undef).size:=by simp
 obtain ⟨a1,gX⟩:∃ a1,Act.put { tmps:=Lv++Array.replicate (fn.ntmps-Lv.size) undef,defers:=[] } o0.dst .nilIface=a1:=⟨_,rfl⟩
 have e5:a1.tmps.getD t5 undef=.nilIface:=by
  rw [<- gX,JY]
  have:t5<Lv.size+(fn.ntmps-Lv.size):=by omega
  simp [Act.put,this]
 have An:fn.ntmps<=a1.tmps.size:=by
  rw [<- gX,JY];simp [Act.put];omega
 have ed1:a1.defers=[]:=by rw [<- gX,JY];rfl
 rw [gX]
 show Code.wpSIn _ _ _ _ _ a1 (c₀::cs) w
 refine wpSIn_of_wpIn rfl (wpIn_block (wpIn_seq (wpIn_region ?_)))
 simp only [wpOpsIn,Ot,Bf,List.range_one,Pm,Wh,Region.wanted,Dm,Ex]
 have en:∀ c,o1.op≠.defer c:=λc hc=>by rw [IG] at hc;cases hc
 have jd:(execOp a1.eval o1).run P w=.ok (.value (.bool true)) w:=by
  have he:∀ d,(Op.equalIn (d+1) T .nilIface .nilIface).run P w=.ok true w:=λd=>by simp [Op.equalIn,run_underlying eo]
  have g1:(eqGuard .eql T (.tmp t5) (.const .nilIface) .nilIface .nilIface).run P w=.ok () w:=by simp [eqGuard]
  have g2:(binOp .eql T .nilIface .nilIface).run P w=.ok (.bool true) w:=by simp [binOp,Op.equal,Op.maxDepth,he 9999]
  have e6:a1.eval (.tmp t5)=.nilIface:=e5
  have e7:a1.eval (.const .nilIface)=.nilIface:=rfl
  simp only [execOp,IG,e6,e7,Sem.run_bind,g1,Result.andThen_ok,g2,Sem.run_pure]
 refine ⟨λ_ _=>trivial,?_⟩
 rw [Oper.semAt_plain _ _ _ en,jd,Oper.uponIn_value]
 obtain ⟨a2,bT⟩:∃ a2,a1.put o1.dst (.bool true)=a2:=⟨_,rfl⟩
 have e7:a2.eval (.tmp t7)=.bool true:=by
  rw [<- bT,kV]
  have:t7<a1.tmps.size:=by omega
  simp [Act.put,Act.eval,this]
 have ed2:a2.defers=[]:=by rw [<- bT,kV];exact ed1
 rw [bT]
 refine wpIn_cond_true e7 (wpIn_region ?_)
 simp only [wpOpsIn,Ot,Bf,List.range_one,Pm,Wh,Region.wanted,Ft,Ex]
 have ej:∀ c,o2.op≠.defer c:=λc hc=>by rw [IF] at hc;cases hc
 have jc:(execOp a2.eval o2).run P w=.ok (.value (a2.eval x)) w:=by simp [execOp,IF]
 refine ⟨λ_ _=>trivial,?_⟩
 rw [Oper.semAt_plain _ _ _ ej,jc,Oper.uponIn_value]
 rw [rK]
 show Act.defers a2=[]/\_
 refine ⟨ed2,.returning,?_,.tuple #[],?_,rfl,⟨_,rfl⟩,rfl⟩
 .rw [<- hu]
 .have:fn.results = #[]:=Jm dZ
  simp [results,this]
end Go.DD

/- The operations and the code of the deep layer, compiled from the model's. -/
namespace Go.DD
open Go.RowKit (Below)
inductive KD where
 | p (d:TypeDesc)
 | f (ks:List Nat)
 deriving Inhabited
inductive DOp where
 | mv (x:Operand)
 | pick (c a b:Operand)
 | al (T:TypeId) (z:List Value)
 | bx (T:TypeId) (x:Operand)
 | bld (z:List Value) (ps:List (Nat×Nat×Operand))
 | bsl (T:TypeId) (n es:Nat) (z:List Value) (ps:List (Nat×Nat×Operand))
 | ld (k:Option Nat) (x:Operand)
 | st (n:Nat) (a x:Operand)
 | nck (x:Operand)
 | bin (op:BinOp) (x y:Operand)
 | bb (neg:Bool) (x y:Operand)
 | eqs (neg:Bool) (ks:List Nat) (x y:Operand)
 | nilq (k:Nat) (neg:Bool) (x y:Operand)
 | un (op:UnOp) (x:Operand)
 | cvi (k:IntKind) (x:Operand)
 | fa (off:Nat) (x:Operand)
 | fld (off:Nat) (k:Option Nat) (x:Operand)
 | ia (es:Nat) (x i:Operand)
 | ixs (x i:Operand)
 | sli (es:Nat) (x:Operand) (lo hi:Option Operand)
 | sls (x:Operand) (lo hi:Option Operand)
 | len (x:Operand)
 | lns (x:Operand)
 | app (T:TypeId) (es bytes:Nat) (s x:Operand)
 | mks (T:TypeId) (es bytes:Nat) (z:List Value) (l c:Operand)
 | mkf (f:Fn) (fst cap:List Operand)
 | ext (x:Operand) (i:Nat)
 | mm (mx:Bool) (x y:Operand)
 | mkm
 | lkp (kd:KD) (z:Value) (x k:Operand) (ok:Bool)
 | mup (kd:KD) (x k y:Operand)
 | men (kd:KD) (z:Value) (x k:Operand)
 | mes (x st y:Operand)
 | rgm (x:Operand)
 | nxm (k:Bool) (x:Operand)
 | rgs (x:Operand)
 | nxs (x:Operand)
 | mki (T:TypeId) (x:Operand)
 | tas (T:TypeId) (z:Value) (x:Operand) (ok:Bool)
 | sla (T:TypeId) (n es:Nat) (x:Operand)
 | cpy (es:Nat) (x y:Operand)
 | lnm (x:Operand)
 | fx (n es:Nat) (x i:Operand)
 | s2b (x:Operand)
 | b2s (x:Operand)
 | frz (x:Operand)
 | cpn (x:Operand)
 | mdl (kd:KD) (x k:Operand)
 | apz (T:TypeId) (es bytes:Nat) (d n:Operand)
 | call (f:FuncId) (args:List Operand)
 | cv (tb:Option (List (TypeId×FuncId))) (f:Operand) (args:List Operand)
 | bad
 deriving Inhabited
def Of(P:Program)(t:TypeId):Option (Option Nat):=
 match P.underlying t,P.info? t with
 | some (.struct _),some i=>some (some i.size)
 | some (.array _ _),some i=>some (some i.size)
 | some _,some i=>if i.size=1 then some none else none
 | _,_=>none
def Mh(P:Program)(t:TypeId):Option (List Value):=
 ((P.info? t).bind (·.zero)).bind λz=>if z.cells.toList.all (·.oneCell') then some z.cells.toList else none
def rY(P:Program)(t:TypeId):Option Nat:=
 match P.underlying t with
 | some (.int _)=>some 0
 | some .bool=>some 1
 | some .string=>some 2
 | _=>none
def qQ(P:Program)(off:Nat):List Field->Option (List Nat)
 | []=>some []
 | f::fs=>if f.name != "_" && f.offset==off then (rY P f.type).bind λk=>(qQ P (off+1) fs).map λks=>k::ks else none
def Oj(P:Program)(t:TypeId):Bool:=match P.underlying t with
 | some (.array _ _)=>true
 | _=>false
def Tv(P:Program)(kt:TypeId):Option KD:=match P.underlying kt with
 | some (.struct fs)=>if P.stoodInHeld kt=false then (qQ P 0 fs.toList).map .f else none
 | some (.array n e)=>match Of P e with
  | some none=>(rY P e).map λk=>.f (List.replicate n k)
  | _=>none
 | some d=>some (.p d)
 | none=>none
def Zy(P:Program)(t:TypeId):Option KD:=
 match P.underlying t with
 | some (.map kt _)=>Tv P kt
 | _=>none
def sZ(P:Program)(name:String)(T:TypeId):Option FuncId:=match P.underlying T with
 | some (.pointer _)=>match P.info? T with
  | some i=>match i.methods.find? (·.name==name) with
   | some m=>if m.path.isEmpty then match m.func with
     | some (f,true)=>some f
     | _=>none
    else none
   | none=>none
  | none=>none
 | _=>none
def nM(P:Program)(name:String):List (TypeId×FuncId):=(List.range P.types.size).filterMap λT=>(sZ P name T).map λf=>(T,f)
def Qj:Operand->Bool
 | .const _=>true
 | _=>false
def fH(P:Program):Op->Option DOp
 | .move x=>some (.mv x)
 | .assign x=>some (.mv x)
 | .pick c a b=>some (.pick c a b)
 | .alloc T=>(Mh P T).map λz=>.al T z
 | .box T x=>some (.bx T x)
 | .build t ps=>match P.underlying t,Mh P t with
  | some (.struct fs),some z=>if fs.toList.all (λf=>P.cellsOf f.type != 0)=false then none else (ps.toList.mapM λp=>(fs[p.1]?).map λf=>(f.offset,P.cellsOf f.type,p.2)).map λl=>.bld z l
  | _,_=>none
 | .buildSlice t n ps=>match P.underlying t with
  | some (.slice e)=>(Mh P e).bind λz=>if Oj P e=false/\n*P.cellsOf e<=65536/\0<P.cellsOf e then some (.bsl e n (P.cellsOf e) z (ps.toList.map λp=>(p.1*P.cellsOf e,P.cellsOf e,p.2))) else none
  | _=>none
 | .load t x=>(Of P t).map λk=>.ld k x
 | .store t a x=>(Of P t).map λk=>.st (k.getD 1) a x
 | .nilCheck x=>some (.nck x)
 | .binOp op t x y _=>
  match P.underlying t with
  | some (.int _)=>some (.bin op x y)
  | some .string=>some (.bin op x y)
  | some .bool=>match op with
   | .eql=>some (.bb false x y)
   | .neq=>some (.bb true x y)
   | _=>none
  | some (.struct fs)=>if P.eqGuardType P.depth t=false/\P.stoodInHeld t=false then match op with
   | .eql=>(qQ P 0 fs.toList).map λks=>.eqs false ks x y
   | .neq=>(qQ P 0 fs.toList).map λks=>.eqs true ks x y
   | _=>none
   else none
  | some (.slice _)=>match op with
   | .eql=>some (.nilq 0 false x y)
   | .neq=>some (.nilq 0 true x y)
   | _=>none
  | some (.pointer _)=>match op with
   | .eql=>some (.nilq 1 false x y)
   | .neq=>some (.nilq 1 true x y)
   | _=>none
  | some (.map _ _)=>match op with
   | .eql=>some (.nilq 2 false x y)
   | .neq=>some (.nilq 2 true x y)
   | _=>none
  | some (.func _ _ _)=>match op with
   | .eql=>some (.nilq 3 false x y)
   | .neq=>some (.nilq 3 true x y)
   | _=>none
  | some (.interface _)=>if Qj x||Qj y then match op with
   | .eql=>some (.nilq 4 false x y)
   | .neq=>some (.nilq 4 true x y)
   | _=>none
   else none
  | _=>none
 | .unOp op _ x=>some (.un op x)
 | .convert src dst x=>match P.underlying src,P.underlying dst with
  | some (.int _),some (.int k)=>some (.cvi k x)
  | some .string,some (.slice e)=>match P.underlying e with
   | some (.int .u8)=>some (.s2b x)
   | _=>none
  | some (.slice e),some .string=>match P.underlying e with
   | some (.int .u8)=>some (.b2s x)
   | _=>none
  | some (.slice e),some (.slice _)=>if src=dst then match P.underlying e with
   | some (.int .u8)=>some (.frz x)
   | _=>none
   else none
  | _,_=>none
 | .makeFunc f first cap=>some (.mkf f first.toList cap.toList)
 | .makeSlice t l c=>match P.underlying t with
  | some (.slice e)=>if Oj P e=false then (Mh P e).map λz=>.mks e (P.cellsOf e) (P.bytesOf e) z l c else none
  | _=>none
 | .slice t x lo hi mx=>match mx,P.underlying t with
  | none,some (.slice e)=>if (P.info? e).isSome then some (.sli (P.cellsOf e) x lo hi) else none
  | none,some .string=>some (.sls x lo hi)
  | none,some (.array n e)=>match lo,hi with
   | none,none=>if 0<P.cellsOf e/\0<n/\n<=2147483648 then some (.sla t n (P.cellsOf e) x) else none
   | _,_=>none
  | _,_=>none
 | .fieldAddr t x f=>match P.underlying t with
  | some (.struct fs)=>(fs[f]?).bind λf=>if P.cellsOf f.type=0 then none else some (.fa f.offset x)
  | _=>none
 | .field t x f=>match P.underlying t with
  | some (.struct fs)=>(fs[f]?).bind λf=>(Of P f.type).map λk=>.fld f.offset k x
  | _=>none
 | .indexAddr t x i=>match P.underlying t with
  | some (.slice e)=>if P.cellsOf e=0 then none else some (.ia (P.cellsOf e) x i)
  | some (.array n e)=>if P.cellsOf e=0 then none else some (.fx n (P.cellsOf e) x i)
  | _=>none
 | .index t x i=>match P.underlying t with
  | some .string=>some (.ixs x i)
  | _=>none
 | .extract x i=>some (.ext x i)
 | .call c=>match c.callee with
  | .value (.func f)=>some (.call f c.args.toList)
  | .value f=>some (.cv none f c.args.toList)
  | .invoke x name=>some (.cv (some (nM P name)) x c.args.toList)
  | .builtin .len=>match c.args.toList,c.argTypes[0]? with
   | [x],some t=>match P.underlying t with
    | some (.slice _)=>some (.len x)
    | some .string=>some (.lns x)
    | some (.map _ _)=>some (.lnm x)
    | _=>none
   | _,_=>none
  | .builtin .append=>match c.args.toList,c.argTypes.toList with
   | [s,x],[t,t']=>if t=t' then match P.underlying t with
    | some (.slice e)=>(Mh P e).bind λz=>if Oj P e=false/\z.length=P.cellsOf e then some (.app e (P.cellsOf e) (P.bytesOf e) s x) else none
    | _=>none
    else match P.underlying t,P.underlying t' with
    | some (.slice e),some (.int _)=>(Mh P e).bind λz=>if Oj P e=false/\z.length=P.cellsOf e then some (.apz e (P.cellsOf e) (P.bytesOf e) s x) else none
    | _,_=>none
   | _,_=>none
  | .builtin .delete=>match c.args.toList,c.argTypes[0]? with
   | [x,k],some t=>(Zy P t).map λkd=>.mdl kd x k
   | _,_=>none
  | .builtin .cap=>match c.args.toList,c.argTypes[0]? with
   | [x],some t=>match P.underlying t with
    | some (.slice _)=>some (.cpn x)
    | _=>none
   | _,_=>none
  | .builtin .copy=>match c.args.toList,c.argTypes[0]? with
   | [x,y],some t=>match P.underlying t with
    | some (.slice e)=>if 0<P.cellsOf e then some (.cpy (P.cellsOf e) x y) else none
    | _=>none
   | _,_=>none
  | .builtin .min=>match c.args.toList with
   | [x,y]=>some (.mm false x y)
   | _=>none
  | .builtin .max=>match c.args.toList with
   | [x,y]=>some (.mm true x y)
   | _=>none
  | _=>none
 | .makeMap _ r=>match r with
  | none=>some .mkm
  | some _=>none
 | .lookup t x k ok=>match P.underlying t with
  | some (.map kt et)=>match Tv P kt,(P.info? et).bind (·.zero) with
   | some kd,some z=>some (.lkp kd z x k ok)
   | _,_=>none
  | _=>none
 | .mapEntry t x k=>match P.underlying t with
  | some (.map kt et)=>match Tv P kt,(P.info? et).bind (·.zero) with
   | some kd,some z=>some (.men kd z x k)
   | _,_=>none
  | _=>none
 | .entryStore _ x st y=>some (.mes x st y)
 | .range t x=>match P.underlying t with
  | some (.map _ _)=>some (.rgm x)
  | some .string=>some (.rgs x)
  | _=>none
 | .next x isS=>if isS=false then some (.nxm false x) else some (.nxs x)
 | .entry x=>some (.nxm true x)
 | .makeInterface t x=>match P.underlying t with
  | some (.interface _)=>none
  | some _=>some (.mki t x)
  | none=>none
 | .typeAssert x _ t ok=>match P.underlying t with
  | some (.interface _)=>none
  | some _=>match (P.info? t).bind (·.zero) with
   | some z=>some (.tas t z x ok)
   | none=>none
  | none=>none
 | .mapUpdate t x k y=>(Zy P t).map λkd=>.mup kd x k y
 | .insert t x k y=>(Zy P t).map λkd=>.mup kd x k y
 | _=>none
structure DR where
 dst:Option Nat
 g:Option (Nat×Bool)
 op:DOp
 pre:List Nat
 deriving Inhabited
def DOp.opnds:DOp->List Operand
 | .mv x=>[x]
 | .pick c a b=>[c,a,b]
 | .al _ _=>[]
 | .bx _ x=>[x]
 | .bld _ ps=>ps.map (·.2.2)
 | .bsl _ _ _ _ ps=>ps.map (·.2.2)
 | .ld _ x=>[x]
 | .st _ a x=>[a,x]
 | .nck x=>[x]
 | .bin _ x y=>[x,y]
 | .bb _ x y=>[x,y]
 | .eqs _ _ x y=>[x,y]
 | .nilq _ _ x y=>[x,y]
 | .un _ x=>[x]
 | .cvi _ x=>[x]
 | .fa _ x=>[x]
 | .fld _ _ x=>[x]
 | .ia _ x i=>[x,i]
 | .ixs x i=>[x,i]
 | .sli _ x lo hi=>x::(lo.toList++hi.toList)
 | .sls x lo hi=>x::(lo.toList++hi.toList)
 | .len x=>[x]
 | .lns x=>[x]
 | .app _ _ _ d x=>[d,x]
 | .mks _ _ _ _ l c=>[l,c]
 | .mkf _ fst cap=>fst++cap
 | .ext x _=>[x]
 | .mm _ x y=>[x,y]
 | .mkm=>[]
 | .lkp _ _ x k _=>[x,k]
 | .mup _ x k y=>[x,k,y]
 | .men _ _ x k=>[x,k]
 | .mes x q y=>[x,q,y]
 | .rgm x=>[x]
 | .nxm _ x=>[x]
 | .rgs x=>[x]
 | .nxs x=>[x]
 | .mki _ x=>[x]
 | .tas _ _ x _=>[x]
 | .sla _ _ _ x=>[x]
 | .cpy _ x y=>[x,y]
 | .lnm x=>[x]
 | .fx _ _ x i=>[x,i]
 | .s2b x=>[x]
 | .b2s x=>[x]
 | .frz x=>[x]
 | .cpn x=>[x]
 | .mdl _ x k=>[x,k]
 | .apz _ _ _ d n=>[d,n]
 | .call _ args=>args
 | .cv _ f args=>f::args
 | .bad=>[]
def DR.tmps(r:DR):List Nat:=r.op.opnds.filterMap (λ| .tmp t=>some t | _=>none)++(match r.g with | some (t,_)=>[t] | none=>[])
def Li:List DR->List (List Nat)->List (List Nat)
 | [],acc=>acc
 | r::rs,acc=>Li rs (acc ++ [(r.pre++r.pre.flatMap λj=>(acc[j]?).getD []).eraseDups])
structure OI where
 an:List Nat
 cls:Nat
 tgt:Nat
 wide:Bool
 deriving Inhabited
structure RI where
 l:List OI
 ok:Bool
 deriving Inhabited
def DOp.kind:DOp->Nat
 | .al _ _=>1
 | .bx _ _=>1
 | .bsl _ _ _ _ _=>1
 | .mks _ _ _ _ _ _=>1
 | .apz _ _ _ _ _=>1
 | .mkm=>1
 | .st _ _ _=>2
 | .app _ _ _ _ _=>2
 | .mup _ _ _ _=>2
 | .call _ _=>2
 | .cv _ _ _=>2
 | .men _ _ _ _=>2
 | .mes _ _ _=>2
 | .rgm _=>1
 | .nxm _ _=>2
 | .rgs _=>1
 | .nxs _=>2
 | .cpy _ _ _=>2
 | .mdl _ _ _=>2
 | .frz _=>2
 | .bad=>2
 | _=>0
def DOp.rdC:DOp->Bool
 | .ld _ _=>true
 | .st _ _ _=>true
 | .app _ _ _ _ _=>true
 | .lkp _ _ _ _ _=>true
 | .mup _ _ _ _=>true
 | .men _ _ _ _=>true
 | .mes _ _ _=>true
 | .rgm _=>true
 | .nxm _ _=>true
 | .nxs _=>true
 | .lnm _=>true
 | .sla _ _ _ _=>true
 | .cpy _ _ _=>true
 | .mdl _ _ _=>true
 | .b2s _=>true
 | .frz _=>true
 | .call _ _=>true
 | .cv _ _ _=>true
 | .bad=>true
 | _=>false
def Ua(rs:List DR)(t:Nat):Option Nat:=rs.findIdx? (λr=>r.dst==some t)
def SF(rs:List DR):DOp->Option Nat
 | .mup _ (.tmp t) _ _=>match Ua rs t with
  | some j=>match rs[j]? with
   | some r=>match r.op with
    | .mkm=>some j
    | _=>none
   | none=>none
  | none=>none
 | _=>none
def lR(rs:List DR):RI:=
 let an:=Li rs []
 let ix:=List.range rs.length
 let A (i j:Nat):Bool:=((an[i]?).getD []).contains j
 let kd (i:Nat):Nat:=((rs[i]?).map λr=>if (SF rs r.op).isSome then 3 else r.op.kind).getD 0
 let ks:=ix.map kd
 let K (i:Nat):Nat:=(ks[i]?).getD 0
 let nO:=ix.filter λi=>K i==2
 let l:=rs.zipIdx.map λ(r,i)=>{ an:=(an[i]?).getD [],cls:=K i,tgt:=(SF rs r.op).getD 0,wide:=nO.any λq=>!A q i && !A i q:OI }
 let ok:=
  (rs.zipIdx.all λ(r,i)=>(r.pre.all λj=>decide (j<i)) &&
   (match r.dst with | some t=>Ua rs t==some i | none=>true) &&
   r.tmps.all λt=>match Ua rs t with | some p=>A i p||A p i||p==i | none=>true) &&
  (nO.all λb=>nO.all λa=>!(decide (a<b))||A b a) &&
  (l.zipIdx.all λ(o,w)=>o.cls != 3||(A w o.tgt&&ix.all λi=>!A i o.tgt||A i w||A w i||w==i))
 { l:=l,ok:=ok }
inductive DC where
 | skip
 | ret
 | exit (id:Nat)
 | seq (a b:DC)
 | cond (x:Operand) (a b:DC)
 | blk (id:Nat) (c:DC)
 | loop (c:DC)
 | reg (draw:Bool) (ops:List DR) (info:RI)
 | rng (g:Operand) (ps:List Nat) (assign body:DC)
 | dfq (t:Nat) (g:FuncId) (cap:List Operand)
 | bad
 deriving Inhabited
def Uj(P:Program)(f:FuncId):Bool:=
 match P.funcs[f]? with
 | some fn=>fn.body.isSome&&fn.name != "runtime.NumGoroutine"
 | none=>false
def zY(nt:Nat):Option Nat->Bool
 | some t=>decide (t<nt)
 | none=>true
def Pj(P:Program)(nt:Nat)(draw:Bool)(ops:Array Oper)(o:Oper):Option DR:=
 if zY nt o.dst then
  match (match o.guard with | none=>some none | some (j,b)=>((ops[j]?).bind (·.dst)).map λt=>some (t,b):Option (Option (Nat×Bool))) with
  | some g=>some { dst:=o.dst,g:=g,op:=(fH P o.op).getD .bad,pre:=if draw then (o.after.toList.filterMap λe=>if Region.binds .any e then some e.on else none).eraseDups else [] }
  | none=>none
 else none
def jJ(P:Program)(nt:Nat)(ops:Array Oper):Option (Nat×FuncId×List Operand):=match ops.toList with
 | [o,p]=>match o.op,o.dst,o.guard,p.op,p.dst,p.guard with
  | .makeFunc (.func g) first cap,some t,none,.defer c,none,none=>match c.callee with
   | .value (.tmp t')=>if t=t'/\first.size=0/\c.args.size=0/\t<nt/\OH P g=true then some (t,g,cap.toList) else none
   | _=>none
  | _,_,_,_,_,_=>none
 | _=>none
theorem Bn7{P:Program}{nt:Nat}{ops:Array Oper}{t:Nat}{g:FuncId}{cap:List Operand}(h:jJ P nt ops=some (t,g,cap)) :
  ∃ o p first c cs,ops = #[o,p]/\o.op=.makeFunc (.func g) first cs/\cap=cs.toList/\o.dst=some t/\o.guard=none/\p.op=.defer c/\p.dst=none/\p.guard=none/\c.callee=.value (.tmp t)/\first.size=0/\c.args.size=0/\t<nt/\OH P g=true:=by
 unfold jJ at h
 split at h
 rotate_left
 .cases h
 rename_i o p ho
 have e:ops = #[o,p]:=by apply De;simpa using ho
 split at h
 rotate_left
 .cases h
 rename_i g' first cs t' c h1 h2 h3 h4 h5 h6
 split at h
 rotate_left
 .cases h
 rename_i t'' h7
 split at h
 .rename_i h8
  cases h
  obtain ⟨rfl,h8⟩:=h8
  exact ⟨o,p,first,c,cs,e,h1,rfl,h2,h3,h4,h5,h6,h7,h8⟩
 .cases h
def Fa(P:Program)(nt:Nat):Code->Option DC
 | .skip=>some .skip
 | .ret=>some .ret
 | .exit id=>some (.exit id)
 | .seq a b=>match Fa P nt a,Fa P nt b with
  | some x,some y=>some (.seq x y)
  | _,_=>none
 | .cond x a b=>match Fa P nt a,Fa P nt b with
  | some y,some z=>some (.cond x y z)
  | _,_=>none
 | .block id c=>(Fa P nt c).map (.blk id)
 | .loop c=>(Fa P nt c).map .loop
 | .region _ ops draw=>match draw,jJ P nt ops with
  | false,some (t,g,cap)=>some (.dfq t g cap)
  | _,_=>(ops.toList.mapM (Pj P nt draw ops)).map λl=>.reg draw l (if draw then lR l else ⟨[],true⟩)
 | .rangeFunc g ps a b=>match Fa P nt a,Fa P nt b with
  | some x,some y=>if ps.toList.all (· < nt) then some (.rng g ps.toList x y) else none
  | _,_=>none
 | _=>some .bad
theorem vn{P:Program}{nt:Nat}{code:Code}{dr:Bool}{ops:List DR}{info:RI}(h:Fa P nt code=some (.reg dr ops info)):∃ id os,code=.region id os dr/\os.toList.mapM (Pj P nt dr os)=some ops/\(dr=true->info=lR ops):=by
 cases code <;> simp only [Fa] at h
 case region id os d=>
  split at h
  .cases h
  .obtain ⟨l,hl,h'⟩:=Ac.1 h
   cases h'
   exact ⟨id,os,rfl,hl,λhd=>by simp [hd]⟩
 all_goals (first | (cases h;done) | (split at h <;> cases h;done) | (split at h <;> (first | (cases h;done) | (obtain ⟨_,_,h'⟩:=Ac.1 h;cases h';done));done) | (obtain ⟨_,_,h'⟩:=Ac.1 h;cases h';done) | (split at h <;> (first | (cases h;done) | (split at h <;> cases h;done))))
theorem Br2{P:Program}{nt:Nat}{code:Code}{t:Nat}{g:FuncId}{cap:List Operand}(h:Fa P nt code=some (.dfq t g cap)):∃ id os,code=.region id os false/\jJ P nt os=some (t,g,cap):=by
 cases code <;> simp only [Fa] at h
 case region id os d=>
  split at h
  .rename_i hq
   cases h
   exact ⟨id,os,rfl,hq⟩
  .obtain ⟨l,hl,h'⟩:=Ac.1 h
   cases h'
 all_goals (first | (cases h;done) | (split at h <;> cases h;done) | (split at h <;> (first | (cases h;done) | (obtain ⟨_,_,h'⟩:=Ac.1 h;cases h';done));done) | (obtain ⟨_,_,h'⟩:=Ac.1 h;cases h';done) | (split at h <;> (first | (cases h;done) | (split at h <;> cases h;done))))
theorem Bn8{P:Program}{nt:Nat}{code:Code}(h:Fa P nt code=some .skip):code=.skip:=by
 cases code <;> simp only [Fa] at h
 case skip=>rfl
 all_goals (first | (cases h;done) | (split at h <;> cases h;done) | (split at h <;> (first | (cases h;done) | (obtain ⟨_,_,h'⟩:=Ac.1 h;cases h';done));done) | (obtain ⟨_,_,h'⟩:=Ac.1 h;cases h';done) | (split at h <;> (first | (cases h;done) | (split at h <;> cases h;done))))
theorem Br3{P:Program}{nt:Nat}{code:Code}(h:Fa P nt code=some .ret):code=.ret:=by
 cases code <;> simp only [Fa] at h
 case ret=>rfl
 all_goals (first | (cases h;done) | (split at h <;> cases h;done) | (split at h <;> (first | (cases h;done) | (obtain ⟨_,_,h'⟩:=Ac.1 h;cases h';done));done) | (obtain ⟨_,_,h'⟩:=Ac.1 h;cases h';done) | (split at h <;> (first | (cases h;done) | (split at h <;> cases h;done))))
theorem Bn9{P:Program}{nt:Nat}{code:Code}{id:Nat}(h:Fa P nt code=some (.exit id)):code=.exit id:=by
 cases code <;> simp only [Fa] at h
 case exit bG=>cases h;rfl
 all_goals (first | (cases h;done) | (split at h <;> cases h;done) | (split at h <;> (first | (cases h;done) | (obtain ⟨_,_,h'⟩:=Ac.1 h;cases h';done));done) | (obtain ⟨_,_,h'⟩:=Ac.1 h;cases h';done) | (split at h <;> (first | (cases h;done) | (split at h <;> cases h;done))))
theorem Br4{P:Program}{nt:Nat}{code:Code}{x y:DC}(h:Fa P nt code=some (.seq x y)):∃ a b,code=.seq a b/\Fa P nt a=some x/\Fa P nt b=some y:=by
 cases code <;> simp only [Fa] at h
 case seq a b=>
  split at h
  .rename_i h1 h2;cases h;exact ⟨a,b,rfl,h1,h2⟩
  .cases h
 all_goals (first | (cases h;done) | (split at h <;> cases h;done) | (split at h <;> (first | (cases h;done) | (obtain ⟨_,_,h'⟩:=Ac.1 h;cases h';done));done) | (obtain ⟨_,_,h'⟩:=Ac.1 h;cases h';done) | (split at h <;> (first | (cases h;done) | (split at h <;> cases h;done))))
theorem Bo0{P:Program}{nt:Nat}{code:Code}{c:Operand}{x y:DC}(h:Fa P nt code=some (.cond c x y)):∃ a b,code=.cond c a b/\Fa P nt a=some x/\Fa P nt b=some y:=by
 cases code <;> simp only [Fa] at h
 case cond c' a b=>
  split at h
  .rename_i h1 h2;cases h;exact ⟨a,b,rfl,h1,h2⟩
  .cases h
 all_goals (first | (cases h;done) | (split at h <;> cases h;done) | (split at h <;> (first | (cases h;done) | (obtain ⟨_,_,h'⟩:=Ac.1 h;cases h';done));done) | (obtain ⟨_,_,h'⟩:=Ac.1 h;cases h';done) | (split at h <;> (first | (cases h;done) | (split at h <;> cases h;done))))
theorem Br5{P:Program}{nt:Nat}{code:Code}{id:Nat}{x:DC}(h:Fa P nt code=some (.blk id x)):∃ a,code=.block id a/\Fa P nt a=some x:=by
 cases code <;> simp only [Fa] at h
 case block bG a=>
  obtain ⟨c',Kz,h'⟩:=Ac.1 h
  cases h'
  exact ⟨a,rfl,Kz⟩
 all_goals (first | (cases h;done) | (split at h <;> cases h;done) | (split at h <;> (first | (cases h;done) | (obtain ⟨_,_,h'⟩:=Ac.1 h;cases h';done));done) | (obtain ⟨_,_,h'⟩:=Ac.1 h;cases h';done) | (split at h <;> (first | (cases h;done) | (split at h <;> cases h;done))))
theorem Bo1{P:Program}{nt:Nat}{code:Code}{x:DC}(h:Fa P nt code=some (.loop x)):∃ a,code=.loop a/\Fa P nt a=some x:=by
 cases code <;> simp only [Fa] at h
 case loop a=>
  obtain ⟨c',Kz,h'⟩:=Ac.1 h
  cases h'
  exact ⟨a,rfl,Kz⟩
 all_goals (first | (cases h;done) | (split at h <;> cases h;done) | (split at h <;> (first | (cases h;done) | (obtain ⟨_,_,h'⟩:=Ac.1 h;cases h';done));done) | (obtain ⟨_,_,h'⟩:=Ac.1 h;cases h';done) | (split at h <;> (first | (cases h;done) | (split at h <;> cases h;done))))
theorem Br6{P:Program}{nt:Nat}{code:Code}{g:Operand}{ps:List Nat}{x y:DC}(h:Fa P nt code=some (.rng g ps x y)) :
  ∃ qs a b,code=.rangeFunc g qs a b/\qs.toList=ps/\(∀ t∈ps,t<nt)/\Fa P nt a=some x/\Fa P nt b=some y:=by
 cases code <;> simp only [Fa] at h
 case rangeFunc g' qs a b=>
  split at h
  .rename_i h1 h2
   split at h
   .rename_i h3
    cases h
    exact ⟨qs,a,b,rfl,rfl,λt ht=>by simpa using Bi.1 h3 t ht,h1,h2⟩
   .cases h
  .cases h
 all_goals (first | (cases h;done) | (split at h <;> cases h;done) | (split at h <;> (first | (cases h;done) | (obtain ⟨_,_,h'⟩:=Ac.1 h;cases h';done));done) | (obtain ⟨_,_,h'⟩:=Ac.1 h;cases h';done) | (split at h <;> (first | (cases h;done) | (split at h <;> cases h;done))))
end Go.DD

/- The package-level variables that are read as what they hold, by number. -/
namespace Go.DD
def glv:Nat->Option (List Value):=λ_=>none
end Go.DD

/- Deep values: immutable memory read as content, the call's own objects by number; what is stored may name objects that are gone. -/
namespace Go.DD
open Go.RowKit (Below)
inductive DV where
 | any
 | v (x:Value)
 | agg (cs:List DV)
 | tup (cs:List DV)
 | sl (cs:List DV) (n:Nat)
 | ia (cs:List DV)
 | fn (f:Fn) (cs:List DV)
 | ifc (T:TypeId) (d:DV)
 | ms (id off n es:Nat)
 | pt (id off:Nat)
 | mp (id:Nat)
 | yl (id:Nat)
 deriving Inhabited
mutual
def DV.refs:DV->List Nat
 | .agg cs=>DV.refsL cs
 | .tup cs=>DV.refsL cs
 | .fn _ cs=>DV.refsL cs
 | .ifc _ d=>DV.refs d
 | .ms id _ _ _=>[id]
 | .pt id _=>[id]
 | .mp id=>[id]
 | .yl id=>[id]
 | _=>[]
def DV.refsL:List DV->List Nat
 | []=>[]
 | c::cs=>DV.refs c++DV.refsL cs
end
def DV.asFnB:DV->Option (FuncId×List DV×List DV)
 | .fn (.func f) (.tup fs::cs)=>some (f,fs,cs)
 | _=>none
theorem A08{d:DV}{p:FuncId×List DV×List DV}(h:d.asFnB=some p):d=.fn (.func p.1) (.tup p.2.1::p.2.2):=by
 unfold DV.asFnB at h
 split at h
 .cases h;rfl
 .cases h
def DV.asFn:DV->Option (FuncId×List DV)
 | .fn (.func f) (.tup []::cs)=>some (f,cs)
 | _=>none
theorem Br7{d:DV}{p:FuncId×List DV}(h:d.asFn=some p):d=.fn (.func p.1) (.tup []::p.2):=by
 unfold DV.asFn at h
 split at h
 .cases h;rfl
 .cases h
def DV.asYl:DV->Option Nat
 | .yl id=>some id
 | _=>none
theorem Br8{d:DV}{id:Nat}(h:d.asYl=some id):d=.yl id:=by
 cases d with
 | yl i=>simp [DV.asYl] at h;subst h;rfl
 | _=>simp [DV.asYl] at h
theorem DV.refsL_mem{cs:List DV}{d:DV}(h:d∈cs){id:Nat}(hi:id∈d.refs):id∈DV.refsL cs:=by
 induction cs with
 | nil=>cases h
 | cons c cs ih=>
  simp only [DV.refsL,Aw]
  rcases Aq.1 h with rfl | h
  .exact .inl hi
  .exact .inr (ih h)
theorem DV.mem_refsL{cs:List DV}{id:Nat}(h:id∈DV.refsL cs):∃ d∈cs,id∈d.refs:=by
 induction cs with
 | nil=>cases h
 | cons c cs ih=>
  simp only [DV.refsL,Aw] at h
  rcases h with h | h
  .exact ⟨c,by simp,h⟩
  .obtain ⟨d,h1,h2⟩:=ih h;exact ⟨d,by simp [h1],h2⟩
def S3:List (TypeId×FuncId)->TypeId->Option FuncId
 | [],_=>none
 | p::l,T=>if p.1=T then some p.2 else S3 l T
def DV.tgt(tb:Option (List (TypeId×FuncId)))(d:DV):Option (FuncId×List DV×List DV):=match tb with
 | none=>d.asFnB
 | some l=>match d with
  | .ifc T e=>(S3 l T).map λf=>(f,[e],[])
  | _=>none
def DV.tgY(tb:Option (List (TypeId×FuncId)))(d:DV):Option Nat:=match tb with
 | none=>d.asYl
 | some _=>none
theorem Bg4{tb:Option (List (TypeId×FuncId))}{d:DV}{id:Nat}(h:d.tgY tb=some id):tb=none/\d=.yl id:=by
 cases tb with
 | none=>exact ⟨rfl,Br8 h⟩
 | some l=>cases h
def V1(g:Nat):DV:=match glv g with
 | some cs=>.ia (cs.map .v)
 | none=>.any
def MQ(x:Value)(d:DV):Prop:=∃ g cs,glv g=some cs/\x=.pointer (some ⟨g,0,none⟩)/\d=.ia (cs.map .v)
inductive RelI (w:World) (al:Nat->Prop):Value->DV->Prop
 | any (x:Value):RelI w al x .any
 | v (x:Value):RelI w al x (.v x)
 | agg (vs:List Value) (cs:List DV) (hl:vs.length=cs.length) (ho:∀ u∈vs,u.oneCell'=true)
   (h:∀ (j:Nat) (u:Value) (d:DV),vs[j]?=some u->cs[j]?=some d->RelI w al u d):RelI w al (.agg vs.toArray) (.agg cs)
 | tup (vs:List Value) (cs:List DV) (hl:vs.length=cs.length)
   (h:∀ (j:Nat) (u:Value) (d:DV),vs[j]?=some u->cs[j]?=some d->RelI w al u d):RelI w al (.tuple vs.toArray) (.tup cs)
 | sl0 (a:Option Addr) (cap:Nat):RelI w al (.slice a 0 cap) (.sl [] 0)
 | sl (ad:Addr) (n cap:Nat) (us:List Value) (cs:List DV) (hl:us.length=cs.length) (hn:n<=cap) (ha:al ad.block) (ho:∀ u∈us,u.oneCell'=true)
   (hc:∀ (j:Nat) (u:Value),us[j]?=some u->w.cell? (ad.add j)=some u)
   (h:∀ (j:Nat) (u:Value) (d:DV),us[j]?=some u->cs[j]?=some d->RelI w al u d):RelI w al (.slice (some ad) n cap) (.sl cs n)
 | ia (ad:Addr) (us:List Value) (cs:List DV) (hl:us.length=cs.length) (ha:al ad.block) (ho:∀ u∈us,u.oneCell'=true)
   (hc:∀ (j:Nat) (u:Value),us[j]?=some u->w.cell? (ad.add j)=some u)
   (h:∀ (j:Nat) (u:Value) (d:DV),us[j]?=some u->cs[j]?=some d->RelI w al u d):RelI w al (.pointer (some ad)) (.ia cs)
 | fn (f:Fn) (us vs:List Value) (cs:List DV) (hl:(Value.tuple us.toArray::vs).length=cs.length)
   (h:∀ (j:Nat) (u:Value) (d:DV),(Value.tuple us.toArray::vs)[j]?=some u->cs[j]?=some d->RelI w al u d):RelI w al (.func f us.toArray vs.toArray) (.fn f cs)
 | ifc (T:TypeId) (u:Value) (d:DV) (h:RelI w al u d):RelI w al (.iface T u) (.ifc T d)
theorem block_add(a:Addr)(n:Nat):(a.add n).block=a.block:=by unfold Addr.add;split <;> rfl
theorem add_add(a:Addr)(i j:Nat):(a.add i).add j=a.add (i+j):=by
 unfold Addr.add
 by_cases hi:i=0 <;> by_cases hj:j=0 <;> simp [hi,hj,Mr]
theorem cells_of_cell{w:World}{a:Addr}{v:Value}(h:w.cell? a=some v):∃ c T r,w.heap[a.block]?=some (.cells c T r):=by
 unfold World.cell? at h
 split at h
 .rename_i c T r hc;exact ⟨c,T,r,hc⟩
 .cases h
theorem RelI.monoC{w w':World}{al rO:Nat->Prop}(hb:∀ b,al b->rO b/\((∃ c T r,w.heap[b]?=some (.cells c T r))->w'.heap[b]?=w.heap[b]?)){x:Value}{d:DV}(h:RelI w al x d):RelI w' rO x d:=by
 induction h with
 | any x=>exact .any x
 | v x=>exact .v x
 | agg vs cs hl ho _ ih=>exact .agg vs cs hl ho ih
 | tup vs cs hl _ ih=>exact .tup vs cs hl ih
 | sl0 a cap=>exact .sl0 a cap
 | sl ad n cap us cs hl hn ha ho hc _ ih=>
  refine .sl ad n cap us cs hl hn (hb _ ha).1 ho (λj u hu=>?_) ih
  have h1:=cells_of_cell (hc j u hu)
  rw [block_add] at h1
  exact (World.cell?_of_block (by rw [block_add];exact (hb _ ha).2 h1)).trans (hc j u hu)
 | ia ad us cs hl ha ho hc _ ih=>
  refine .ia ad us cs hl (hb _ ha).1 ho (λj u hu=>?_) ih
  have h1:=cells_of_cell (hc j u hu)
  rw [block_add] at h1
  exact (World.cell?_of_block (by rw [block_add];exact (hb _ ha).2 h1)).trans (hc j u hu)
 | fn f us vs cs hl _ ih=>exact .fn f us vs cs hl ih
 | ifc T u d _ ih=>exact .ifc T u d ih
theorem RelI.mono{w w':World}{al rO:Nat->Prop}(hb:∀ b,al b->rO b/\w'.heap[b]?=w.heap[b]?){x:Value}{d:DV}(h:RelI w al x d):RelI w' rO x d:=
 h.monoC λb Ht=>⟨(hb b Ht).1,λ_=>(hb b Ht).2⟩
inductive Rel (P:Program) (w:World) (al:Nat->Prop) (β:Nat->Option Nat):Value->DV->Prop
 | imm (x:Value) (d:DV) (h:RelI w al x d):Rel P w al β x d
 | agg (vs:List Value) (cs:List DV) (hl:vs.length=cs.length) (ho:∀ u∈vs,u.oneCell'=true)
   (h:∀ (j:Nat) (u:Value) (d:DV),vs[j]?=some u->cs[j]?=some d->Rel P w al β u d):Rel P w al β (.agg vs.toArray) (.agg cs)
 | tup (vs:List Value) (cs:List DV) (hl:vs.length=cs.length)
   (h:∀ (j:Nat) (u:Value) (d:DV),vs[j]?=some u->cs[j]?=some d->Rel P w al β u d):Rel P w al β (.tuple vs.toArray) (.tup cs)
 | fn (f:Fn) (us vs:List Value) (cs:List DV) (hl:(Value.tuple us.toArray::vs).length=cs.length)
   (h:∀ (j:Nat) (u:Value) (d:DV),(Value.tuple us.toArray::vs)[j]?=some u->cs[j]?=some d->Rel P w al β u d):Rel P w al β (.func f us.toArray vs.toArray) (.fn f cs)
 | ifc (T:TypeId) (u:Value) (d:DV) (h:Rel P w al β u d):Rel P w al β (.iface T u) (.ifc T d)
 | ms0 (id es:Nat):Rel P w al β (.slice none 0 0) (.ms id 0 0 es)
 | ms (id off n es b cap:Nat) (c:Array Value) (T:TypeId) (hβ:β id=some b) (hw:w.heap[b]?=some (.cells c T (0,0))) (hn:n<=cap) (hm:cap<=maxLen) (Pf:off+cap*es=c.size) :
   Rel P w al β (.slice (some ⟨b,off,none⟩) n cap) (.ms id off n es)
 | pt (id off b:Nat) (hβ:β id=some b):Rel P w al β (.pointer (some ⟨b,off,none⟩)) (.pt id off)
 | mp (id b:Nat) (hβ:β id=some b):Rel P w al β (.map (some b)) (.mp id)
 | yl (id b:Nat) (hβ:β id=some b):Rel P w al β (.func (.yield b) #[] #[]) (.yl id)
theorem Rel.mono{P:Program}{w w':World}{al rO:Nat->Prop}{β β':Nat->Option Nat}(hb:∀ b,al b->rO b/\((∃ c T r,w.heap[b]?=some (.cells c T r))->w'.heap[b]?=w.heap[b]?))
  {x:Value} {d:DV} (h:Rel P w al β x d)
  (hr:∀ id∈d.refs,∀ b,β id=some b->β' id=some b/\∀ (c:Array Value) (T:TypeId),w.heap[b]?=some (.cells c T (0,0))->∃ c',w'.heap[b]?=some (.cells c' T (0,0))/\c'.size=c.size) :
  Rel P w' rO β' x d:=by
 induction h with
 | imm x d h=>exact .imm x d (h.monoC hb)
 | agg vs cs hl ho _ ih=>
  exact .agg vs cs hl ho λj u d hu hd=>ih j u d hu hd λid hi=>hr id (by rw [DV.refs];exact DV.refsL_mem (Au hd) hi)
 | tup vs cs hl _ ih=>
  exact .tup vs cs hl λj u d hu hd=>ih j u d hu hd λid hi=>hr id (by rw [DV.refs];exact DV.refsL_mem (Au hd) hi)
 | fn f us vs cs hl _ ih=>
  exact .fn f us vs cs hl λj u d hu hd=>ih j u d hu hd λid hi=>hr id (by rw [DV.refs];exact DV.refsL_mem (Au hd) hi)
 | ifc T u d _ ih=>exact .ifc T u d (ih λid hi=>hr id (by rw [DV.refs];exact hi))
 | ms0 id es=>exact .ms0 id es
 | ms id off n es b cap c T hβ hw hn hm Pf=>
  obtain ⟨h1,h2⟩:=hr id (by simp [DV.refs]) b hβ
  obtain ⟨c',Kz,hs⟩:=h2 c T hw
  exact .ms id off n es b cap c' T h1 Kz hn hm (by omega)
 | pt id off b hβ=>exact .pt id off b (hr id (by simp [DV.refs]) b hβ).1
 | mp id b hβ=>exact .mp id b (hr id (by simp [DV.refs]) b hβ).1
 | yl id b hβ=>exact .yl id b (hr id (by simp [DV.refs]) b hβ).1
inductive Tr (α:Type) where
 | e
 | n (l:Tr α) (v:Option α) (r:Tr α)
 deriving Inhabited
def Tr.get{α:Type} : Tr α->Nat->Option α
 | .e,_=>none
 | .n l v r,k=>match k with
  | 0=>v
  | k+1=>if k % 2=0 then l.get (k / 2) else r.get (k / 2)
def Tr.setF{α:Type} : Nat->Tr α->Nat->Option α->Tr α
 | 0,t,_,v=>match t with
  | .e=>.n .e v .e
  | .n l _ r=>.n l v r
 | f+1,t,k,v=>match k with
  | 0=>match t with
   | .e=>.n .e v .e
   | .n l _ r=>.n l v r
  | k+1=>match t with
   | .e=>if k % 2=0 then .n (Tr.setF f .e (k / 2) v) none .e else .n .e none (Tr.setF f .e (k / 2) v)
   | .n l x r=>if k % 2=0 then .n (Tr.setF f l (k / 2) v) x r else .n l x (Tr.setF f r (k / 2) v)
def Tr.set{α:Type}(t:Tr α)(k:Nat)(v:Option α):Tr α:=Tr.setF k t k v
theorem Tr.get_setF{α:Type} : ∀ (f:Nat) (t:Tr α) (k j:Nat) (v:Option α),k<=f->(Tr.setF f t k v).get j=if k=j then v else t.get j
 | 0,t,k,j,v,h=>by
  obtain rfl:k=0:=by omega
  cases t <;> cases j <;> simp [Tr.setF,Tr.get]
 | f+1,t,0,j,v,h=>by
  cases t <;> cases j <;> simp [Tr.setF,Tr.get]
 | f+1,t,k+1,j,v,h=>by
  have ih:=λt j=>Tr.get_setF f t (k / 2) j v (by omega)
  cases t with
  | e=>
   simp only [Tr.setF]
   by_cases hk:k % 2=0
   .rw [Af hk]
    cases j with
    | zero=>simp [Tr.get]
    | succ j=>
     simp only [Tr.get]
     by_cases hj:j % 2=0
     .rw [Af hj,ih]
      by_cases he:k=j
      .subst he;simp
      .rw [Ad (by omega),Ad (by omega)];simp [Tr.get]
     .rw [Ad hj,Ad (by omega)]
   .rw [Ad hk]
    cases j with
    | zero=>simp [Tr.get]
    | succ j=>
     simp only [Tr.get]
     by_cases hj:j % 2=0
     .rw [Af hj,Ad (by omega)]
     .rw [Ad hj,ih]
      by_cases he:k=j
      .subst he;simp
      .rw [Ad (by omega),Ad (by omega)];simp [Tr.get]
  | n l x r=>
   simp only [Tr.setF]
   by_cases hk:k % 2=0
   .rw [Af hk]
    cases j with
    | zero=>simp [Tr.get]
    | succ j=>
     simp only [Tr.get]
     by_cases hj:j % 2=0
     .rw [Af hj,Af hj,ih]
      by_cases he:k=j
      .subst he;simp
      .rw [Ad (by omega),Ad (by omega)]
     .rw [Ad hj,Ad hj,Ad (by omega)]
   .rw [Ad hk]
    cases j with
    | zero=>simp [Tr.get]
    | succ j=>
     simp only [Tr.get]
     by_cases hj:j % 2=0
     .rw [Af hj,Af hj,Ad (by omega)]
     .rw [Ad hj,Ad hj,ih]
      by_cases he:k=j
      .subst he;simp
      .rw [Ad (by omega),Ad (by omega)]
theorem Tr.get_set{α:Type}(t:Tr α)(k j:Nat)(v:Option α):(t.set k v).get j=if k=j then v else t.get j:=Tr.get_setF k t k j v (Ai _)
def lkS:List (Nat×DV)->Nat->DV
 | [],_=>.any
 | (i,d)::r,t=>if i=t then d else lkS r t
inductive Sl where
 | l (l:List (Nat×DV))
 | t (t:Tr DV)
 | f (f:Nat->DV)
 deriving Inhabited
def Sl.get:Sl->Nat->DV
 | .l x,u=>lkS x u
 | .t x,u=>(x.get u).getD .any
 | .f x,u=>x u
structure DLoop where
 nt:Nat
 sl:Sl
 ps:List Nat
 asg:DC
 body:DC
 st:LoopState
 pend:Option Code
 deriving Inhabited
structure ME where
 k:Value
 v:DV
 b:Nat
 deriving Inhabited
inductive DObj where
 | row (T:TypeId) (cs:List DV)
 | mapo (ck:Nat) (es:List ME)
 | loop (lp:DLoop)
 | siter (t:ByteArray) (pos:Nat)
 | miter (m:DV) (since:Nat) (seen:List Nat) (last:Nat)
 deriving Inhabited
def SameShape(w w':World)(b:Nat):Prop:=
 ∀ (c:Array Value) (T:TypeId),w.heap[b]?=some (.cells c T (0,0))->∃ c',w'.heap[b]?=some (.cells c' T (0,0))/\c'.size=c.size
theorem SameShape.of_eq{w w':World}{b:Nat}(h:w'.heap[b]?=w.heap[b]?):SameShape w w' b:=λc _ hc=>⟨c,h.trans hc,rfl⟩
structure DS where
 sv:Nat->DV
 ho:Nat->Option DObj
 nx:Nat
 deriving Inhabited
structure Ctx where
 P:Program
 S:Nat->Prop
 G:Nat->Prop
 w0:World
 nt:Nat
 X:Value->DV->Prop
 M:Nat->Prop
 rd:Option Nat
 Y:Nat->Option DObj
 R:Nat->Prop
def Tf(C:Ctx)(w:World)(β:Nat->Option Nat)(b:Nat):Prop:=(C.S b\/C.w0.heap.size<=b\/C.G b)/\b<w.heap.size/\∀ id,β id≠some b
def TP(x:Value)(d:DV):Prop:=∀ ds,d=.tup ds->∀ (i:Nat) (v:Value),ds[i]?=some (.v v)->∃ vs:Array Value,x=.tuple vs/\vs[i]?=some v
def WV(C:Ctx)(U:Nat->Prop)(V:Nat->Option DObj)(β:Nat->Option Nat)(w:World)(x:Value)(d:DV):Prop:=
 (∀ id∈d.refs,U id)/\((∀ id∈d.refs,(V id).isSome=true)->Rel C.P w (Tf C w β) β x d)/\TP x d
def RelO(C:Ctx)(U:Nat->Prop)(V:Nat->Option DObj)(β:Nat->Option Nat)(w:World)(id:Nat):DObj->Prop
 | .row T cs=>(β id=none/\cs=[])\/∃ b c,β id=some b/\w.heap[b]?=some (.cells c T (0,0))/\cs.length<=c.size/\(Oj C.P T=true->c.size=cs.length)/\
   ∀ (j:Nat) (u:Value) (d:DV),c[j]?=some u->cs[j]?=some d->WV C U V β w u d/\u.oneCell'=true
 | .mapo ck es=>∃ b ms,β id=some b/\w.heap[b]?=some (.map ms ck)/\ms.size=es.length/\
   ∀ (j:Nat) (e:MapEntry) (p:ME),ms[j]?=some e->es[j]?=some p->e.key=p.k/\e.born=p.b/\WV C U V β w e.val p.v
 | .loop lp=>∃ b r,β id=some b/\w.heap[b]?=some (.loop r)/\r.params.toList=lp.ps/\r.tmps.size=lp.nt/\Fa C.P lp.nt r.assign=some lp.asg/\Fa C.P lp.nt r.body=some lp.body/\
   r.state=lp.st/\r.pending=lp.pend/\∀ t,WV C U V β w (r.tmps.getD t undef) (lp.sl.get t)
 | .siter t pos=>∃ b,β id=some b/\w.heap[b]?=some (.stringIter t pos)
 | .miter m since seen last=>∃ b mv,β id=some b/\w.heap[b]?=some (.mapIter mv since seen.toArray last)/\WV C U V β w (.map mv) m
structure BelG (C:Ctx) (w:World):Prop where
 os:w.os=C.w0.os
 tape:w.tape=C.w0.tape
 output:w.output=C.w0.output
 size:C.w0.heap.size<=w.heap.size
 block:∀ k,k<C.w0.heap.size->¬ C.G k->w.heap[k]?=C.w0.heap[k]?
structure HH (C:Ctx) (U:Nat->Prop) (V:Nat->Option DObj) (β:Nat->Option Nat) (w:World):Prop where
 ok:∀ b,C.S b->b<C.w0.heap.size
 bel:BelG C w
 bge:∀ id b,β id=some b->(C.w0.heap.size<=b\/C.G b)/\b<w.heap.size
 inj:∀ i j b,β i=some b->β j=some b->i=j
 fr:∀ id,¬ U id->V id=none
 hp:∀ id o,V id=some o->RelO C U V β w id o
def Mark(C:Ctx)(β:Nat->Option Nat)(w:World)(d:Deferred):Prop:=
 ∃ D,d = { target:=.collected D,args:=#[] }/\w.heap[D]?=some (.deferred (some []))/\C.w0.heap.size<=D/\∀ id,β id≠some D
def B3(P:Program)(d:Deferred):Prop:=∃ g Lv,OH P g=true/\d = { target:=.fn (.func g) Lv,args:=#[] }
def OG(d:Deferred):Bool:=match d.target with
 | .collected _=>true
 | _=>false
structure Marks (C:Ctx) (β:Nat->Option Nat) (w:World) (l:List Deferred):Prop where
 nodup:(l.filter OG).Nodup
 own:∀ d∈l,Mark C β w d\/B3 C.P d
 out:∀ D,C.M D->Mark C β w { target:=.collected D,args:=#[] }
 apart:∀ D,({ target:=.collected D,args:=#[] } : Deferred)∈l->¬ C.M D
def KeepO(w:World)(β:Nat->Option Nat)(w':World)(β':Nat->Option Nat):Prop:=
 ∀ b,b<w.heap.size->(∀ id,β id≠some b)->w'.heap[b]?=w.heap[b]?/\∀ id,β' id≠some b
theorem KeepO.mark1{C:Ctx}{β β':Nat->Option Nat}{w w':World}(h:KeepO w β w' β'){d:Deferred}(hd:Mark C β w d):Mark C β' w' d:=
 let ⟨D,h1,h2,h3,h4⟩:=hd;let ⟨k1,k2⟩:=h D (Bt.1 h2).1 h4;⟨D,h1,k1.trans h2,h3,k2⟩
theorem KeepO.mark{C:Ctx}{β β':Nat->Option Nat}{w w':World}(h:KeepO w β w' β'){l:List Deferred}(hl:Marks C β w l):Marks C β' w' l:=
 ⟨hl.nodup,λd hd=>(hl.own d hd).imp h.mark1 λh=>h,λD hD=>h.mark1 (hl.out D hD),hl.apart⟩
theorem Marks.ownC{C:Ctx}{β:Nat->Option Nat}{w:World}{l:List Deferred}(h:Marks C β w l){D:Nat}(hd:({ target:=.collected D,args:=#[] } : Deferred)∈l):Mark C β w { target:=.collected D,args:=#[] }:=by
 rcases h.own _ hd with h1 | ⟨g,Lv,_,h1⟩
 .exact h1
 .simp at h1
theorem Marks.quiet{C:Ctx}{β:Nat->Option Nat}{w:World}{l:List Deferred}(h:Marks C β w l){d:Deferred}(hd:B3 C.P d):Marks C β w (d::l):=by
 obtain ⟨g,Lv,hq,rfl⟩:=hd
 refine ⟨?_,λd hd=>?_,h.out,λD hD=>?_⟩
 .rw [Wj (by simp [OG])];exact h.nodup
 .rcases Aq.1 hd with rfl | hd
  .exact .inr ⟨g,Lv,hq,rfl⟩
  .exact h.own d hd
 .rcases Aq.1 hD with e | hD
  .simp at e
  .exact h.apart D hD
theorem Marks.tail{C:Ctx}{β:Nat->Option Nat}{w:World}{l:List Deferred}{d:Deferred}(h:Marks C β w (d::l))(hd:OG d=false):Marks C β w l:=by
 refine ⟨?_,λe he=>h.own e (Be _ he),h.out,λD hD=>h.apart D (Be _ hD)⟩
 have:=h.nodup
 rwa [Wj (by simp [hd])] at this
def Lm(Y ho:Nat->Option DObj)(id:Nat):Option DObj:=match ho id with
 | some o=>some o
 | none=>Y id
def DS.vw(C:Ctx)(s:DS):Nat->Option DObj:=Lm C.Y s.ho
structure HoldsB (C:Ctx) (U:Nat->Prop) (s:DS) (β:Nat->Option Nat) (a:Act) (w:World):Prop where
 hh:HH C U (s.vw C) β w
 df:Marks C β w a.defers
 sz:a.tmps.size=C.nt
 sl:∀ t,WV C U (s.vw C) β w (a.tmps.getD t undef) (s.sv t)
 gh:∀ x d,C.X x d\/MQ x d->WV C U (s.vw C) β w x d
 yd:∀ id o,C.Y id=some o->s.ho id=none
def Us(C:Ctx)(nx:Nat)(id:Nat):Prop:=id<nx/\¬ C.R id
def Holds(C:Ctx)(s:DS)(a:Act)(w:World):Prop:=(∀ id,C.R id->id<s.nx)/\∃ β,HoldsB C (Us C s.nx) s β a w
end Go.DD

/- How the relation is kept: by whatever a callee does, by new own objects, by stores and appends to own rows, by forgetting. -/
namespace Go.DD
open Go.RowKit (Below)
def setH(ho:Nat->Option DObj)(id:Nat)(o:Option DObj):Nat->Option DObj:=λj=>if j=id then o else ho j
@[simp] theorem Ri(ho:Nat->Option DObj)(id:Nat)(o:Option DObj):setH ho id o id=o:=by simp [setH]
theorem sD(ho:Nat->Option DObj){id j:Nat}(o:Option DObj)(h:j≠id):setH ho id o j=ho j:=by simp [setH,h]
def upd(β:Nat->Option Nat)(i:Nat)(v:Option Nat):Nat->Option Nat:=λj=>if j=i then v else β j
@[simp] theorem Dc(β:Nat->Option Nat)(i:Nat)(v:Option Nat):upd β i v i=v:=by simp [upd]
theorem aP(β:Nat->Option Nat){i j:Nat}(v:Option Nat)(h:j≠i):upd β i v j=β j:=by simp [upd,h]
section
variable {C:Ctx} {U U':Nat->Prop} {V V':Nat->Option DObj} {β β':Nat->Option Nat} {w w':World}
theorem HH.lt(h:HH C U V β w){id b:Nat}(hb:β id=some b):b<w.heap.size:=(h.bge id b hb).2
theorem HH.used(h:HH C U V β w){id:Nat}(hv:(V id).isSome=true):U id:=by
 apply Classical.byContradiction
 intro hn
 rw [h.fr id hn] at hv;cases hv
theorem TP.of_rel{P:Program}{al:Nat->Prop}{x:Value}{d:DV}(h:Rel P w al β x d):TP x d:=by
 intro ds hd i v hv
 subst hd
 cases h with
 | imm _ _ h=>
  cases h with
  | tup vs cs hl h=>
   obtain ⟨hi,_⟩:=As.1 hv
   have Ez:i<vs.length:=by omega
   have:=h i _ _ (Aa Ez) hv
   generalize he:vs[i]=u at this
   cases this
   exact ⟨_,rfl,by simp [Aa Ez,he]⟩
 | tup vs cs hl h=>
  obtain ⟨hi,_⟩:=As.1 hv
  have Ez:i<vs.length:=by omega
  have:=h i _ _ (Aa Ez) hv
  generalize he:vs[i]=u at this
  cases this with
  | imm _ _ h=>cases h;exact ⟨_,rfl,by simp [Aa Ez,he]⟩
theorem TP.nt{x:Value}{d:DV}(h:∀ ds,d≠.tup ds):TP x d:=λds hd=>(h ds hd).elim
theorem WV.v_eq{x y:Value}(h:WV C U V β w x (.v y)):x=y:=by
 have:=h.2.1 (λid hi=>by simp [DV.refs] at hi)
 cases this with
 | imm _ _ h=>cases h;rfl
theorem TP.of_wv{us:List Value}{cs:List DV}(hl:us.length=cs.length)(hr:∀ (j:Nat) (u:Value) (d:DV),us[j]?=some u->cs[j]?=some d->WV C U V β w u d):TP (.tuple us.toArray) (.tup cs):=by
 intro ds hd i v hv
 cases hd
 obtain ⟨hi,_⟩:=As.1 hv
 have Ez:i<us.length:=by omega
 exact ⟨_,rfl,by simp [Aa Ez,(hr i _ _ (Aa Ez) hv).v_eq]⟩
theorem HH.wv(h:HH C U V β w){x:Value}{d:DV}(hr:Rel C.P w (Tf C w β) β x d)(ha:∀ id∈d.refs,(V id).isSome=true):WV C U V β w x d:=
 ⟨λid hi=>h.used (ha id hi),λ_=>hr,TP.of_rel hr⟩
theorem WV.flat{x:Value}{d:DV}(hr:Rel C.P w (Tf C w β) β x d)(ha:d.refs=[]):WV C U V β w x d:=⟨λid hi=>(by rw [ha] at hi;cases hi),λ_=>hr,TP.of_rel hr⟩
theorem WV.any{x:Value} : WV C U V β w x .any:=WV.flat (.imm _ _ (.any x)) rfl
theorem WV.v(x:Value):WV C U V β w x (.v x):=WV.flat (.imm _ _ (.v x)) rfl
theorem Bo2(h:BelG C w)(hk:Below w.heap.size w w'):BelG C w':=
 ⟨hk.os.trans h.os,hk.tape.trans h.tape,hk.output.trans h.output,Ep h.size hk.size,λk Cv Et=>(hk.block k (Bp Cv h.size)).trans (h.block k Cv Et)⟩
theorem RelO.keep{id:Nat}{o:DObj}(h:RelO C U V β w id o)(hβ:β' id=β id)(hb:∀ b,β id=some b->w'.heap[b]?=w.heap[b]?)(hw:∀ x d,WV C U V β w x d->WV C U' V' β' w' x d):RelO C U' V' β' w' id o:=by
 cases o with
 | row T cs=>
  rcases h with ⟨h1,h2⟩ | ⟨b,c,h1,hc,hl,hx,hr⟩
  .exact .inl ⟨hβ.trans h1,h2⟩
  .exact .inr ⟨b,c,hβ.trans h1,(hb b h1).trans hc,hl,hx,λj u d hu hd=>⟨hw _ _ (hr j u d hu hd).1,(hr j u d hu hd).2⟩⟩
 | mapo ck es=>
  obtain ⟨b,ms,h1,hm,hs,hr⟩:=h
  exact ⟨b,ms,hβ.trans h1,(hb b h1).trans hm,hs,λj e p he hp=>⟨(hr j e p he hp).1,(hr j e p he hp).2.1,hw _ _ (hr j e p he hp).2.2⟩⟩
 | loop lp=>
  obtain ⟨b,r,h1,hm,q1,q2,q3,q4,q5,q6,hr⟩:=h
  exact ⟨b,r,hβ.trans h1,(hb b h1).trans hm,q1,q2,q3,q4,q5,q6,λt=>hw _ _ (hr t)⟩
 | siter t pos=>
  obtain ⟨b,h1,hm⟩:=h
  exact ⟨b,hβ.trans h1,(hb b h1).trans hm⟩
 | miter m since seen last=>
  obtain ⟨b,mv,h1,hm,hr⟩:=h
  exact ⟨b,mv,hβ.trans h1,(hb b h1).trans hm,hw _ _ hr⟩
theorem HH.keep(h:HH C U V β w)(hk:Below w.heap.size w w'):HH C U V β w'/\(∀ x d,WV C U V β w x d->WV C U V β w' x d)/\KeepO w β w' β:=by
 have Rj:∀ b,Tf C w β b->Tf C w' β b/\((∃ c T r,w.heap[b]?=some (.cells c T r))->w'.heap[b]?=w.heap[b]?):=λb ⟨h1,h2,h3⟩=>⟨⟨h1,Bp h2 hk.size,h3⟩,λ_=>hk.block b h2⟩
 have Ce:∀ x d,WV C U V β w x d->WV C U V β w' x d:=λx d ⟨h1,h2,h3⟩=>
  ⟨h1,λha=>(h2 ha).mono Rj λid _ b hb=>⟨hb,SameShape.of_eq (hk.block b (h.lt hb))⟩,h3⟩
 refine ⟨⟨h.ok,Bo2 h.bel hk,λid b hb=>⟨(h.bge id b hb).1,Bp (h.lt hb) hk.size⟩,h.inj,h.fr,λid o ho=>?_⟩,Ce,λb hb hn=>⟨hk.block b hb,hn⟩⟩
 exact (h.hp id o ho).keep rfl (λb hb=>hk.block b (h.lt hb)) Ce
theorem Bo3(w:World):Below w.heap.size w w.drew:=(Below.refl _ _).drew
theorem R9(w:World)(o:Obj):Below w.heap.size w (w.alloc o):=(Below.refl _ _).alloc (Ai _) o
theorem HH.turn(h:HH C U V β w)(nid:Nat)(Hv:Option Nat)(Sx:¬ U nid)(jz:∀ id,U' id↔U id\/id=nid)(hold:∀ i,Hv=some i->U i)
  (Hg:∀ b,b<w.heap.size->(∀ i,Hv=some i->β i≠some b)->w'.heap[b]?=w.heap[b]?)
  (oP:w'.os=w.os) (Xx:w'.tape=w.tape) (Lq:w'.output=w.output) (He:w.heap.size<=w'.heap.size)
  (hβ:∀ j,j≠nid->Hv≠some j->β' j=β j) (ba:∀ i,Hv=some i->β' i=none)
  (Kk:∀ b,β' nid=some b->((∃ i,Hv=some i/\β i=some b)\/w.heap.size<=b)/\b<w'.heap.size)
  (hV:∀ j,j≠nid->V' j=if Hv=some j then none else V j)
  (gO:∀ o,V' nid=some o->(∀ x d,WV C U V β w x d->WV C U' V' β' w' x d)->RelO C U' V' β' w' nid o) :
  HH C U' V' β' w'/\(∀ x d,WV C U V β w x d->WV C U' V' β' w' x d)/\KeepO w β w' β':=by
 have Ha:∀ i,Hv=some i->i≠nid:=λi hi he=>Sx (he ▸ hold i hi)
 have Pd:∀ j b,β' j=some b->(j=nid)\/(j≠nid/\Hv≠some j/\β j=some b):=λj b hb=>by
  by_cases hj:j=nid
  .exact .inl hj
  .by_cases ho:Hv=some j
   .rw [ba j ho] at hb;cases hb
   .exact .inr ⟨hj,ho,by rw [<- hβ j hj ho];exact hb⟩
 have oQ:∀ b,b<w.heap.size->(∀ id,β id≠some b)->∀ j,β' j≠some b:=λb h2 h3 j hj=>by
  rcases Pd j b hj with rfl | ⟨_,_,h4⟩
  .rcases (Kk b hj).1 with ⟨i,_,h4⟩ | h4
   .exact h3 i h4
   .omega
  .exact h3 j h4
 have Rj:∀ b,Tf C w β b->Tf C w' β' b/\((∃ c T r,w.heap[b]?=some (.cells c T r))->w'.heap[b]?=w.heap[b]?):=λb ⟨h1,h2,h3⟩=>
  ⟨⟨h1,Bp h2 He,oQ b h2 h3⟩,λ_=>Hg b h2 λi _=>h3 i⟩
 have yX:∀ j b,j≠nid->Hv≠some j->β j=some b->w'.heap[b]?=w.heap[b]?:=λj b hj ho hb=>
  Hg b (h.lt hb) λi hi e=>ho (by rw [hi,h.inj i j b e hb])
 have Ce:∀ x d,WV C U V β w x d->WV C U' V' β' w' x d:=λx d ⟨h1,h2,HK⟩=>by
  refine ⟨λid hi=>(jz id).2 (.inl (h1 id hi)),λha=>?_,HK⟩
  have Lq:∀ id∈d.refs,id≠nid/\Hv≠some id:=λid hi=>by
   have hn:id≠nid:=λe=>Sx (e ▸ h1 id hi)
   refine ⟨hn,λe=>?_⟩
   have:=ha id hi
   rw [hV id hn,Af e] at this;cases this
  refine (h2 λid hi=>?_).mono Rj λid hi b hb=>?_
  .have:=ha id hi
   rwa [hV id (Lq id hi).1,Ad (Lq id hi).2] at this
  .exact ⟨by rw [hβ id (Lq id hi).1 (Lq id hi).2];exact hb,SameShape.of_eq (yX id b (Lq id hi).1 (Lq id hi).2 hb)⟩
 have pH:BelG C w':=⟨oP.trans h.bel.os,Xx.trans h.bel.tape,Lq.trans h.bel.output,Ep h.bel.size He,λk Cv Et=>by
  refine (Hg k (Bp Cv h.bel.size) λi _ e=>?_).trans (h.bel.block k Cv Et)
  rcases (h.bge _ _ e).1 with h4 | h4
  .omega
  .exact Et h4⟩
 refine ⟨⟨h.ok,pH,λj b hb=>?_,λi j b hi hj=>?_,λid hn=>?_,λj o hj=>?_⟩,Ce,λb hb hn=>⟨Hg b hb λi _=>hn i,oQ b hb hn⟩⟩
 .rcases Pd j b hb with rfl | ⟨_,_,h4⟩
  .refine ⟨?_,(Kk b hb).2⟩
   rcases (Kk b hb).1 with ⟨i,_,h4⟩ | h4
   .exact (h.bge _ b h4).1
   .exact .inl (Ep h.bel.size h4)
  .exact ⟨(h.bge j b h4).1,Bp (h.lt h4) He⟩
 .rcases Pd i b hi with rfl | ⟨h1,h2,h3⟩ <;> rcases Pd j b hj with rfl | ⟨g1,g2,g3⟩
  .rfl
  .exfalso
   rcases (Kk b hi).1 with ⟨k,hk,h4⟩ | h4
   .exact g2 (by rw [hk,h.inj k j b h4 g3])
   .have:=h.lt g3;omega
  .exfalso
   rcases (Kk b hj).1 with ⟨k,hk,h4⟩ | h4
   .exact h2 (by rw [hk,h.inj k i b h4 h3])
   .have:=h.lt h3;omega
  .exact h.inj i j b h3 g3
 .have h1:¬ U id:=λhu=>hn ((jz id).2 (.inl hu))
  have h2:id≠nid:=λe=>hn ((jz id).2 (.inr e))
  rw [hV id h2]
  split
  .rfl
  .exact h.fr id h1
 .by_cases Nu:j=nid
  .subst Nu;exact gO o hj Ce
  .rw [hV j Nu] at hj
   split at hj
   .cases hj
   .rename_i ho
    exact (h.hp j o hj).keep (hβ j Nu ho) (λb hb=>yX j b Nu ho hb) Ce
theorem HH.write(h:HH C U V β w)(id MC:Nat)(hid:β id=some MC)(HI:(V id).isSome=true)
  (Hg:∀ b,b≠MC->w'.heap[b]?=w.heap[b]?)
  (He:w'.heap.size=w.heap.size) (oP:w'.os=w.os) (Xx:w'.tape=w.tape) (Lq:w'.output=w.output)
  (gI:SameShape w w' MC)
  (hV:∀ j,j≠id->V' j=V j) (hVi:(V' id).isSome=true)
  (gO:∀ o,V' id=some o->(∀ x d,WV C U V β w x d->WV C U V' β w' x d)->RelO C U V' β w' id o) :
  HH C U V' β w'/\(∀ x d,WV C U V β w x d->WV C U V' β w' x d)/\KeepO w β w' β:=by
 have Rj:∀ b,Tf C w β b->Tf C w' β b/\((∃ c T r,w.heap[b]?=some (.cells c T r))->w'.heap[b]?=w.heap[b]?):=by
  rintro b ⟨h1,h2,h3⟩
  exact ⟨⟨h1,by omega,h3⟩,λ_=>Hg b (λe=>h3 id (by rw [hid,e]))⟩
 have Ce:∀ x d,WV C U V β w x d->WV C U V' β w' x d:=λx d ⟨h1,h2,HK⟩=>by
  refine ⟨h1,λha=>(h2 λj hj=>?_).mono Rj λj _ b hb=>?_,HK⟩
  .by_cases Nu:j=id
   .subst Nu;exact HI
   .rw [<- hV j Nu];exact ha j hj
  .refine ⟨hb,?_⟩
   by_cases KG:b=MC
   .subst KG;exact gI
   .exact SameShape.of_eq (Hg b KG)
 have hb0:=(h.bge id MC hid).1
 have pH:BelG C w':=⟨oP.trans h.bel.os,Xx.trans h.bel.tape,Lq.trans h.bel.output,by have:=h.bel.size;omega,λk Cv Et=>by
  refine (Hg k λe=>?_).trans (h.bel.block k Cv Et)
  rcases hb0 with h4 | h4
  .omega
  .exact Et (e ▸ h4)⟩
 refine ⟨⟨h.ok,pH,λj b hb=>⟨(h.bge j b hb).1,by have:=h.lt hb;omega⟩,h.inj,λj hj=>?_,λj o hj=>?_⟩,Ce,λb _ hn=>⟨Hg b (λe=>hn id (by rw [hid,e])),hn⟩⟩
 .have Ha:j≠id:=λe=>hj (e ▸ h.used HI)
  rw [hV j Ha];exact h.fr j hj
 .by_cases Nu:j=id
  .subst Nu;exact gO o hj Ce
  .rw [hV j Nu] at hj
   exact (h.hp j o hj).keep rfl (λb hb=>Hg b λe=>Nu (h.inj j id b hb (by rw [e];exact hid))) Ce
theorem HH.less(h:HH C U V β w)(hU:∀ id,U id->U' id)(hβ:∀ id,β' id=β id\/(β' id=none/\V' id=none))(hV:∀ id,V' id=V id\/V' id=none) :
  HH C U' V' β' w/\(∀ x d,WV C U V β w x d->WV C U' V' β' w x d)/\KeepO w β w β':=by
 have Pd:∀ j b,β' j=some b->β j=some b:=λj b hb=>by
  rcases hβ j with e | e
  .rw [<- e];exact hb
  .rw [e.1] at hb;cases hb
 have Rj:∀ b,Tf C w β b->Tf C w β' b/\((∃ c T r,w.heap[b]?=some (.cells c T r))->w.heap[b]?=w.heap[b]?):=λb ⟨h1,h2,h3⟩=>⟨⟨h1,h2,λj hj=>h3 j (Pd j b hj)⟩,λ_=>rfl⟩
 have Ce:∀ x d,WV C U V β w x d->WV C U' V' β' w x d:=λx d ⟨h1,h2,HK⟩=>by
  refine ⟨λid hi=>hU id (h1 id hi),λha=>(h2 λid hi=>?_).mono Rj λid hi b hb=>⟨?_,SameShape.of_eq rfl⟩,HK⟩
  .have:=ha id hi
   rcases hV id with e | e
   .rw [<- e];exact this
   .rw [e] at this;cases this
  .rcases hβ id with e | e
   .rw [e];exact hb
   .have:=ha id hi
    rw [e.2] at this;cases this
 refine ⟨⟨h.ok,h.bel,λid b hb=>h.bge id b (Pd id b hb),λi j b hi hj=>h.inj i j b (Pd i b hi) (Pd j b hj),λid hn=>?_,λid o ho=>?_⟩,Ce,λb _ hn=>⟨rfl,λj hj=>hn j (Pd j b hj)⟩⟩
 .rcases hV id with e | e
  .rw [e];exact h.fr id λhu=>hn (hU id hu)
  .exact e
 .rcases hV id with e | e
  .rw [e] at ho
   have hβ':β' id=β id:=by
    rcases hβ id with e' | e'
    .exact e'
    .rw [e'.2] at e;rw [<- e] at ho;cases ho
   exact (h.hp id o ho).keep hβ' (λ_ _=>rfl) Ce
  .rw [e] at ho;cases ho
end
def DS.lay(s:DS)(id:Nat)(o:Option DObj):DS:={ s with ho:=setH s.ho id o }
def DS.put(s:DS)(dst:Option Nat)(d:DV):DS:=
 match dst with
 | some t=>{ s with sv:=λu=>if t=u then d else s.sv u }
 | none=>s
@[simp] theorem DS.ho_lay_same(s:DS)(id:Nat)(o:Option DObj):(s.lay id o).ho id=o:=by simp [DS.lay]
theorem DS.ho_lay_other(s:DS){id j:Nat}(o:Option DObj)(h:j≠id):(s.lay id o).ho j=s.ho j:=by simp [DS.lay,setH,h]
@[simp] theorem DS.sv_lay(s:DS)(id:Nat)(o:Option DObj)(t:Nat):(s.lay id o).sv t=s.sv t:=rfl
@[simp] theorem DS.ho_put(s:DS)(dst:Option Nat)(d:DV):(s.put dst d).ho=s.ho:=by cases dst <;> rfl
@[simp] theorem DS.nx_put(s:DS)(dst:Option Nat)(d:DV):(s.put dst d).nx=s.nx:=by cases dst <;> rfl
@[simp] theorem DS.vw_put(C:Ctx)(s:DS)(dst:Option Nat)(d:DV):(s.put dst d).vw C=s.vw C:=by cases dst <;> rfl
theorem DS.sv_put_same(s:DS)(t:Nat)(d:DV):(s.put (some t) d).sv t=d:=by simp [DS.put]
theorem DS.sv_put_other(s:DS){t u:Nat}(d:DV)(h:t≠u):(s.put (some t) d).sv u=s.sv u:=by simp [DS.put,h]
theorem dB{C:Ctx}{s:DS}{id:Nat}{o:DObj}(h:s.ho id=some o):s.vw C id=some o:=by simp [DS.vw,Lm,h]
theorem lS{C:Ctx}{s:DS}{id:Nat}(h:(s.ho id).isSome=true):(s.vw C id).isSome=true:=by
 obtain ⟨o,ho⟩:=Du.1 h
 rw [dB ho];rfl
section
variable {C:Ctx} {U:Nat->Prop} {s:DS} {β:Nat->Option Nat} {a:Act} {w:World}
theorem HoldsB.put(h:HoldsB C U s β a w)(dst:Option Nat)(hd:∀ t,dst=some t->t<C.nt){x:Value}{d:DV}
  (hr:WV C U (s.vw C) β w x d):HoldsB C U (s.put dst d) β (a.put dst x) w:=by
 cases dst with
 | none=>exact h
 | some t=>
  refine ⟨by rw [DS.vw_put];exact h.hh,h.df,by simp [Act.put,h.sz],λu=>?_,by rw [DS.vw_put];exact h.gh,by rw [DS.ho_put];exact h.yd⟩
  rw [DS.vw_put]
  by_cases br:t=u
  .subst br
   rw [DS.sv_put_same]
   have Ez:t<a.tmps.size:=by rw [h.sz];exact hd t rfl
   have:(a.put (some t) x).tmps.getD t undef=x:=by simp [Act.put,Ez]
   rw [this];exact hr
  .rw [DS.sv_put_other s d br]
   have:(a.put (some t) x).tmps.getD u undef=a.tmps.getD u undef:=by simp [Act.put,Gh br]
   rw [this];exact h.sl u
theorem HoldsB.carry{U':Nat->Prop}{s':DS}{β':Nat->Option Nat}{w':World}(hs:HoldsB C U s β a w)(oC:s'.sv=s.sv)(hyd:∀ id o,C.Y id=some o->s'.ho id=none)
  (h:HH C U' (s'.vw C) β' w'/\(∀ x d,WV C U (s.vw C) β w x d->WV C U' (s'.vw C) β' w' x d)/\KeepO w β w' β'):HoldsB C U' s' β' a w':=
 ⟨h.1,h.2.2.mark hs.df,hs.sz,λt=>by rw [oC];exact h.2.1 _ _ (hs.sl t),λx d hx=>h.2.1 _ _ (hs.gh x d hx),hyd⟩
theorem HoldsB.keep{w':World}(hs:HoldsB C U s β a w)(hb:Below w.heap.size w w'):HoldsB C U s β a w':=hs.carry rfl hs.yd (hs.hh.keep hb)
theorem HoldsB.grow{U':Nat->Prop}(hs:HoldsB C U s β a w)(hU:∀ id,U id->U' id):HoldsB C U' s β a w:=hs.carry rfl hs.yd (hs.hh.less hU (λ_=>.inl rfl) (λ_=>.inl rfl))
end
end Go.DD

/- The operations on deep values: compiled from the model's, and what each leaves. -/
namespace Go.DD
open Go.RowKit (Below)
def Qt:Value->DV
 | .agg cs=>if cs.toList.all (·.oneCell') then .agg (cs.toList.map .v) else .any
 | .tuple _=>.any
 | x=>.v x
def DS.live(s:DS)(d:DV):Bool:=d.refs.all λid=>(s.ho id).isSome
def DS.ev(s:DS):Operand->DV
 | .tmp t=>if s.live (s.sv t)=true then s.sv t else .any
 | .const x=>Qt x
 | .func f=>.fn (.func f) [.tup []]
 | .global g=>V1 g
def DS.rv(s:DS):Operand->DV
 | .tmp t=>s.sv t
 | x=>s.ev x
def DV.cells:DV->List DV
 | .agg cs=>cs
 | d=>[d]
def DV.okC:DV->Bool
 | .v x=>x.oneCell'
 | .tup _=>false
 | .any=>false
 | _=>true
def Rf(op:BinOp)(k:IntKind)(a b:Int):Option Value:=
 match op with
 | .add=>some (.int k (k.wrap (a+b)))
 | .sub=>some (.int k (k.wrap (a-b)))
 | .mul=>some (.int k (k.wrap (a*b)))
 | .quo=>if b=0 then none else some (.int k (k.wrap (a.tdiv b)))
 | .rem=>if b=0 then none else some (.int k (a.tmod b))
 | .and=>some (.int k (k.wrap ((BitVec.ofInt k.bits a &&& BitVec.ofInt k.bits b).toNat:Nat)))
 | .or=>some (.int k (k.wrap ((BitVec.ofInt k.bits a ||| BitVec.ofInt k.bits b).toNat:Nat)))
 | .xor=>some (.int k (k.wrap ((BitVec.ofInt k.bits a ^^^ BitVec.ofInt k.bits b).toNat:Nat)))
 | .andNot=>some (.int k (k.wrap ((BitVec.ofInt k.bits a &&& ~~~ BitVec.ofInt k.bits b).toNat:Nat)))
 | .eql=>some (.bool (a==b))
 | .neq=>some (.bool (a != b))
 | .lss=>some (.bool (decide (a<b)))
 | .leq=>some (.bool (decide (a<=b)))
 | .gtr=>some (.bool (decide (b<a)))
 | .geq=>some (.bool (decide (b<=a)))
 | _=>none
def vR(op:BinOp)(k:IntKind)(a b:Int):Option Value:=
 if b<0 then none else
 match op with
 | .shl=>some (.int k (k.wrap (a*2 ^ (min b.toNat k.bits))))
 | .shr=>some (.int k (a.fdiv (2 ^ (min b.toNat k.bits))))
 | _=>none
def fB(op:BinOp)(x y:ByteArray):Option Value:=
 match op with
 | .add=>if x.size+y.size<=2147483648 then some (.string (x++y)) else none
 | .eql=>some (.bool (x.toList==y.toList))
 | .neq=>some (.bool !(x.toList==y.toList))
 | .lss=>some (.bool (Op.bytesLess x.toList y.toList))
 | .leq=>some (.bool (Op.bytesLess x.toList y.toList||x.toList==y.toList))
 | .gtr=>some (.bool !(Op.bytesLess x.toList y.toList||x.toList==y.toList))
 | .geq=>some (.bool !(Op.bytesLess x.toList y.toList))
 | _=>none
def Rq:BinOp->Bool
 | .shl | .shr=>true
 | _=>false
def Pl(op:BinOp):DV->DV->Option Value
 | .v (.int k a),.v (.int k' b)=>if Rq op then vR op k a b else if k=k' then Rf op k a b else none
 | .v (.string a),.v (.string b)=>fB op a b
 | _,_=>none
def iA:Nat->DV->DV->Option Bool
 | 0,.v (.int k a),.v (.int k' b)=>if k=k' then some (a==b) else none
 | 1,.v (.bool a),.v (.bool b)=>some (a==b)
 | 2,.v (.string a),.v (.string b)=>some (a.toList==b.toList)
 | _,_,_=>none
def Rw:List Nat->List DV->List DV->Option Bool
 | [],[],[]=>some true
 | k::ks,c::cs,d::ds=>match iA k c d with
  | some true=>Rw ks cs ds
  | some false=>some false
  | none=>none
 | _,_,_=>none
def isNil:Nat->DV->Option Bool
 | 0,.v (.slice none _ _)=>some true
 | 0,.v (.slice (some _) _ _)=>some false
 | 0,.sl _ n=>if 0<n then some false else none
 | 0,.ms _ _ n _=>if 0<n then some false else none
 | 1,.v (.pointer none)=>some true
 | 1,.ia _=>some false
 | 1,.pt _ _=>some false
 | 2,.v (.map none)=>some true
 | 2,.mp _=>some false
 | 3,.v .nilFunc=>some true
 | 3,.fn _ _=>some false
 | 4,.v .nilIface=>some true
 | 4,.ifc _ _=>some false
 | _,_=>none
def AV(op:UnOp):DV->Option Value
 | .v (.int k n)=>match op with
  | .neg=>some (.int k (k.wrap (0-n)))
  | .xor=>some (.int k (k.wrap ((BitVec.ofInt k.bits (if k.signed then -1 else k.max) ^^^ BitVec.ofInt k.bits n).toNat:Nat)))
  | _=>none
 | .v (.bool b)=>match op with
  | .not=>some (.bool !b)
  | _=>none
 | _=>none
def Ia:List DV->List (Nat×Nat×DV)->Option (List DV)
 | cs,[]=>some cs
 | cs,(off,sz,d)::ps=>if d.okC=true/\d.cells.length=sz/\off+sz<=cs.length then Ia (cs.take off++d.cells++cs.drop (off+sz)) ps else none
def Iu(k:Option Nat)(cs:List DV):Option DV:=
 match k with
 | none=>match cs with
  | c::_=>some c
  | []=>none
 | some n=>if n<=cs.length then some (.agg (cs.take n)) else none
def Lh:DV->Option Int
 | .v (.int _ n)=>some n
 | _=>none
def Im(s:DS)(Zk:Int):Option Operand->Option Int
 | none=>some Zk
 | some x=>Lh (s.ev x)
def srcD(s:DS)(T:TypeId)(es:Nat):DV->Option (List DV×Nat)
 | .sl cs m=>some (cs,m)
 | .v (.slice none 0 _)=>some ([],0)
 | .v (.slice (some _) 0 _)=>some ([],0)
 | .ms id off m es'=>match s.ho id with
  | some (.row T' cs)=>if T'=T/\es'=es/\off+m*es<=cs.length then some ((cs.drop off).take (m*es),m) else none
  | _=>none
 | _=>none
def dstD(s:DS)(T:TypeId)(es:Nat):DV->Option (Option Nat×List DV×Nat)
 | .v (.slice none 0 0)=>some (none,[],0)
 | .ms id 0 n es'=>match s.ho id with
  | some (.row T' cs)=>if T'=T/\es'=es/\cs.length=n*es then some (some id,cs,n) else none
  | _=>none
 | _=>none
def OF:TypeDesc->Value->Bool
 | .bool,.bool _=>true
 | .int k,.int k' _=>k'==k
 | .string,.string _=>true
 | _,_=>false
def Xr:TypeDesc->Value->Value->Option Bool
 | .int _,.int k a,.int k' b=>if k=k' then some (a==b) else none
 | .string,.string a,.string b=>some (a.data.toList==b.data.toList)
 | .bool,.bool a,.bool b=>some (a==b)
 | _,_,_=>none
def Hr:List Nat->List Value->Bool
 | [],[]=>true
 | 0::ks,.int _ _::vs=>Hr ks vs
 | 1::ks,.bool _::vs=>Hr ks vs
 | 2::ks,.string _::vs=>Hr ks vs
 | _,_=>false
def fS:KD->Value->Bool
 | .p d,v=>OF d v
 | .f ks,.agg cs=>Hr ks cs.toList
 | _,_=>false
def Nc:KD->Value->Value->Option Bool
 | .p d,a,b=>Xr d a b
 | .f ks,.agg a,.agg b=>Rw ks (a.toList.map .v) (b.toList.map .v)
 | _,_,_=>none
def mU:List DV->Option (List Value)
 | []=>some []
 | .v x::l=>if x.oneCell' then (mU l).map λr=>x::r else none
 | _=>none
def Tu:DV->Option Value
 | .v x=>some x
 | .agg cs=>(mU cs).map λl=>.agg l.toArray
 | _=>none
def findD(d:KD)(k:Value):List ME->Nat->Option (Option (Nat×ME))
 | [],_=>some none
 | p::ps,i=>match Nc d k p.k with
  | some true=>some (some (i,p))
  | some false=>findD d k ps (i+1)
  | none=>none
def Gj(ok:Bool)(v:DV)(b:Bool):DV:=if ok then .tup [v,.v (.bool b)] else v
def Nd(kd:KD)(kv:Value)(v:DV)(ck:Nat)(es:List ME):Option (Nat×List ME):=
 match findD kd kv es 0 with
 | some (some (i,e))=>some (ck,es.set i ⟨kv,v,e.b⟩)
 | some none=>some (ck+1,es ++ [⟨kv,v,ck⟩])
 | none=>none
def aI(n:Int):List ME->Nat->Option Nat
 | [],_=>none
 | p::ps,i=>if (p.b:Int)==n then some i else aI n ps (i+1)
def Re(since:Nat)(seen:List Nat)(es:List ME):List (Option ME):=
 let left:=es.filter λe=>!seen.contains e.b
 let Hv:=left.filter λe=>decide (e.b<since)
 let new:=left.filter λe=>decide (e.b≥since)
 (if Hv.isEmpty then [none] else [])++(Hv++new).map some
def kB(m:DV)(since:Nat)(seen:List Nat)(ck:Nat):Option ME->DV×Option DObj
 | some e=>(.tup [.v (.bool true),Qt e.k,e.v],some (.miter m since (seen ++ [e.b]) ck))
 | none=>(.tup [.v (.bool false)],none)
def Wn(s:DS)(es:Nat):DV->Option (List DV×Nat)
 | .sl cs m=>some (cs,m)
 | .v (.slice none 0 _)=>some ([],0)
 | .ms id off m es'=>match s.ho id with
  | some (.row _ cs)=>if es'=es/\off+m*es<=cs.length then some ((cs.drop off).take (m*es),m) else none
  | _=>none
 | _=>none
def Xt:List DV->Option (List Int)
 | []=>some []
 | .v (.int .u8 n)::cs=>(Xt cs).map (n :: ·)
 | _=>none
theorem vm:∀ {cs:List DV} {ns:List Int},Xt cs=some ns->ns.length=cs.length/\∀ (j:Nat) (d:DV),cs[j]?=some d->∃ n,ns[j]?=some n/\d=.v (.int .u8 n)
 | [],ns,h=>by cases h;simp
 | .v (.int .u8 n)::cs,ns,h=>by
  obtain ⟨l,hl,rfl⟩:=Ac.1 (show (Xt cs).map (n :: ·)=some ns from h)
  obtain ⟨h1,h2⟩:=vm hl
  refine ⟨by simp [h1],λj d hd=>?_⟩
  cases j with
  | zero=>cases hd;exact ⟨n,rfl,rfl⟩
  | succ j=>simpa using h2 j d (by simpa using hd)
inductive Upd where
 | keep
 | lay (o:DObj)
 | wr (id:Nat) (o:DObj)
 | mv (Hv:Option Nat) (o:DObj)
 deriving Inhabited
def NJ(ho:Nat->Option DObj):Option Nat->Nat->Option DObj
 | none=>ho
 | some i=>setH ho i none
def Upd.app(nid:Nat)(ho:Nat->Option DObj):Upd->Nat->Option DObj
 | .keep=>ho
 | .lay o=>setH ho nid (some o)
 | .wr id o=>setH ho id (some o)
 | .mv Hv o=>setH (NJ ho Hv) nid (some o)
def DS.upd(s:DS)(nid:Nat)(u:Upd):DS:={ s with ho:=u.app nid s.ho }
def Upd.new:Upd->Bool
 | .lay _=>true
 | .mv _ _=>true
 | _=>false
def pW:DV->Nat->Option Value
 | .tup ds,i=>match ds[i]? with
  | some (.v v)=>some v
  | _=>none
 | _,_=>none
theorem Br9{d:DV}{i:Nat}{v:Value}(h:pW d i=some v):∃ ds,d=.tup ds/\ds[i]?=some (.v v):=by
 unfold pW at h
 split at h
 .split at h
  .cases h;exact ⟨_,rfl,by assumption⟩
  .cases h
 .cases h
def Ay(nid:Nat)(s:DS):DOp->Option (DV×Upd)
 | .mv x=>some (s.rv x,.keep)
 | .pick c a b=>match s.ev c with
  | .v (.bool t)=>some (if t then s.rv a else s.rv b,.keep)
  | _=>none
 | .al T z=>some (.pt nid 0,.lay (.row T (z.map .v)))
 | .bx T x=>if (s.ev x).okC then some (.pt nid 0,.lay (.row T (s.ev x).cells)) else none
 | .bld z ps=>match Ia (z.map .v) (ps.map λp=>(p.1,p.2.1,s.ev p.2.2)) with
  | some cs=>some (.agg cs,.keep)
  | none=>none
 | .bsl T n es z ps=>match Ia ((List.replicate n (z.map .v)).flatten) (ps.map λp=>(p.1,p.2.1,s.ev p.2.2)) with
  | some cs=>if z.length=es then some (.ms nid 0 n es,.lay (.row T cs)) else none
  | none=>none
 | .ld k x=>match s.ev x with
  | .ia cs=>(Iu k cs).map λd=>(d,.keep)
  | .pt id off=>match s.ho id with
   | some (.row _ cs)=>(Iu k (cs.drop off)).map λd=>(d,.keep)
   | _=>none
  | _=>none
 | .st n a x=>match s.ev a with
  | .pt id off=>match s.ho id with
   | some (.row T cs)=>if (s.ev x).okC=true/\(s.ev x).cells.length=n/\off+n<=cs.length then some (.any,.wr id (.row T (cs.take off++(s.ev x).cells++cs.drop (off+n)))) else none
   | _=>none
  | _=>none
 | .nck x=>match s.ev x with
  | .ia cs=>some (.ia cs,.keep)
  | .pt id off=>some (.pt id off,.keep)
  | .fn (.func f) cs=>some (.fn (.func f) cs,.keep)
  | .ifc T d=>some (.ifc T d,.keep)
  | _=>none
 | .bin op x y=>(Pl op (s.ev x) (s.ev y)).map λv=>(.v v,.keep)
 | .bb neg x y=>match s.ev x,s.ev y with
  | .v (.bool a),.v (.bool b)=>some (.v (.bool (xor neg (a==b))),.keep)
  | _,_=>none
 | .eqs neg ks x y=>match s.ev x,s.ev y with
  | .agg xs,.agg ys=>(Rw ks xs ys).map λb=>(.v (.bool (xor neg b)),.keep)
  | _,_=>none
 | .nilq k neg x y=>match isNil k (s.ev x),isNil k (s.ev y) with
  | some true,some b=>some (.v (.bool (xor neg b)),.keep)
  | some b,some true=>some (.v (.bool (xor neg b)),.keep)
  | _,_=>none
 | .un op x=>(AV op (s.ev x)).map λv=>(.v v,.keep)
 | .cvi k x=>match s.ev x with
  | .v (.int _ n)=>some (.v (.int k (k.wrap n)),.keep)
  | _=>none
 | .fa off x=>match s.ev x with
  | .ia cs=>some (.ia (cs.drop off),.keep)
  | .pt id o=>some (.pt id (o+off),.keep)
  | _=>none
 | .fld off k x=>match s.ev x with
  | .agg cs=>(Iu k (cs.drop off)).map λd=>(d,.keep)
  | _=>none
 | .ia es x i=>match Lh (s.ev i),s.ev x with
  | some j,.sl cs n=>if 0<=j/\j<n then some (.ia (cs.drop (j.toNat*es)),.keep) else none
  | some j,.ms id off n _=>if 0<=j/\j<n then some (.pt id (off+j.toNat*es),.keep) else none
  | _,_=>none
 | .ixs x i=>match Lh (s.ev i),s.ev x with
  | some j,.v (.string b)=>if 0<=j then (b[j.toNat]?).map λc=>(.v (.int .u8 (c.toNat:Int)),.keep) else none
  | _,_=>none
 | .sli es x lo hi=>match s.ev x with
  | .sl cs n=>match Im s 0 lo,Im s n hi with
   | some l,some h=>if 0<=l/\l<=h/\h<=n then some (.sl ((cs.drop (l.toNat*es)).take ((h.toNat-l.toNat)*es)) (h.toNat-l.toNat),.keep) else none
   | _,_=>none
  | .ms id off n es'=>match Im s 0 lo,Im s n hi with
   | some l,some h=>if es'=es/\0<=l/\l<=h/\h<=n then some (if l<h\/l=0 then .ms id (off+l.toNat*es) (h.toNat-l.toNat) es else .sl [] 0,.keep) else none
   | _,_=>none
  | .v (.slice none 0 0)=>match Im s 0 lo,Im s 0 hi with
   | some l,some h=>if l=0/\h=0 then some (.v (.slice none 0 0),.keep) else none
   | _,_=>none
  | _=>none
 | .sls x lo hi=>match s.ev x with
  | .v (.string b)=>match Im s 0 lo,Im s b.size hi with
   | some l,some h=>if 0<=l/\l<=h/\h<=b.size then some (.v (.string (b.extract l.toNat h.toNat)),.keep) else none
   | _,_=>none
  | _=>none
 | .len x=>match s.ev x with
  | .sl _ n=>some (.v (.int .i64 n),.keep)
  | .ms _ _ n _=>some (.v (.int .i64 n),.keep)
  | .v (.slice none n _)=>some (.v (.int .i64 n),.keep)
  | _=>none
 | .lns x=>match s.ev x with
  | .v (.string b)=>some (.v (.int .i64 b.size),.keep)
  | _=>none
 | .mdl kd x k=>match Tu (s.ev k) with
  | some kv=>if fS kd kv=true then (match s.ev x with
    | .mp id=>match s.ho id with
     | some (.mapo ck es)=>match findD kd kv es 0 with
      | some (some p)=>some (.any,.wr id (.mapo ck (es.eraseIdx p.1)))
      | some none=>some (.any,.wr id (.mapo ck es))
      | none=>none
     | _=>none
    | _=>none) else none
  | none=>none
 | .cpn x=>match s.ev x with
  | .v (.slice none 0 0)=>some (.v (.int .i64 0),.keep)
  | _=>none
 | .apz T es bytes d n=>match s.ev d,Lh (s.ev n) with
  | .v (.slice none 0 0),some k=>if 0<k/\k<=2147483648/\bytes<=65536/\0<es then some (.ms nid 0 k.toNat es,.lay (.row T [])) else none
  | _,_=>none
 | .app T es bytes d x=>match dstD s T es (s.ev d),srcD s T es (s.ev x) with
  | some (Hv,cs,n),some (news,m)=>if news.length=m*es/\0<es/\n+m<=2147483648/\bytes<=65536 then
    some (.ms nid 0 (n+m) es,.mv Hv (.row T (cs++news))) else none
  | _,_=>none
 | .mks T es bytes z l c=>match Lh (s.ev l),Lh (s.ev c) with
  | some l,some c=>if 0<=l/\l<=c/\c<=2147483648/\bytes<=65536/\z.length=es/\0<es then
    some (.ms nid 0 l.toNat es,.lay (.row T ((List.replicate l.toNat (z.map .v)).flatten))) else none
  | _,_=>none
 | .mkf f fst cap=>some (.fn f (.tup (fst.map s.ev)::cap.map s.ev),.keep)
 | .ext x i=>match pW (s.rv x) i with
  | some v=>some (.v v,.keep)
  | none=>match s.ev x with
   | .tup ds=>(ds[i]?).map λd=>(d,.keep)
   | _=>none
 | .mm mx x y=>match s.ev x,s.ev y with
  | .v (.int k a),.v (.int _ b)=>some (.v (.int k (if mx then (if b>a then b else a) else (if b<a then b else a))),.keep)
  | _,_=>none
 | .mkm=>some (.mp nid,.lay (.mapo 0 []))
 | .lkp kd z x k ok=>match Tu (s.ev k) with
  | some kv=>if fS kd kv=true then (match s.ev x with
    | .v (.map none)=>some (Gj ok (.v z) false,.keep)
    | .mp id=>match s.ho id with
     | some (.mapo _ es)=>match findD kd kv es 0 with
      | some (some p)=>some (Gj ok p.2.v true,.keep)
      | some none=>some (Gj ok (.v z) false,.keep)
      | none=>none
     | _=>none
    | _=>none) else none
  | none=>none
 | .mup kd x k y=>match Tu (s.ev k) with
  | some kv=>if fS kd kv=true then (match s.ev x with
    | .mp id=>match s.ho id with
     | some (.mapo ck es)=>match Nd kd kv (s.ev y) ck es with
      | some p=>some (.any,.wr id (.mapo p.1 p.2))
      | none=>none
     | _=>none
    | _=>none) else none
  | none=>none
 | .men kd z x k=>match Tu (s.ev k) with
  | some kv=>if fS kd kv=true then (match s.ev x with
    | .mp id=>match s.ho id with
     | some (.mapo ck es)=>match findD kd kv es 0 with
      | some (some p)=>some (.tup [p.2.v,.v (.int .i64 p.2.b)],.wr id (.mapo ck es))
      | some none=>some (.tup [.v z,.v (.int .i64 ck)],.wr id (.mapo (ck+1) (es ++ [⟨kv,.v z,ck⟩])))
      | none=>none
     | _=>none
    | _=>none) else none
  | none=>none
 | .mes x st y=>match s.ev x,Lh (s.ev st) with
  | .mp id,some n=>match s.ho id with
   | some (.mapo ck es)=>match aI n es 0 with
    | some i=>some (.any,.wr id (.mapo ck (es.modify i λe=>{ e with v:=s.ev y })))
    | none=>none
   | _=>none
  | _,_=>none
 | .rgm x=>match s.ev x with
  | .v (.map none)=>some (.pt nid 0,.lay (.miter (.v (.map none)) 0 [] 0))
  | .mp id=>match s.ho id with
   | some (.mapo ck _)=>some (.pt nid 0,.lay (.miter (.mp id) ck [] ck))
   | _=>none
  | _=>none
 | .rgs x=>match s.ev x with
  | .v (.string b)=>some (.pt nid 0,.lay (.siter b 0))
  | _=>none
 | .nxs x=>match s.ev x with
  | .pt id 0=>match s.ho id with
   | some (.siter t pos)=>if pos<t.size then some (.tup [.v (.bool true),.v (.int .i64 (pos:Nat)),.v (.int .i32 ((Utf8.decode t pos).1:Nat))],.wr id (.siter t (pos+(Utf8.decode t pos).2))) else some (.tup [.v (.bool false)],.keep)
   | _=>none
  | _=>none
 | .mki T x=>some (.ifc T (s.ev x),.keep)
 | .tas T z x ok=>match s.ev x with
  | .ifc T' d=>if T'=T then some (Gj ok d true,.keep) else if ok=true then some (.tup [.v z,.v (.bool false)],.keep) else none
  | .v .nilIface=>if ok=true then some (.tup [.v z,.v (.bool false)],.keep) else none
  | _=>none
 | .sla T n es x=>match s.ev x with
  | .pt id 0=>match s.ho id with
   | some (.row T' cs)=>if T'=T/\cs.length=n*es then some (.ms id 0 n es,.keep) else none
   | _=>none
  | _=>none
 | .cpy es x y=>match s.ev x,Wn s es (s.ev y) with
  | .ms id off n es',some (news,m)=>match s.ho id with
   | some (.row T cs)=>if es'=es/\0<n/\off+n*es<=cs.length/\news.length=m*es then
     some (.v (.int .i64 (min m n:Nat)),.wr id (.row T (cs.take off++news.take (min m n*es)++cs.drop (off+min m n*es)))) else none
   | _=>none
  | _,_=>none
 | .fx n es x i=>match Lh (s.ev i),s.ev x with
  | some j,.pt id off=>if 0<=j/\j<n then some (.pt id (off+j.toNat*es),.keep) else none
  | some j,.ia cs=>if 0<=j/\j<n then some (.ia (cs.drop (j.toNat*es)),.keep) else none
  | _,_=>none
 | .b2s x=>match Wn s 1 (s.ev x) with
  | some (news,m)=>if news.length=m then (Xt news).map λns=>(.v (.string (strOfNums ns)),.keep) else none
  | none=>none
 | .frz x=>match s.ev x with
  | .ms id 0 n 1=>match s.ho id with
   | some (.row T cs)=>if 0<n/\cs.length=n/\(Xt cs).isSome=true then some (.sl cs n,.mv (some id) (.row T [])) else none
   | _=>none
  | _=>none
 | .s2b x=>match s.ev x with
  | .v (.string b)=>some (.sl (b.data.toList.map λc=>.v (.int .u8 (c.toNat:Int))) b.size,.keep)
  | _=>none
 | .lnm x=>match s.ev x with
  | .v (.map none)=>some (.v (.int .i64 0),.keep)
  | .mp id=>match s.ho id with
   | some (.mapo _ es)=>some (.v (.int .i64 es.length),.keep)
   | _=>none
  | _=>none
 | _=>none
def kA(id:Nat)(p:DV×Option DObj):DV×Upd:=match p.2 with
 | some o=>(p.1,.wr id o)
 | none=>(p.1,.keep)
def qC(s:DS)(x:Operand):Option (List (DV×Upd)):=match s.ev x with
  | .pt id 0=>match s.ho id with
   | some (.miter (.mp im) _ seen last)=>match s.ho im with
    | some (.mapo ck es)=>if ck=last then match seen.getLast? with
      | some st=>match es.find? (λe=>e.b==st) with
       | some e=>some [(.tup [Qt e.k,e.v],.keep)]
       | none=>none
      | none=>none
     else none
    | _=>none
   | _=>none
  | _=>none
def Wp(s:DS)(k:Bool)(x:Operand):Option (List (DV×Upd)):=if k then qC s x else match s.ev x with
  | .pt id 0=>match s.ho id with
   | some (.miter (.v (.map none)) _ _ _)=>some [(.tup [.v (.bool false)],.keep)]
   | some (.miter (.mp im) since seen last)=>match s.ho im with
    | some (.mapo ck es)=>if (!seen.isEmpty && !es.isEmpty&&es.all (λe=>decide (e.b≥last)))=true then none else
      some ((Re since seen es).map λc=>kA id (kB (.mp im) since seen ck c))
    | _=>none
   | _=>none
  | _=>none
def Uf(nid:Nat)(s:DS):DOp->Option (List (DV×Upd))
 | .app T es bytes d x=>match s.ev d,srcD s T es (s.ev x) with
  | .ms id off n es',some (news,m)=>match s.ho id with
   | some (.row T' cs)=>if T'=T/\es'=es/\off≠0/\off+n*es=cs.length/\news.length=m*es/\0<m/\0<es/\n+m<=2147483648/\bytes<=65536 then
     some [(.ms nid 0 (n+m) es,.mv (some id) (.row T (cs.drop off++news))),(.ms nid off (n+m) es,.mv (some id) (.row T (cs++news)))] else none
   | _=>none
  | _,_=>none
 | _=>none
def exec(s:DS)(op:DOp):Option (DV×DS):=
 match Ay s.nx s op with
 | some (d,u)=>some (d,{ s.upd s.nx u with nx:=if u.new then s.nx+1 else s.nx })
 | none=>none
end Go.DD

/- Each operation on deep values is what the model's operation does (first part: no memory is made). -/
namespace Go.DD
open Go.RowKit (Below)
section inv
variable {P : Program} {w : World} {al : Nat -> Prop} {β : Nat -> Option Nat} {x : Value}
theorem Eb{y : Value}(h : Rel P w al β x (.v y)) : x = y := by
  cases h with
  | imm _ _ h => cases h;rfl
theorem X1{cs : List DV}(h : Rel P w al β x (.agg cs)) : ∃ vs : List Value, x = .agg vs.toArray /\ vs.length = cs.length /\ (∀ u ∈ vs, u.oneCell' = true) /\
    ∀ (j : Nat) (u : Value) (d : DV), vs[j]? = some u -> cs[j]? = some d -> Rel P w al β u d := by
  cases h with
  | imm _ _ h => cases h with
    | agg vs cs hl ho h => exact ⟨vs, rfl, hl, ho, λj u d hu hd => .imm _ _ (h j u d hu hd)⟩
  | agg vs cs hl ho h => exact ⟨vs, rfl, hl, ho, h⟩
theorem uk{cs : List DV}(h : Rel P w al β x (.tup cs)) : ∃ vs : List Value, x = .tuple vs.toArray /\ vs.length = cs.length /\
    ∀ (j : Nat) (u : Value) (d : DV), vs[j]? = some u -> cs[j]? = some d -> Rel P w al β u d := by
  cases h with
  | imm _ _ h => cases h with
    | tup vs cs hl h => exact ⟨vs, rfl, hl, λj u d hu hd => .imm _ _ (h j u d hu hd)⟩
  | tup vs cs hl h => exact ⟨vs, rfl, hl, h⟩
theorem OE{f : Fn}{cs : List DV}(h : Rel P w al β x (.fn f cs)) : ∃ us vs : List Value, x = .func f us.toArray vs.toArray /\ (Value.tuple us.toArray::vs).length = cs.length /\
    ∀ (j : Nat) (u : Value) (d : DV), (Value.tuple us.toArray::vs)[j]? = some u -> cs[j]? = some d -> Rel P w al β u d := by
  cases h with
  | imm _ _ h => cases h with
    | fn _ us vs cs hl h => exact ⟨us, vs, rfl, hl, λj u d hu hd => .imm _ _ (h j u d hu hd)⟩
  | fn _ us vs cs hl h => exact ⟨us, vs, rfl, hl, h⟩
theorem uj{f : Fn}{fs cs : List DV}(h : Rel P w al β x (.fn f (.tup fs::cs))) : ∃ us vs : List Value, x = .func f us.toArray vs.toArray /\ us.length = fs.length /\ vs.length = cs.length /\
    (∀ (j : Nat) (u : Value) (d : DV), us[j]? = some u -> fs[j]? = some d -> Rel P w al β u d) /\ ∀ (j : Nat) (u : Value) (d : DV), vs[j]? = some u -> cs[j]? = some d -> Rel P w al β u d := by
  obtain ⟨us, vs, rfl, hl, hr⟩ := OE h
  obtain ⟨us', e, mC, tM⟩ := uk (hr 0 _ _ rfl rfl)
  simp only [Value.tuple.injEq] at e
  have e' : us = us' := by simpa using Mq Array.toList e
  subst e'
  exact ⟨us, vs, rfl, mC, by simpa using hl, tM, λj u d hu hd => hr (j + 1) u d (by simpa using hu) (by simpa using hd)⟩
theorem SE{W : Value -> DV -> Prop}{a b : List Value}{c d : List DV}(hl : a.length = c.length)(h1 : ∀ (j : Nat) (v : Value) (e : DV), a[j]? = some v -> c[j]? = some e -> W v e)
    (h2 : ∀ (j : Nat) (v : Value) (e : DV), b[j]? = some v -> d[j]? = some e -> W v e) (j : Nat) (v : Value) (e : DV) (hv : (a++b)[j]? = some v) (he : (c++d)[j]? = some e) : W v e := by
  rw [Dr] at hv he
  by_cases hj : j<a.length
  . rw [Af hj] at hv;rw [Af (by omega)] at he;exact h1 j v e hv he
  . rw [Ad hj] at hv;rw [Ad (by omega)] at he;rw [hl] at hv;exact h2 _ v e hv he
theorem C5{T : TypeId}{d : DV}(h : Rel P w al β x (.ifc T d)) : ∃ u, x = .iface T u /\ Rel P w al β u d := by
  cases h with
  | imm _ _ h => cases h with
    | ifc _ u _ h => exact ⟨u, rfl, .imm _ _ h⟩
  | ifc _ u _ h => exact ⟨u, rfl, h⟩
theorem Z9{cs : List DV}(h : Rel P w al β x (.ia cs)) : ∃ (ad : Addr) (us : List Value), x = .pointer (some ad) /\ us.length = cs.length /\ al ad.block /\ (∀ u ∈ us, u.oneCell' = true) /\
    (∀ (j : Nat) (u : Value), us[j]? = some u -> w.cell? (ad.add j) = some u) /\ ∀ (j : Nat) (u : Value) (d : DV), us[j]? = some u -> cs[j]? = some d -> RelI w al u d := by
  cases h with
  | imm _ _ h => cases h with
    | ia ad us cs hl ha ho hc h => exact ⟨ad, us, rfl, hl, ha, ho, hc, h⟩
theorem Q4{cs : List DV}{n : Nat}(h : Rel P w al β x (.sl cs n)) : (∃ a cap, x = .slice a 0 cap /\ cs = [] /\ n = 0) \/
    ∃ (ad : Addr) (cap : Nat) (us : List Value), x = .slice (some ad) n cap /\ us.length = cs.length /\ n <= cap /\ al ad.block /\ (∀ u ∈ us, u.oneCell' = true) /\
    (∀ (j : Nat) (u : Value), us[j]? = some u -> w.cell? (ad.add j) = some u) /\ ∀ (j : Nat) (u : Value) (d : DV), us[j]? = some u -> cs[j]? = some d -> RelI w al u d := by
  cases h with
  | imm _ _ h => cases h with
    | sl0 a cap => exact .inl ⟨a, cap, rfl, rfl, rfl⟩
    | sl ad n cap us cs hl hn ha ho hc h => exact .inr ⟨ad, cap, us, rfl, hl, hn, ha, ho, hc, h⟩
theorem mR{id off n es : Nat}(h : Rel P w al β x (.ms id off n es)) : (x = .slice none 0 0 /\ off = 0 /\ n = 0) \/
    ∃ (b cap : Nat) (c : Array Value) (T : TypeId), x = .slice (some ⟨b, off, none⟩) n cap /\ β id = some b /\ w.heap[b]? = some (.cells c T (0, 0)) /\ n <= cap /\ cap <= maxLen /\ off + cap * es = c.size := by
  cases h with
  | imm _ _ h => cases h
  | ms0 id es => exact .inl ⟨rfl, rfl, rfl⟩
  | ms id off n es b cap c T hβ hw hn hm Pf => exact .inr ⟨b, cap, c, T, rfl, hβ, hw, hn, hm, Pf⟩
theorem jR{id off : Nat}(h : Rel P w al β x (.pt id off)) : ∃ b, x = .pointer (some ⟨b, off, none⟩) /\ β id = some b := by
  cases h with
  | imm _ _ h => cases h
  | pt id off b hβ => exact ⟨b, rfl, hβ⟩
theorem qP{id : Nat}(h : Rel P w al β x (.mp id)) : ∃ b, x = .map (some b) /\ β id = some b := by
  cases h with
  | imm _ _ h => cases h
  | mp id b hβ => exact ⟨b, rfl, hβ⟩
theorem SD{id : Nat}(h : Rel P w al β x (.yl id)) : ∃ b, x = .func (.yield b) #[] #[] /\ β id = some b := by
  cases h with
  | imm _ _ h => cases h
  | yl id b hβ => exact ⟨b, rfl, hβ⟩
theorem UL : Rel P w al β x .any := .imm _ _ (.any x)
end inv
theorem UK{P : Program}{w : World}{al : Nat -> Prop}{β : Nat -> Option Nat}(x : Value) : Rel P w al β x (Qt x) := by
  cases x with
  | agg cs =>
    simp only [Qt]
    split
    . rename_i h
      obtain ⟨l⟩ := cs
      refine .imm _ _ (.agg l (l.map .v) (by simp) (by simpa using h) λj u d hu hd => ?_)
      simp only [Ee, hu, Cf, Ed] at hd
      subst hd
      exact .v u
    . exact UL
  | tuple vs => exact UL
  | _ => exact .imm _ _ (.v _)
theorem Cl1(l : List Value) : DV.refsL (l.map .v) = [] := by induction l <;> simp_all [DV.refsL, DV.refs]
theorem Bg7(g : Nat) : (V1 g).refs = [] := by
  unfold V1
  split <;> simp [DV.refs]
theorem R6(x : Value) : (Qt x).refs = [] := by
  cases x with
  | agg cs => simp only [Qt];split <;> simp [DV.refs, Cl1]
  | _ => simp [Qt, DV.refs]
theorem HoldsB.eva{s : DS}(x : Operand) : ∀ id ∈ (s.ev x).refs, (s.ho id).isSome = true := by
  cases x with
  | tmp t =>
    simp only [DS.ev]
    split
    . rename_i h;exact λid hi => Bi.1 h id hi
    . intro id hi;simp [DV.refs] at hi
  | const x => intro id hi;simp only [DS.ev] at hi;rw [R6] at hi;cases hi
  | func f => intro id hi;simp [DS.ev, DV.refs, DV.refsL] at hi
  | global g => intro id hi;simp only [DS.ev] at hi;rw [Bg7] at hi;cases hi
theorem HoldsB.ev{C : Ctx}{U : Nat -> Prop}{s : DS}{β : Nat -> Option Nat}{a : Act}{w : World}(h : HoldsB C U s β a w)(x : Operand) : Rel C.P w (Tf C w β) β (a.eval x) (s.ev x) := by
  cases x with
  | tmp t =>
    simp only [DS.ev]
    split
    . rename_i hl;exact (h.sl t).2.1 λid hi => lS (Bi.1 hl id hi)
    . exact UL
  | const x => exact UK x
  | func f =>
    refine .imm _ _ (.fn (.func f) [] [] [.tup []] rfl λj u d hu hd => ?_)
    cases j with
    | zero => cases hu;cases hd;exact .tup [] [] rfl λj u d hu _ => by simp at hu
    | succ j => simp at hu
  | global g =>
    show Rel _ _ _ _ _ (V1 g)
    unfold V1
    split
    . rename_i cs hg
      exact (h.gh (.pointer (some ⟨g, 0, none⟩)) (.ia (cs.map .v)) (.inr ⟨g, cs, hg, rfl, rfl⟩)).2.1 λid hi => (by simp [DV.refs] at hi)
    . exact UL
theorem HoldsB.evw{C : Ctx}{U : Nat -> Prop}{s : DS}{β : Nat -> Option Nat}{a : Act}{w : World}(h : HoldsB C U s β a w)(x : Operand) : WV C U (s.vw C) β w (a.eval x) (s.ev x) :=
  h.hh.wv (h.ev x) λid hi => lS (HoldsB.eva x id hi)
theorem HoldsB.rvw{C : Ctx}{U : Nat -> Prop}{s : DS}{β : Nat -> Option Nat}{a : Act}{w : World}(h : HoldsB C U s β a w)(x : Operand) : WV C U (s.vw C) β w (a.eval x) (s.rv x) := by
  cases x with
  | tmp t => exact h.sl t
  | _ => exact h.evw _
theorem HoldsB.evp{C : Ctx}{U : Nat -> Prop}{s : DS}{β : Nat -> Option Nat}{a : Act}{w : World}(h : HoldsB C U s β a w)(x : Operand){u : Value}{d : DV}(hr : Rel C.P w (Tf C w β) β u d)(hd : ∀ id ∈ d.refs, id ∈ (s.ev x).refs) : WV C U (s.vw C) β w u d :=
  h.hh.wv hr λid hi => lS (HoldsB.eva x id (hd id hi))
def Un(U : Nat -> Prop)(nid id : Nat) : Prop := U id \/ id = nid
def OpOk(C : Ctx)(U : Nat -> Prop)(a : Act)(w : World)(o : Oper)(d : DV)(s' : DS) : Prop :=
  ∃ nx w' β' x, (execOp a.eval o).run C.P w = .ok nx w' /\ (nx = .value x \/ (nx = .skip /\ x = undef)) /\ HoldsB C U s' β' a w' /\ WV C U (s'.vw C) β' w' x d
theorem WV.grow{C : Ctx}{U U' : Nat -> Prop}{V : Nat -> Option DObj}{β : Nat -> Option Nat}{w : World}{x : Value}{d : DV}(h : WV C U V β w x d)(hU : ∀ id, U id -> U' id) : WV C U' V β w x d := ⟨λid hi => hU id (h.1 id hi), h.2⟩
theorem OpOk.same{C : Ctx}{U : Nat -> Prop}{s : DS}{β : Nat -> Option Nat}{a : Act}{w : World}{o : Oper}{d : DV}(h : HoldsB C U s β a w){x : Value}
    (hr : (execOp a.eval o).run C.P w = .ok (.value x) w) (hx : WV C U (s.vw C) β w x d) : OpOk C U a w o d s :=
  ⟨_, w, β, x, hr, .inl rfl, h, hx⟩
def Ux(U : Nat -> Prop)(nid : Nat) : Upd -> Nat -> Prop
  | .lay _ => Un U nid
  | .mv _ _ => Un U nid
  | _ => U
section ops
variable {C : Ctx} {U : Nat -> Prop} {s : DS} {β : Nat -> Option Nat} {a : Act} {w : World} {o : Oper} {d : DV} {s' : DS} {nid : Nat}
theorem lI{P : Program}{al : Nat -> Prop}{x : Value}{d : DV}(h : Rel P w al β x d)(ho : d.okC = true) :
    x.cells.size = d.cells.length /\ (∀ u ∈ x.cells.toList, u.oneCell' = true) /\ ∀ (j : Nat) (u : Value) (e : DV), x.cells[j]? = some u -> d.cells[j]? = some e -> Rel P w al β u e := by
  have one : ∀ (x : Value) (d : DV), x.oneCell' = true -> d.cells = [d] -> Rel P w al β x d -> x.cells.size = d.cells.length /\ (∀ u ∈ x.cells.toList, u.oneCell' = true) /\ ∀ (j : Nat) (u : Value) (e : DV), x.cells[j]? = some u -> d.cells[j]? = some e -> Rel P w al β u e := by
    intro x d hx hd hr
    have hc : x.cells = #[x] := by cases x <;> first | rfl | (simp [Value.oneCell'] at hx)
    rw [hc, hd]
    refine ⟨rfl, by simpa using hx, λj u e hu he => ?_⟩
    cases j with
    | zero => simp at hu he;subst hu he;exact hr
    | succ j => simp at hu
  cases d with
  | agg cs =>
    obtain ⟨vs, rfl, hl, h1, h2⟩ := X1 h
    refine ⟨by simpa [Value.cells, DV.cells] using hl, by simpa [Value.cells] using h1, λj u e hu he => h2 j u e (by simpa [Value.cells] using hu) he⟩
  | v y => have := Eb h;subst this;exact one _ _ ho rfl h
  | tup cs => cases ho
  | any => cases ho
  | sl cs n => rcases Q4 h with ⟨a, cap, rfl, _, _⟩ | ⟨ad, cap, us, rfl, _⟩ <;> exact one _ _ rfl rfl h
  | ia cs => obtain ⟨ad, us, rfl, _⟩ := Z9 h;exact one _ _ rfl rfl h
  | fn f cs => obtain ⟨us, vs, rfl, _⟩ := OE h;exact one _ _ rfl rfl h
  | ms id off n es => rcases mR h with ⟨rfl, _⟩ | ⟨b, cap, c, T, rfl, _⟩ <;> exact one _ _ rfl rfl h
  | pt id off => obtain ⟨b, rfl, _⟩ := jR h;exact one _ _ rfl rfl h
  | mp id => obtain ⟨b, rfl, _⟩ := qP h;exact one _ _ rfl rfl h
  | yl id => obtain ⟨b, rfl, _⟩ := SD h;exact one _ _ rfl rfl h
  | ifc T d => obtain ⟨u, rfl, _⟩ := C5 h;exact one _ _ rfl rfl h
theorem Bo4{d e : DV}(h : e ∈ d.cells) : ∀ id ∈ e.refs, id ∈ d.refs := by
  intro id hi
  cases d <;> simp only [DV.cells, Am] at h <;> first | (subst h;exact hi) | (rw [DV.refs];exact DV.refsL_mem h hi)
theorem HoldsB.cells(hs : HoldsB C U s β a w)(x : Operand)(ho : (s.ev x).okC = true) :
    (a.eval x).cells.size = (s.ev x).cells.length /\ (∀ u ∈ (a.eval x).cells.toList, u.oneCell' = true) /\ ∀ (j : Nat) (u : Value) (e : DV), (a.eval x).cells[j]? = some u -> (s.ev x).cells[j]? = some e -> WV C U (s.vw C) β w u e := by
  obtain ⟨h1, h2, h3⟩ := lI (hs.ev x) ho
  exact ⟨h1, h2, λj u e hu he => hs.evp x (h3 j u e hu he) (Bo4 (Au he))⟩
theorem vy{P : Program}{t : TypeId}{n : Nat}(h : Of P t = some (some n))(w : World) : (isAgg t).run P w = .ok true w /\ (sizeOf t).run P w = .ok n w /\ ∃ i, P.info? t = some i /\ i.size = n := by
  unfold Of at h
  split at h
  . rename_i hu hi
    simp at h
    exact ⟨by simp [isAgg, run_underlying hu], by simp [sizeOf, typeInfo, hi, h], _, hi, h⟩
  . rename_i hu hi
    simp at h
    exact ⟨by simp [isAgg, run_underlying hu], by simp [sizeOf, typeInfo, hi, h], _, hi, h⟩
  . rename_i d i oT Ya hu hi
    split at h <;> simp at h
  . simp at h
theorem NX{P : Program}{t : TypeId}(h : Of P t = some none)(w : World) : (isAgg t).run P w = .ok false w /\ (sizeOf t).run P w = .ok 1 w /\ ∃ i, P.info? t = some i /\ i.size = 1 := by
  unfold Of at h
  split at h
  . simp at h
  . simp at h
  . rename_i d i oT Ya hu hi
    split at h
    . rename_i hs
      refine ⟨?_, by simp [sizeOf, typeInfo, hi, hs], _, hi, hs⟩
      simp only [isAgg, Sem.run_bind, run_underlying hu, Result.andThen_ok]
      cases d <;> first | rfl | (exfalso;first | exact oT _ _ hu hi | exact Ya _ _ _ hu hi)
    . simp at h
  . simp at h
theorem Ct3(op : BinOp)(t : TypeId)(x y : Operand){v : Value}(h : Pl op (s.ev x) (s.ev y) = some v)(hs : HoldsB C U s β a w) :
    (eqGuard op t x y (a.eval x) (a.eval y)).run C.P w = .ok () w /\ (binOp op t (a.eval x) (a.eval y)).run C.P w = .ok v w := by
  have hx := hs.ev x
  have hy := hs.ev y
  unfold Pl at h
  split at h
  . rename_i k p k' q ex ey
    rw [ex] at hx;rw [ey] at hy
    rw [Eb hx, Eb hy]
    refine ⟨by unfold eqGuard;split <;> rfl, ?_⟩
    split at h
    . rename_i J0
      unfold vR at h
      split at h
      . cases h
      . rename_i hq
        cases op <;> simp [Rq] at J0 <;> simp at h <;> subst h <;> simp [binOp, Op.shift, hq]
    . rename_i J0
      split at h
      . rename_i hk
        subst hk
        cases op <;> simp [Rf, Rq] at h J0 <;> first | (subst h;simp [binOp, Op.intArith, Op.intBits, Op.intCmp];done) | (obtain ⟨hq, rfl⟩ := h;simp [binOp, Op.intDiv, hq])
      . cases h
  . rename_i p q ex ey
    rw [ex] at hx;rw [ey] at hy
    rw [Eb hx, Eb hy]
    refine ⟨by unfold eqGuard;split <;> rfl, ?_⟩
    cases op <;> simp [fB] at h <;> first | (subst h;simp [binOp, Op.stringOp];done) | (obtain ⟨hq, rfl⟩ := h;simp [binOp, Op.stringOp, IntKind.max, IntKind.bits, IntKind.signed];omega)
  . cases h
theorem wJ{x : Operand}(ho : o.op = .move x \/ o.op = .assign x)(hs : HoldsB C U s β a w) : OpOk C U a w o (s.rv x) s :=
  .same hs (by rcases ho with ho | ho <;> simp [execOp, ho]) (hs.rvw x)
theorem Cl2{c x y : Operand}{t : Bool}(ho : o.op = .pick c x y)(hs : HoldsB C U s β a w)(hc : s.ev c = .v (.bool t)) : OpOk C U a w o (if t then s.rv x else s.rv y) s := by
  have h1 := hs.ev c
  rw [hc] at h1
  refine .same hs (x := if t then a.eval x else a.eval y) ?_ ?_
  . simp [execOp, ho, Eb h1, asBool]
  . cases t
    . exact hs.rvw y
    . exact hs.rvw x
theorem Ct4{op : BinOp}{t yt : TypeId}{x y : Operand}{v : Value}(ho : o.op = .binOp op t x y yt)(hs : HoldsB C U s β a w)(h : Pl op (s.ev x) (s.ev y) = some v) :
    OpOk C U a w o (.v v) s := by
  obtain ⟨h1, h2⟩ := Ct3 op t x y h hs
  exact .same hs (by simp [execOp, ho, h1, h2]) (WV.v v)
theorem EV{neg : Bool}{op : BinOp}(Oa : op = if neg then .neq else .eql){t yt : TypeId}{x y : Operand}{p q : Bool}(ho : o.op = .binOp op t x y yt)(ht : C.P.underlying t = some .bool)
    (hs : HoldsB C U s β a w) (hx : s.ev x = .v (.bool p)) (hy : s.ev y = .v (.bool q)) : OpOk C U a w o (.v (.bool (xor neg (p==q)))) s := by
  have h1 := hs.ev x
  have h2 := hs.ev y
  rw [hx] at h1;rw [hy] at h2
  refine .same hs ?_ (WV.v _)
  have he := λd => run_equalIn_bool' w d t p q ht
  subst Oa
  cases neg <;> simp [execOp, ho, Eb h1, Eb h2, eqGuard, binOp, Op.equal, Op.maxDepth, he]
theorem sw{P : Program}{al : Nat -> Prop}(d : Nat) : ∀ (fs : List Field) (ks : List Nat) (off : Nat) (xs ys : List Value) (cs ds : List DV) (r : Bool), qQ P off fs = some ks -> Rw ks (cs.drop off) (ds.drop off) = some r ->
    xs.length = cs.length -> ys.length = ds.length ->
    (∀ (j : Nat) (u : Value) (d : DV), xs[j]? = some u -> cs[j]? = some d -> Rel P w al β u d) -> (∀ (j : Nat) (u : Value) (d : DV), ys[j]? = some u -> ds[j]? = some d -> Rel P w al β u d) ->
    (Op.eqFields (d + 1) xs.toArray ys.toArray fs).run P w = .ok r w
  | [], ks, off, xs, ys, cs, ds, r, hk, h, _, _, _, _ => by
    simp [qQ] at hk
    subst hk
    unfold Rw at h
    split at h <;> simp_all [Op.eqFields]
  | f::fs, ks, off, xs, ys, cs, ds, r, hf, h, hx, hy, rx, ry => by
    simp only [qQ] at hf
    split at hf
    rotate_left
    . cases hf
    rename_i J9
    simp only [Bo, bne_iff_ne, Bx, Gm] at J9
    obtain ⟨hn, ho⟩ := J9
    obtain ⟨k, hp, hf⟩ := Az.1 hf
    obtain ⟨ah, aD, rfl⟩ := Ac.1 hf
    have hc : off<cs.length := by
      rcases Dd off cs.length with h1 | h1
      . exact h1
      . rw [Bc h1] at h;simp [Rw] at h
    have hd : off<ds.length := by
      rcases Dd off ds.length with h1 | h1
      . exact h1
      . rw [Bc h1] at h;simp [Rw] at h
    have hxo : off<xs.length := by omega
    have S7 : off<ys.length := by omega
    rw [Bb hc, Bb hd] at h
    have h1 := rx off xs[off] cs[off] (Aa hxo) (Aa hc)
    have h2 := ry off ys[off] ds[off] (Aa S7) (Aa hd)
    have KO : (isAgg f.type).run P w = .ok false w := by
      unfold rY at hp
      simp only [isAgg, Sem.run_bind]
      split at hp <;> first | (rename_i hu;rw [run_underlying hu];rfl) | cases hp
    have px : (part f.type xs.toArray f.offset).run P w = .ok xs[off] w := by
      subst ho
      simp [part, KO, hxo]
    have py : (part f.type ys.toArray f.offset).run P w = .ok ys[off] w := by
      subst ho
      simp [part, KO, S7]
    have step : ∀ b : Bool, iA k cs[off] ds[off] = some b -> (Op.equalIn (d + 1) f.type xs[off] ys[off]).run P w = .ok b w := by
      intro b hb
      generalize cs[off] = c at *
      generalize ds[off] = e at *
      unfold rY at hp
      unfold iA at hb
      split at hb
      . rw [Eb h1, Eb h2]
        split at hb
        . cases hb
          rename_i hk
          subst hk
          split at hp <;> cases hp
          rename_i hu;exact run_equalIn_int w d _ _ _ _ _ hu
        . cases hb
      . rw [Eb h1, Eb h2]
        cases hb
        split at hp <;> cases hp
        rename_i hu;exact run_equalIn_bool' w d _ _ _ hu
      . rw [Eb h1, Eb h2]
        cases hb
        split at hp <;> cases hp
        rename_i hu;exact run_equalIn_string w d _ _ _ hu
      . cases hb
    have ih := sw (P := P) (al := al) d fs ah (off + 1) xs ys cs ds
    simp only [Op.eqFields]
    rw [Af hn]
    simp only [Sem.run_bind, px, py, Result.andThen_ok]
    simp only [Rw] at h
    cases hq : iA k cs[off] ds[off] with
    | none => rw [hq] at h;cases h
    | some b =>
      rw [hq] at h
      rw [step b hq]
      cases b
      . simp at h;subst h;simp
      . simp only [Result.andThen_ok]
        simpa using ih r aD h hx hy rx ry
theorem Ct5{neg : Bool}{op : BinOp}(Oa : op = if neg then .neq else .eql){t yt : TypeId}{x y : Operand}{fs : Array Field}{ks : List Nat}{xs ys : List DV}{r : Bool}(ho : o.op = .binOp op t x y yt)
    (ht : C.P.underlying t = some (.struct fs)) (hg : C.P.eqGuardType C.P.depth t = false) (hh : C.P.stoodInHeld t = false) (hk : qQ C.P 0 fs.toList = some ks)
    (hs : HoldsB C U s β a w) (hx : s.ev x = .agg xs) (hy : s.ev y = .agg ys) (hr : Rw ks xs ys = some r) : OpOk C U a w o (.v (.bool (xor neg r))) s := by
  have h1 := hs.ev x
  have h2 := hs.ev y
  rw [hx] at h1;rw [hy] at h2
  obtain ⟨us, e1, l1, _, r1⟩ := X1 h1
  obtain ⟨vs, e2, l2, _, r2⟩ := X1 h2
  have hf : C.P.fieldsOf t = fs := by simp [Program.fieldsOf, ht]
  have he := sw (w := w) (β := β) (P := C.P) 9998 fs.toList ks 0 us vs xs ys r hk (by simpa using hr) l1 l2 r1 r2
  have mE : (Op.equalIn 10000 t (.agg us.toArray) (.agg vs.toArray)).run C.P w = .ok r w := by
    have h3 := run_equalIn_struct (P := C.P) w 9999 t us.toArray vs.toArray (by rw [hf];exact ht) hh
    rw [hf] at h3
    exact h3.trans he
  refine .same hs ?_ (WV.v _)
  cases neg
  . simp only [Eh, Ib] at Oa
    subst Oa
    have zC := run_eqGuard_agg (P := C.P) w .eql t x y us.toArray vs.toArray hg
    simp [execOp, ho, e1, e2, zC, run_eql_struct, mE]
  . simp only [Ex] at Oa
    subst Oa
    have zC := run_eqGuard_agg (P := C.P) w .neq t x y us.toArray vs.toArray hg
    simp [execOp, ho, e1, e2, zC, run_neq_struct, mE]
def Rn(k : Nat)(x : Value) : Prop :=
  match k with
  | 0 => ∃ n c, x = .slice none n c
  | 1 => x = .pointer none
  | 2 => x = .map none
  | 3 => x = .nilFunc
  | _ => x = .nilIface
def Lo(k : Nat)(x : Value) : Prop :=
  match k with
  | 0 => ∃ ad n c, x = .slice (some ad) n c
  | 1 => ∃ ad, x = .pointer (some ad)
  | 2 => ∃ r, x = .map (some r)
  | 3 => ∃ f p q, x = .func f p q
  | _ => ∃ T y, x = .iface T y
def sY(P : Program)(k : Nat)(t : TypeId) : Prop :=
  match k with
  | 0 => ∃ e, P.underlying t = some (.slice e)
  | 1 => ∃ e, P.underlying t = some (.pointer e)
  | 2 => ∃ e f, P.underlying t = some (.map e f)
  | 3 => ∃ e f g, P.underlying t = some (.func e f g)
  | _ => ∃ e, P.underlying t = some (.interface e)
theorem Bg8{P : Program}{al : Nat -> Prop}{x : Value}{d : DV}{k : Nat}{b : Bool}(h : Rel P w al β x d)(hn : isNil k d = some b) :
    (b = true -> Rn k x) /\ (b = false -> Lo k x) := by
  unfold isNil at hn
  split at hn
  . cases hn;have := Eb h;subst this;simp [Rn]
  . cases hn;have := Eb h;subst this;simp [Lo]
  . split at hn <;> cases hn
    rcases Q4 h with ⟨_, _, _, _, h1⟩ | ⟨ad, cap, us, rfl, _⟩
    . omega
    . simp [Lo]
  . split at hn <;> cases hn
    rcases mR h with ⟨_, _, h1⟩ | ⟨b, cap, c, T, rfl, _⟩
    . omega
    . simp [Lo]
  . cases hn;have := Eb h;subst this;simp [Rn]
  . cases hn;obtain ⟨ad, us, rfl, _⟩ := Z9 h;simp [Lo]
  . cases hn;obtain ⟨b, rfl, _⟩ := jR h;simp [Lo]
  . cases hn;have := Eb h;subst this;simp [Rn]
  . cases hn;obtain ⟨b, rfl, _⟩ := qP h;simp [Lo]
  . cases hn;have := Eb h;subst this;simp [Rn]
  . cases hn;obtain ⟨us, vs, rfl, _⟩ := OE h;simp [Lo]
  . cases hn;have := Eb h;subst this;simp [Rn]
  . cases hn;obtain ⟨u, rfl, _⟩ := C5 h;simp [Lo]
  . cases hn
theorem B37{k : Nat}{d : DV}{b : Bool}(hn : isNil k d = some b) : k<5 := by
  unfold isNil at hn
  split at hn <;> first | omega | cases hn
theorem Aw8{P : Program}{k : Nat}{t : TypeId}{x y : Value}{b : Bool}(hk : k<5)(ht : sY P k t)(hx : Rn k x)(hy : (b = true -> Rn k y) /\ (b = false -> Lo k y))(d : Nat) :
    (Op.equalIn (d + 1) t x y).run P w = .ok b w := by
  obtain rfl | rfl | rfl | rfl | rfl : k = 0 \/ k = 1 \/ k = 2 \/ k = 3 \/ k = 4 := by omega
  . obtain ⟨e, ht⟩ := ht
    obtain ⟨n, c, rfl⟩ := hx
    cases b
    . obtain ⟨ad, n', c', rfl⟩ := hy.2 rfl;simp [Op.equalIn, run_underlying ht]
    . obtain ⟨n', c', rfl⟩ := hy.1 rfl;simp [Op.equalIn, run_underlying ht]
  . obtain ⟨e, ht⟩ := ht
    obtain rfl := hx
    cases b
    . obtain ⟨ad, rfl⟩ := hy.2 rfl;simp [Op.equalIn, run_underlying ht]
    . obtain rfl := hy.1 rfl;simp [Op.equalIn, run_underlying ht]
  . obtain ⟨e, f, ht⟩ := ht
    obtain rfl := hx
    cases b
    . obtain ⟨ad, rfl⟩ := hy.2 rfl;simp [Op.equalIn, run_underlying ht]
    . obtain rfl := hy.1 rfl;simp [Op.equalIn, run_underlying ht]
  . obtain ⟨e, f, g, ht⟩ := ht
    obtain rfl := hx
    cases b
    . obtain ⟨ad, _, _, rfl⟩ := hy.2 rfl;simp [Op.equalIn, run_underlying ht]
    . obtain rfl := hy.1 rfl;simp [Op.equalIn, run_underlying ht]
  . obtain ⟨e, ht⟩ := ht
    obtain rfl := hx
    cases b
    . obtain ⟨T, z, rfl⟩ := hy.2 rfl;simp [Op.equalIn, run_underlying ht]
    . obtain rfl := hy.1 rfl;simp [Op.equalIn, run_underlying ht]
theorem Au6{P : Program}{k : Nat}{t : TypeId}{x y : Value}{b : Bool}(hk : k<5)(ht : sY P k t)(hy : Rn k y)(hx : (b = true -> Rn k x) /\ (b = false -> Lo k x))(d : Nat) :
    (Op.equalIn (d + 1) t x y).run P w = .ok b w := by
  obtain rfl | rfl | rfl | rfl | rfl : k = 0 \/ k = 1 \/ k = 2 \/ k = 3 \/ k = 4 := by omega
  . obtain ⟨e, ht⟩ := ht
    obtain ⟨n, c, rfl⟩ := hy
    cases b
    . obtain ⟨ad, n', c', rfl⟩ := hx.2 rfl;simp [Op.equalIn, run_underlying ht]
    . obtain ⟨n', c', rfl⟩ := hx.1 rfl;simp [Op.equalIn, run_underlying ht]
  . obtain ⟨e, ht⟩ := ht
    obtain rfl := hy
    cases b
    . obtain ⟨ad, rfl⟩ := hx.2 rfl;simp [Op.equalIn, run_underlying ht]
    . obtain rfl := hx.1 rfl;simp [Op.equalIn, run_underlying ht]
  . obtain ⟨e, f, ht⟩ := ht
    obtain rfl := hy
    cases b
    . obtain ⟨ad, rfl⟩ := hx.2 rfl;simp [Op.equalIn, run_underlying ht]
    . obtain rfl := hx.1 rfl;simp [Op.equalIn, run_underlying ht]
  . obtain ⟨e, f, g, ht⟩ := ht
    obtain rfl := hy
    cases b
    . obtain ⟨ad, _, _, rfl⟩ := hx.2 rfl;simp [Op.equalIn, run_underlying ht]
    . obtain rfl := hx.1 rfl;simp [Op.equalIn, run_underlying ht]
  . obtain ⟨e, ht⟩ := ht
    obtain rfl := hy
    cases b
    . obtain ⟨T, z, rfl⟩ := hx.2 rfl;simp [Op.equalIn, run_underlying ht]
    . obtain rfl := hx.1 rfl;simp [Op.equalIn, run_underlying ht]
def UJ(x : Value) : Prop := (∃ a n c, x = .slice a n c) \/ (∃ a, x = .pointer a) \/ (∃ a, x = .map a) \/ x = .nilFunc \/ (∃ f p q, x = .func f p q) \/ x = .nilIface \/ ∃ T y, x = .iface T y
theorem B38{P : Program}(neg : Bool){t : TypeId}{x y : Value}{b : Bool}(X Y : Operand)(hc : Qj X = true \/ Qj Y = true \/ (x ≠ .nilIface /\ y ≠ .nilIface))(he : (Op.equalIn 10000 t x y).run P w = .ok b w)(hx : UJ x)(hy : UJ y) :
    (eqGuard (if neg then .neq else .eql) t X Y x y).run P w = .ok () w /\ (binOp (if neg then .neq else .eql) t x y).run P w = .ok (.bool (xor neg b)) w := by
  rcases hx with ⟨_, _, _, rfl⟩ | ⟨_, rfl⟩ | ⟨_, rfl⟩ | rfl | ⟨_, _, _, rfl⟩ | rfl | ⟨_, _, rfl⟩ <;> rcases hy with ⟨_, _, _, rfl⟩ | ⟨_, rfl⟩ | ⟨_, rfl⟩ | rfl | ⟨_, _, _, rfl⟩ | rfl | ⟨_, _, rfl⟩ <;>
    first
    | (cases neg <;> simp [eqGuard, binOp, Op.equal, Op.maxDepth, he];done)
    | (rcases hc with hc | hc | hc
       . cases X <;> first | (simp [Qj] at hc;done) | (cases neg <;> simp [eqGuard, binOp, Op.equal, Op.maxDepth, he])
       . cases Y <;> first | (simp [Qj] at hc;done) | (cases X <;> cases neg <;> simp [eqGuard, binOp, Op.equal, Op.maxDepth, he])
       . exact absurd rfl hc.1)
theorem A80{k : Nat}{x : Value}(h : Rn k x \/ Lo k x) : UJ x := by
  unfold UJ
  rcases h with h | h
  . unfold Rn at h
    split at h
    . obtain ⟨n, c, rfl⟩ := h;exact .inl ⟨_, _, _, rfl⟩
    . exact .inr (.inl ⟨_, h⟩)
    . exact .inr (.inr (.inl ⟨_, h⟩))
    . exact .inr (.inr (.inr (.inl h)))
    . exact .inr (.inr (.inr (.inr (.inr (.inl h)))))
  . unfold Lo at h
    split at h
    . obtain ⟨ad, n, c, rfl⟩ := h;exact .inl ⟨_, _, _, rfl⟩
    . obtain ⟨ad, rfl⟩ := h;exact .inr (.inl ⟨_, rfl⟩)
    . obtain ⟨ad, rfl⟩ := h;exact .inr (.inr (.inl ⟨_, rfl⟩))
    . exact .inr (.inr (.inr (.inr (.inl h))))
    . exact .inr (.inr (.inr (.inr (.inr (.inr h)))))
theorem Bs1{k : Nat}{neg b c : Bool}{op : BinOp}(Oa : op = if neg then .neq else .eql){t yt : TypeId}{x y : Operand}(ho : o.op = .binOp op t x y yt)(ht : sY C.P k t)(kW : k = 4 -> Qj x = true \/ Qj y = true)
    (hs : HoldsB C U s β a w) (hx : isNil k (s.ev x) = some b) (hy : isNil k (s.ev y) = some c) (hbc : b = true \/ c = true) : OpOk C U a w o (.v (.bool (xor neg (if b then c else b)))) s := by
  have h1 := Bg8 (hs.ev x) hx
  have h2 := Bg8 (hs.ev y) hy
  have hk := B37 hx
  have he : (Op.equalIn 10000 t (a.eval x) (a.eval y)).run C.P w = .ok (if b then c else b) w := by
    rcases hbc with rfl | rfl
    . exact Aw8 hk ht (h1.1 rfl) h2 9999
    . have : (if b = true then true else b) = b := by cases b <;> rfl
      rw [this]
      exact Au6 hk ht (h2.1 rfl) h1 9999
  have hfx : Rn k (a.eval x) \/ Lo k (a.eval x) := by cases b <;> simp_all
  have hfy : Rn k (a.eval y) \/ Lo k (a.eval y) := by cases c <;> simp_all
  have Ha : ∀ z, k ≠ 4 -> (Rn k z \/ Lo k z) -> z ≠ .nilIface := by
    rintro z Fp hz rfl
    obtain rfl | rfl | rfl | rfl : k = 0 \/ k = 1 \/ k = 2 \/ k = 3 := by omega
    all_goals (simp [Rn, Lo] at hz)
  obtain ⟨g1, g2⟩ := B38 neg x y (by
    by_cases Fp : k = 4
    . rcases kW Fp with h | h
      . exact .inl h
      . exact .inr (.inl h)
    . exact .inr (.inr ⟨Ha _ Fp hfx, Ha _ Fp hfy⟩)) he (A80 hfx) (A80 hfy)
  refine .same hs ?_ (WV.v _)
  subst Oa
  simp [execOp, ho, g1, g2]
theorem ER{op : UnOp}{t : TypeId}{x : Operand}{v : Value}(ho : o.op = .unOp op t x)(hs : HoldsB C U s β a w)(h : AV op (s.ev x) = some v) : OpOk C U a w o (.v v) s := by
  have h1 := hs.ev x
  unfold AV at h
  refine .same hs ?_ (WV.v _)
  split at h
  . rename_i hx
    rw [hx] at h1
    split at h <;> cases h
    . simp [execOp, ho, Eb h1, Op.unary, Op.intArith]
    . simp [execOp, ho, Eb h1, Op.unary, Op.intBits]
  . rename_i hx
    rw [hx] at h1
    split at h <;> cases h
    simp [execOp, ho, Eb h1, Op.unary]
  . cases h
theorem Ct6{k k' kk : IntKind}{n : Int}{src dst : TypeId}{x : Operand}(ho : o.op = .convert src dst x)(h1 : C.P.underlying src = some (.int k'))(h2 : C.P.underlying dst = some (.int k))
    (hs : HoldsB C U s β a w) (hx : s.ev x = .v (.int kk n)) : OpOk C U a w o (.v (.int k (k.wrap n))) s := by
  have h3 := hs.ev x
  rw [hx] at h3
  refine .same hs ?_ (WV.v _)
  simp [execOp, ho, Eb h3, convert, run_underlying h1, run_underlying h2, Conv.intToInt]
theorem wK{mx : Bool}{k k' : IntKind}{p q : Int}{c : Call}{x y : Operand}(ho : o.op = .call c)(hc : c.callee = .builtin (if mx then .max else .min))(Di : c.args.toList = [x, y])
    (hs : HoldsB C U s β a w) (hx : s.ev x = .v (.int k p)) (hy : s.ev y = .v (.int k' q)) :
    OpOk C U a w o (.v (.int k (if mx then (if q>p then q else p) else (if q<p then q else p)))) s := by
  have h1 := hs.ev x
  have h2 := hs.ev y
  rw [hx] at h1;rw [hy] at h2
  have hA : c.args = #[x, y] := by apply De;simpa using Di
  refine .same hs ?_ (WV.v _)
  cases mx <;> simp [execOp, ho, resolve, hc, hA, invoke, builtin, Eb h1, Eb h2, Builtin.max_, Builtin.min_, Builtin.max2, Builtin.min2]
end ops
end Go.DD
