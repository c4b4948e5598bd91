/- A part. -/
import Derived.Below
import Derived.Orders
import Derived.RecoverIn
import Derived.ControlIn
import Derived.OwnWalkIn
import Derived.Laws.Rows
import Derived.Laws.Append
import GoSem.Core.Program
import Derived.Laws.BytesArg
import Derived.Laws.StructEq
import Derived.Laws.CopyRow
import Derived.Laws.Slices
import Derived.Laws.IdiomStrings
namespace Go.DD
abbrev Aa:=@List.getElem?_eq_getElem
abbrev Ab:=@Nat.le_of_ble_eq_true
abbrev Ad:=@decide_eq_false
abbrev Ae:=@if_neg
abbrev Af:=@Nat.le_refl
abbrev Ag:=@Option.map_eq_some_iff
abbrev Ah:=@if_pos
abbrev Ai:=@decide_eq_true
abbrev Ak:=@List.mem_cons
abbrev Ao:=@List.map_cons
abbrev Aq:=@List.map_nil
abbrev Ar:=@List.getElem?_eq_some_iff
abbrev As:=@List.drop_eq_getElem_cons
abbrev Av:=@List.drop_eq_nil_of_le
abbrev Aw:=@List.mem_of_getElem?
abbrev Ax:=@List.not_mem_nil
abbrev Ay:=@List.all_eq_true
abbrev Bd:=@List.getElem_mem
abbrev Bg:=@Option.bind_eq_some_iff
abbrev Bh:=@List.nil_append
abbrev Bj:=@iff_true_intro
abbrev Bk:=@List.mem_singleton
abbrev Bm:=@List.take_of_length_le
abbrev Bn:=@List.mem_cons_of_mem
abbrev Bo:=@List.mem_append
abbrev Bp:=@List.length_append
abbrev Bq:=@Bool.and_eq_true
abbrev Br:=@Nat.lt_of_lt_of_le
abbrev Bu:=@List.append_nil
abbrev Bx:=@List.mem_iff_getElem
abbrev Ca:=@List.length_take
abbrev Cb:=@Option.map_some
abbrev Cc:=@List.length_singleton
abbrev Ce:=@List.append_assoc
abbrev Cj:=@Nat.lt_or_ge
abbrev Ck:=@Array.getElem?_eq_some_iff
abbrev Cm:=@List.getElem?_append_left
abbrev Cv:=@List.length_drop
abbrev Cx:=@List.getElem?_take
abbrev Cz:=@Array.getElem?_toList
abbrev Da:=@beq_eq_false_iff_ne
abbrev Dd:=@List.length_map
abbrev De:=@List.mem_of_mem_drop
abbrev Df:=@List.getElem?_map
abbrev Dj:=@List.pairwise_cons
abbrev Dm:=@List.mem_append_right
abbrev Dp:=@Iff.rfl
abbrev Dw:=@List.mem_append_left
abbrev Dx:=@List.pairwise_iff_getElem
abbrev Dy:=@Classical.byContradiction
abbrev Eb:=@Option.isSome_iff_exists
abbrev Ee:=@Option.bind_eq_bind
abbrev Ef:=@Array.length_toList
abbrev Eg:=@Option.some.injEq
abbrev Eh:=@List.take_succ_eq_append_getElem
abbrev Ei:=@List.mem_map
abbrev Ep:=@Nat.mul_le_mul_right
abbrev Er:=@Nat.zero_add
abbrev Es:=@Nat.le_trans
abbrev Eu:=@List.map_congr_left
abbrev Ew:=@List.getElem_take
abbrev Ex:=@List.eq_nil_of_length_eq_zero
abbrev Ey:=@Nat.eq_of_beq_eq_true
abbrev Ez:=@List.mapM_cons
abbrev Fc:=@Option.pure_def
abbrev Fi:=@List.length_cons
abbrev Fk:=@Array.getD_eq_getD_getElem?
abbrev Fw:=@of_decide_eq_true
abbrev Fx:=@List.drop_zero
abbrev Fy:=@Int.toNat_natCast
abbrev Gf:=@Nat.zero_le
abbrev Gg:=@Nat.add_mul
abbrev Gh:=@List.mem_filter
abbrev Gk:=@List.take_append_drop
abbrev Gl:=@beq_iff_eq
abbrev Gm:=@Option.getD_some
abbrev Gn:=@List.mem_flatMap
abbrev Gp:=@List.mem_filterMap
abbrev Gq:=@Array.ext'
abbrev Gz:=@Bool.false_or
abbrev Hc:=@List.getElem?_append
abbrev Hj:=@Ne.symm
abbrev Hp:=@List.findIdx?_eq_some_iff_findIdx_eq
abbrev Hz:=@List.mem_cons_self
abbrev Ie:=@List.getElem?_eq_none
abbrev Im:=@Option.some.inj
abbrev Ip:=@if_true
abbrev Iq:=@decide_eq_true_eq
abbrev Ir:=@Bool.eq_false_iff
abbrev Iv:=@Nat.lt_irrefl
abbrev Ix:=@Array.getElem?_setIfInBounds_ne
abbrev Ja:=@List.replicate_succ
abbrev Jb:=@List.getElem_of_mem
abbrev Je:=@Option.bind_some
abbrev Jf:=@Array.toList_inj
abbrev Jo:=@List.getElem_cons_zero
abbrev Jw:=@Bool.or_eq_true
abbrev Kb:=@Bool.true_and
abbrev Kg:=@List.flatMap_cons
abbrev Kh:=@List.drop_sublist
abbrev Km:=@Nat.blt_eq
abbrev Kn:=@List.mem_of_mem_take
abbrev Ko:=@List.getElem?_append_right
abbrev Kp:=@Array.toList_setIfInBounds
abbrev Kx:=@getElem!_pos
abbrev Ky:=@List.cons_append
abbrev Lj:=@Array.getElem?_eq_getElem
abbrev Ly:=@List.mapM_nil
abbrev Lz:=@List.getElem?_take_of_lt
abbrev Md:=@List.length_nil
abbrev Mi:=@Bool.false_eq_true
abbrev Mr:=@Nat.one_mul
abbrev Nc:=@List.getElem_drop
abbrev Nd:=@List.drop_drop
abbrev Ol:=@beq_self_eq_true
abbrev Om:=@List.mem_nil_iff
abbrev On:=@List.any_eq_true
abbrev Oo:=@Array.eq_empty_of_size_eq_zero
abbrev Ph:=@if_false
abbrev Pj:=@List.pairwise_append
abbrev Pk:=@Bool.or_eq_false_iff
abbrev Rh:=@congrArg
abbrev Ri:=@Nat.ble_eq
abbrev Rj:=@Nat.add_sub_cancel
abbrev Rk:=@List.mem_eraseDups
abbrev Rl:=@List.find?_eq_none
abbrev Se:=@List.mem_or_eq_of_mem_set
abbrev Th:=@not_false_eq_true
abbrev Ti:=@Int.le_refl
abbrev Uz:=@eq_false
abbrev Va:=@Nat.lt_of_not_le
abbrev Vb:=@Nat.add_sub_cancel_left
abbrev Vd:=@List.filter_cons_of_pos
abbrev Ve:=@List.filter_cons_of_neg
abbrev Vf:=@List.ext_getElem
abbrev Vg:=@Int.eq_ofNat_of_zero_le
abbrev Wi:=@List.drop_of_length_le
abbrev Wj:=@Array.toList_replicate
abbrev Wl:=@Array.getElem?_eq_none
abbrev Xo:=@Nat.not_lt_zero
abbrev Xp:=@Nat.div_le_self
abbrev Xq:=@List.length_set
abbrev Xr:=@Int.natCast_pos
abbrev Xw:=@Array.getElem?_append
abbrev Zv:=@Nat.mul_one
abbrev Zw:=@Array.mem_toList_iff
def XO(_:Program)(_:FuncId):Bool:=false
theorem B32{P:Program}{g:FuncId}(h:XO P g=true)(Pr:Array Value)(w:World) :
  (invoke (.fn (.func g) Pr) #[]).run P w=.ok (.enter g Pr) w/\CallsDIn Fence.wide 0 P g Pr .returning w λe u' w'=>u'=.returning/\(∃ v,e=.returned v)/\w'=w:=by cases h
end Go.DD

/- The operations and the code of the deep layer, compiled from the model's. -/
namespace Go.DD
open Go.RowKit (Below)
inductive KD where
 | p (d:TypeDesc)
 | f (ks:List Nat)
 deriving Inhabited
inductive DOp where
 | mv (x:Operand)
 | pick (c a b:Operand)
 | al (T:TypeId) (z:List Value)
 | bx (T:TypeId) (x:Operand)
 | bld (z:List Value) (ps:List (Nat×Nat×Operand))
 | bsl (T:TypeId) (n es:Nat) (z:List Value) (ps:List (Nat×Nat×Operand))
 | ld (k:Option Nat) (x:Operand)
 | st (n:Nat) (a x:Operand)
 | nck (x:Operand)
 | bin (op:BinOp) (x y:Operand)
 | bb (neg:Bool) (x y:Operand)
 | eqs (neg:Bool) (ks:List Nat) (x y:Operand)
 | nilq (k:Nat) (neg:Bool) (x y:Operand)
 | un (op:UnOp) (x:Operand)
 | cvi (k:IntKind) (x:Operand)
 | fa (off:Nat) (x:Operand)
 | fld (off:Nat) (k:Option Nat) (x:Operand)
 | ia (es:Nat) (x i:Operand)
 | ixs (x i:Operand)
 | sli (es:Nat) (x:Operand) (lo hi:Option Operand)
 | sls (x:Operand) (lo hi:Option Operand)
 | len (x:Operand)
 | lns (x:Operand)
 | app (T:TypeId) (es bytes:Nat) (s x:Operand)
 | mks (T:TypeId) (es bytes:Nat) (z:List Value) (l c:Operand)
 | mkf (f:Fn) (fst cap:List Operand)
 | ext (x:Operand) (i:Nat)
 | mm (mx:Bool) (x y:Operand)
 | mkm
 | lkp (kd:KD) (z:Value) (x k:Operand) (ok:Bool)
 | mup (kd:KD) (x k y:Operand)
 | men (kd:KD) (z:Value) (x k:Operand)
 | mes (x st y:Operand)
 | rgm (x:Operand)
 | nxm (k:Bool) (x:Operand)
 | rgs (x:Operand)
 | nxs (x:Operand)
 | mki (T:TypeId) (x:Operand)
 | tas (T:TypeId) (z:Value) (x:Operand) (ok:Bool)
 | sla (T:TypeId) (n es:Nat) (x:Operand)
 | cpy (es:Nat) (x y:Operand)
 | lnm (x:Operand)
 | fx (n es:Nat) (x i:Operand)
 | s2b (x:Operand)
 | b2s (x:Operand)
 | frz (x:Operand)
 | call (f:FuncId) (args:List Operand)
 | cv (tb:Option (List (TypeId×FuncId))) (f:Operand) (args:List Operand)
 | bad
 deriving Inhabited
def Oz(P:Program)(t:TypeId):Option (Option Nat):=
 match P.underlying t,P.info? t with
 | some (.struct _),some i=>some (some i.size)
 | some (.array _ _),some i=>some (some i.size)
 | some _,some i=>if i.size=1 then some none else none
 | _,_=>none
def Oy(P:Program)(t:TypeId):Option (List Value):=
 ((P.info? t).bind (·.zero)).bind λz=>if z.cells.toList.all (·.oneCell') then some z.cells.toList else none
def tI(P:Program)(t:TypeId):Option Nat:=
 match P.underlying t with
 | some (.int _)=>some 0
 | some .bool=>some 1
 | some .string=>some 2
 | _=>none
def sI(P:Program)(off:Nat):List Field->Option (List Nat)
 | []=>some []
 | f::fs=>if f.name != "_" && f.offset==off then (tI P f.type).bind λk=>(sI P (off+1) fs).map λks=>k::ks else none
def Sp(P:Program)(t:TypeId):Bool:=match P.underlying t with
 | some (.array _ _)=>true
 | _=>false
def Yx(P:Program)(kt:TypeId):Option KD:=match P.underlying kt with
 | some (.struct fs)=>if P.stoodInHeld kt=false then (sI P 0 fs.toList).map .f else none
 | some (.array n e)=>match Oz P e with
  | some none=>(tI P e).map λk=>.f (List.replicate n k)
  | _=>none
 | some d=>some (.p d)
 | none=>none
def jO(P:Program)(t:TypeId):Option KD:=
 match P.underlying t with
 | some (.map kt _)=>Yx P kt
 | _=>none
def uK(P:Program)(name:String)(T:TypeId):Option FuncId:=match P.underlying T with
 | some (.pointer _)=>match P.info? T with
  | some i=>match i.methods.find? (·.name==name) with
   | some m=>if m.path.isEmpty then match m.func with
     | some (f,true)=>some f
     | _=>none
    else none
   | none=>none
  | none=>none
 | _=>none
def uJ(P:Program)(name:String):List (TypeId×FuncId):=(List.range P.types.size).filterMap λT=>(uK P name T).map λf=>(T,f)
def Pd:Operand->Bool
 | .const _=>true
 | _=>false
def lE(P:Program):Op->Option DOp
 | .move x=>some (.mv x)
 | .assign x=>some (.mv x)
 | .pick c a b=>some (.pick c a b)
 | .alloc T=>(Oy P T).map λz=>.al T z
 | .box T x=>some (.bx T x)
 | .build t ps=>match P.underlying t,Oy P t with
  | some (.struct fs),some z=>if fs.toList.all (λf=>P.cellsOf f.type != 0)=false then none else (ps.toList.mapM λp=>(fs[p.1]?).map λf=>(f.offset,P.cellsOf f.type,p.2)).map λl=>.bld z l
  | _,_=>none
 | .buildSlice t n ps=>match P.underlying t with
  | some (.slice e)=>(Oy P e).bind λz=>if Sp P e=false/\n*P.cellsOf e<=65536/\0<P.cellsOf e then some (.bsl e n (P.cellsOf e) z (ps.toList.map λp=>(p.1*P.cellsOf e,P.cellsOf e,p.2))) else none
  | _=>none
 | .load t x=>(Oz P t).map λk=>.ld k x
 | .store t a x=>(Oz P t).map λk=>.st (k.getD 1) a x
 | .nilCheck x=>some (.nck x)
 | .binOp op t x y _=>
  match P.underlying t with
  | some (.int _)=>some (.bin op x y)
  | some .string=>some (.bin op x y)
  | some .bool=>match op with
   | .eql=>some (.bb false x y)
   | .neq=>some (.bb true x y)
   | _=>none
  | some (.struct fs)=>if P.eqGuardType P.depth t=false/\P.stoodInHeld t=false then match op with
   | .eql=>(sI P 0 fs.toList).map λks=>.eqs false ks x y
   | .neq=>(sI P 0 fs.toList).map λks=>.eqs true ks x y
   | _=>none
   else none
  | some (.slice _)=>match op with
   | .eql=>some (.nilq 0 false x y)
   | .neq=>some (.nilq 0 true x y)
   | _=>none
  | some (.pointer _)=>match op with
   | .eql=>some (.nilq 1 false x y)
   | .neq=>some (.nilq 1 true x y)
   | _=>none
  | some (.map _ _)=>match op with
   | .eql=>some (.nilq 2 false x y)
   | .neq=>some (.nilq 2 true x y)
   | _=>none
  | some (.func _ _ _)=>match op with
   | .eql=>some (.nilq 3 false x y)
   | .neq=>some (.nilq 3 true x y)
   | _=>none
  | some (.interface _)=>if Pd x||Pd y then match op with
   | .eql=>some (.nilq 4 false x y)
   | .neq=>some (.nilq 4 true x y)
   | _=>none
   else none
  | _=>none
 | .unOp op _ x=>some (.un op x)
 | .convert src dst x=>match P.underlying src,P.underlying dst with
  | some (.int _),some (.int k)=>some (.cvi k x)
  | some .string,some (.slice e)=>match P.underlying e with
   | some (.int .u8)=>some (.s2b x)
   | _=>none
  | _,_=>none
 | .makeFunc f first cap=>some (.mkf f first.toList cap.toList)
 | .makeSlice t l c=>match P.underlying t with
  | some (.slice e)=>if Sp P e=false then (Oy P e).map λz=>.mks e (P.cellsOf e) (P.bytesOf e) z l c else none
  | _=>none
 | .slice t x lo hi mx=>match mx,P.underlying t with
  | none,some (.slice e)=>if (P.info? e).isSome then some (.sli (P.cellsOf e) x lo hi) else none
  | _,_=>none
 | .fieldAddr t x f=>match P.underlying t with
  | some (.struct fs)=>(fs[f]?).bind λf=>if P.cellsOf f.type=0 then none else some (.fa f.offset x)
  | _=>none
 | .field _ _ _=>none
 | .indexAddr t x i=>match P.underlying t with
  | some (.slice e)=>if P.cellsOf e=0 then none else some (.ia (P.cellsOf e) x i)
  | some (.array n e)=>if P.cellsOf e=0 then none else some (.fx n (P.cellsOf e) x i)
  | _=>none
 | .index t x i=>match P.underlying t with
  | some .string=>some (.ixs x i)
  | _=>none
 | .extract x i=>some (.ext x i)
 | .call c=>match c.callee with
  | .value (.func f)=>some (.call f c.args.toList)
  | .value f=>some (.cv none f c.args.toList)
  | .builtin .len=>match c.args.toList,c.argTypes[0]? with
   | [x],some t=>match P.underlying t with
    | some (.slice _)=>some (.len x)
    | some .string=>some (.lns x)
    | some (.map _ _)=>some (.lnm x)
    | _=>none
   | _,_=>none
  | .builtin .append=>match c.args.toList,c.argTypes.toList with
   | [s,x],[t,t']=>if t=t' then match P.underlying t with
    | some (.slice e)=>(Oy P e).bind λz=>if Sp P e=false/\z.length=P.cellsOf e then some (.app e (P.cellsOf e) (P.bytesOf e) s x) else none
    | _=>none
    else none
   | _,_=>none
  | .builtin .min=>match c.args.toList with
   | [x,y]=>some (.mm false x y)
   | _=>none
  | .builtin .max=>match c.args.toList with
   | [x,y]=>some (.mm true x y)
   | _=>none
  | _=>none
 | .makeMap _ r=>match r with
  | none=>some .mkm
  | some _=>none
 | .lookup t x k ok=>match P.underlying t with
  | some (.map kt et)=>match Yx P kt,(P.info? et).bind (·.zero) with
   | some kd,some z=>some (.lkp kd z x k ok)
   | _,_=>none
  | _=>none
 | .mapEntry _ _ _=>none
 | .entryStore _ _ _ _=>none
 | .range t x=>match P.underlying t with
  | some .string=>some (.rgs x)
  | _=>none
 | .next x isS=>if isS=false then none else some (.nxs x)
 | .entry _=>none
 | .makeInterface _ _=>none
 | .typeAssert _ _ _ _=>none
 | .mapUpdate t x k y=>(jO P t).map λkd=>.mup kd x k y
 | .insert t x k y=>(jO P t).map λkd=>.mup kd x k y
 | _=>none
structure DR where
 dst:Option Nat
 g:Option (Nat×Bool)
 op:DOp
 pre:List Nat
 deriving Inhabited
def DOp.opnds:DOp->List Operand
 | .mv x=>[x]
 | .pick c a b=>[c,a,b]
 | .al _ _=>[]
 | .bx _ x=>[x]
 | .bld _ ps=>ps.map (·.2.2)
 | .bsl _ _ _ _ ps=>ps.map (·.2.2)
 | .ld _ x=>[x]
 | .st _ a x=>[a,x]
 | .nck x=>[x]
 | .bin _ x y=>[x,y]
 | .bb _ x y=>[x,y]
 | .eqs _ _ x y=>[x,y]
 | .nilq _ _ x y=>[x,y]
 | .un _ x=>[x]
 | .cvi _ x=>[x]
 | .fa _ x=>[x]
 | .fld _ _ x=>[x]
 | .ia _ x i=>[x,i]
 | .ixs x i=>[x,i]
 | .sli _ x lo hi=>x::(lo.toList++hi.toList)
 | .sls x lo hi=>x::(lo.toList++hi.toList)
 | .len x=>[x]
 | .lns x=>[x]
 | .app _ _ _ d x=>[d,x]
 | .mks _ _ _ _ l c=>[l,c]
 | .mkf _ fst cap=>fst++cap
 | .ext x _=>[x]
 | .mm _ x y=>[x,y]
 | .mkm=>[]
 | .lkp _ _ x k _=>[x,k]
 | .mup _ x k y=>[x,k,y]
 | .men _ _ x k=>[x,k]
 | .mes x q y=>[x,q,y]
 | .rgm x=>[x]
 | .nxm _ x=>[x]
 | .rgs x=>[x]
 | .nxs x=>[x]
 | .mki _ x=>[x]
 | .tas _ _ x _=>[x]
 | .sla _ _ _ x=>[x]
 | .cpy _ x y=>[x,y]
 | .lnm x=>[x]
 | .fx _ _ x i=>[x,i]
 | .s2b x=>[x]
 | .b2s x=>[x]
 | .frz x=>[x]
 | .call _ args=>args
 | .cv _ f args=>f::args
 | .bad=>[]
def DR.tmps(r:DR):List Nat:=r.op.opnds.filterMap (λ| .tmp t=>some t | _=>none)++(match r.g with | some (t,_)=>[t] | none=>[])
def Ku:List DR->List (List Nat)->List (List Nat)
 | [],acc=>acc
 | r::rs,acc=>Ku rs (acc ++ [(r.pre++r.pre.flatMap λj=>(acc[j]?).getD []).eraseDups])
structure OI where
 an:List Nat
 cls:Nat
 tgt:Nat
 wide:Bool
 deriving Inhabited
structure RI where
 l:List OI
 ok:Bool
 deriving Inhabited
def DOp.kind:DOp->Nat
 | .al _ _=>1
 | .bx _ _=>1
 | .bsl _ _ _ _ _=>1
 | .mks _ _ _ _ _ _=>1
 | .mkm=>1
 | .st _ _ _=>2
 | .app _ _ _ _ _=>2
 | .mup _ _ _ _=>2
 | .call _ _=>2
 | .cv _ _ _=>2
 | .men _ _ _ _=>2
 | .mes _ _ _=>2
 | .rgm _=>1
 | .nxm _ _=>2
 | .rgs _=>1
 | .nxs _=>2
 | .cpy _ _ _=>2
 | .frz _=>2
 | .bad=>2
 | _=>0
def DOp.rdC:DOp->Bool
 | .ld _ _=>true
 | .st _ _ _=>true
 | .app _ _ _ _ _=>true
 | .lkp _ _ _ _ _=>true
 | .mup _ _ _ _=>true
 | .men _ _ _ _=>true
 | .mes _ _ _=>true
 | .rgm _=>true
 | .nxm _ _=>true
 | .nxs _=>true
 | .lnm _=>true
 | .sla _ _ _ _=>true
 | .cpy _ _ _=>true
 | .b2s _=>true
 | .frz _=>true
 | .call _ _=>true
 | .cv _ _ _=>true
 | .bad=>true
 | _=>false
def Sy(rs:List DR)(t:Nat):Option Nat:=rs.findIdx? (λr=>r.dst==some t)
def XN(rs:List DR):DOp->Option Nat
 | .mup _ (.tmp t) _ _=>match Sy rs t with
  | some j=>match rs[j]? with
   | some r=>match r.op with
    | .mkm=>some j
    | _=>none
   | none=>none
  | none=>none
 | _=>none
def mW(rs:List DR):RI:=
 let an:=Ku rs []
 let ix:=List.range rs.length
 let A (i j:Nat):Bool:=((an[i]?).getD []).contains j
 let kd (i:Nat):Nat:=((rs[i]?).map λr=>if (XN rs r.op).isSome then 3 else r.op.kind).getD 0
 let ks:=ix.map kd
 let K (i:Nat):Nat:=(ks[i]?).getD 0
 let oW:=ix.filter λi=>K i==2
 let l:=rs.zipIdx.map λ(r,i)=>{ an:=(an[i]?).getD [],cls:=K i,tgt:=(XN rs r.op).getD 0,wide:=oW.any λq=>!A q i && !A i q:OI }
 let ok:=
  (rs.zipIdx.all λ(r,i)=>(r.pre.all λj=>decide (j<i)) &&
   (match r.dst with | some t=>Sy rs t==some i | none=>true) &&
   r.tmps.all λt=>match Sy rs t with | some p=>A i p||A p i||p==i | none=>true) &&
  (oW.all λb=>oW.all λa=>!(decide (a<b))||A b a) &&
  (l.zipIdx.all λ(o,w)=>o.cls != 3||(A w o.tgt&&ix.all λi=>!A i o.tgt||A i w||A w i||w==i))
 { l:=l,ok:=ok }
inductive DC where
 | skip
 | ret
 | exit (id:Nat)
 | seq (a b:DC)
 | cond (x:Operand) (a b:DC)
 | blk (id:Nat) (c:DC)
 | loop (c:DC)
 | reg (draw:Bool) (ops:List DR) (info:RI)
 | rng (g:Operand) (ps:List Nat) (assign body:DC)
 | dfq (t:Nat) (g:FuncId) (cap:List Operand)
 | bad
 deriving Inhabited
def eM(P:Program)(f:FuncId):Bool:=
 match P.funcs[f]? with
 | some fn=>fn.body.isSome&&fn.name != "runtime.NumGoroutine"
 | none=>false
def F8(nt:Nat):Option Nat->Bool
 | some t=>decide (t<nt)
 | none=>true
def Oc(P:Program)(nt:Nat)(draw:Bool)(ops:Array Oper)(o:Oper):Option DR:=
 if F8 nt o.dst then
  match (match o.guard with | none=>some none | some (j,b)=>((ops[j]?).bind (·.dst)).map λt=>some (t,b):Option (Option (Nat×Bool))) with
  | some g=>some { dst:=o.dst,g:=g,op:=(lE P o.op).getD .bad,pre:=if draw then (o.after.toList.filterMap λe=>if Region.binds .any e then some e.on else none).eraseDups else [] }
  | none=>none
 else none
def kJ(P:Program)(nt:Nat)(ops:Array Oper):Option (Nat×FuncId×List Operand):=match ops.toList with
 | [o,p]=>match o.op,o.dst,o.guard,p.op,p.dst,p.guard with
  | .makeFunc (.func g) first cap,some t,none,.defer c,none,none=>match c.callee with
   | .value (.tmp t')=>if t=t'/\first.size=0/\c.args.size=0/\t<nt/\XO P g=true then some (t,g,cap.toList) else none
   | _=>none
  | _,_,_,_,_,_=>none
 | _=>none
theorem Bm7{P:Program}{nt:Nat}{ops:Array Oper}{t:Nat}{g:FuncId}{cap:List Operand}(h:kJ P nt ops=some (t,g,cap)) :
  ∃ o p first c cs,ops = #[o,p]/\o.op=.makeFunc (.func g) first cs/\cap=cs.toList/\o.dst=some t/\o.guard=none/\p.op=.defer c/\p.dst=none/\p.guard=none/\c.callee=.value (.tmp t)/\first.size=0/\c.args.size=0/\t<nt/\XO P g=true:=by
 unfold kJ at h
 split at h
 rotate_left
 .cases h
 rename_i o p ho
 have e:ops = #[o,p]:=by apply Gq;simpa using ho
 split at h
 rotate_left
 .cases h
 rename_i g' first cs t' c h1 h2 h3 h4 h5 h6
 split at h
 rotate_left
 .cases h
 rename_i t'' h7
 split at h
 .rename_i h8
  cases h
  obtain ⟨rfl,h8⟩:=h8
  exact ⟨o,p,first,c,cs,e,h1,rfl,h2,h3,h4,h5,h6,h7,h8⟩
 .cases h
def Et(P:Program)(nt:Nat):Code->Option DC
 | .skip=>some .skip
 | .ret=>some .ret
 | .exit id=>some (.exit id)
 | .seq a b=>match Et P nt a,Et P nt b with
  | some x,some y=>some (.seq x y)
  | _,_=>none
 | .cond x a b=>match Et P nt a,Et P nt b with
  | some y,some z=>some (.cond x y z)
  | _,_=>none
 | .block id c=>(Et P nt c).map (.blk id)
 | .loop c=>(Et P nt c).map .loop
 | .region _ ops draw=>match draw,kJ P nt ops with
  | false,some (t,g,cap)=>some (.dfq t g cap)
  | _,_=>(ops.toList.mapM (Oc P nt draw ops)).map λl=>.reg draw l (if draw then mW l else ⟨[],true⟩)
 | .rangeFunc g ps a b=>match Et P nt a,Et P nt b with
  | some x,some y=>if ps.toList.all (· < nt) then some (.rng g ps.toList x y) else none
  | _,_=>none
 | _=>some .bad
theorem Aw4{P:Program}{nt:Nat}{code:Code}{dr:Bool}{ops:List DR}{info:RI}(h:Et P nt code=some (.reg dr ops info)):∃ id os,code=.region id os dr/\os.toList.mapM (Oc P nt dr os)=some ops/\(dr=true->info=mW ops):=by
 cases code <;> simp only [Et] at h
 case region id os d=>
  split at h
  .cases h
  .obtain ⟨l,hl,h'⟩:=Ag.1 h
   cases h'
   exact ⟨id,os,rfl,hl,λhd=>by simp [hd]⟩
 all_goals (first | (cases h;done) | (split at h <;> cases h;done) | (split at h <;> (first | (cases h;done) | (obtain ⟨_,_,h'⟩:=Ag.1 h;cases h';done));done) | (obtain ⟨_,_,h'⟩:=Ag.1 h;cases h';done) | (split at h <;> (first | (cases h;done) | (split at h <;> cases h;done))))
theorem Bp3{P:Program}{nt:Nat}{code:Code}{t:Nat}{g:FuncId}{cap:List Operand}(h:Et P nt code=some (.dfq t g cap)):∃ id os,code=.region id os false/\kJ P nt os=some (t,g,cap):=by
 cases code <;> simp only [Et] at h
 case region id os d=>
  split at h
  .rename_i hq
   cases h
   exact ⟨id,os,rfl,hq⟩
  .obtain ⟨l,hl,h'⟩:=Ag.1 h
   cases h'
 all_goals (first | (cases h;done) | (split at h <;> cases h;done) | (split at h <;> (first | (cases h;done) | (obtain ⟨_,_,h'⟩:=Ag.1 h;cases h';done));done) | (obtain ⟨_,_,h'⟩:=Ag.1 h;cases h';done) | (split at h <;> (first | (cases h;done) | (split at h <;> cases h;done))))
theorem Bm8{P:Program}{nt:Nat}{code:Code}(h:Et P nt code=some .skip):code=.skip:=by
 cases code <;> simp only [Et] at h
 case skip=>rfl
 all_goals (first | (cases h;done) | (split at h <;> cases h;done) | (split at h <;> (first | (cases h;done) | (obtain ⟨_,_,h'⟩:=Ag.1 h;cases h';done));done) | (obtain ⟨_,_,h'⟩:=Ag.1 h;cases h';done) | (split at h <;> (first | (cases h;done) | (split at h <;> cases h;done))))
theorem Bp4{P:Program}{nt:Nat}{code:Code}(h:Et P nt code=some .ret):code=.ret:=by
 cases code <;> simp only [Et] at h
 case ret=>rfl
 all_goals (first | (cases h;done) | (split at h <;> cases h;done) | (split at h <;> (first | (cases h;done) | (obtain ⟨_,_,h'⟩:=Ag.1 h;cases h';done));done) | (obtain ⟨_,_,h'⟩:=Ag.1 h;cases h';done) | (split at h <;> (first | (cases h;done) | (split at h <;> cases h;done))))
theorem Bm9{P:Program}{nt:Nat}{code:Code}{id:Nat}(h:Et P nt code=some (.exit id)):code=.exit id:=by
 cases code <;> simp only [Et] at h
 case exit pF=>cases h;rfl
 all_goals (first | (cases h;done) | (split at h <;> cases h;done) | (split at h <;> (first | (cases h;done) | (obtain ⟨_,_,h'⟩:=Ag.1 h;cases h';done));done) | (obtain ⟨_,_,h'⟩:=Ag.1 h;cases h';done) | (split at h <;> (first | (cases h;done) | (split at h <;> cases h;done))))
theorem Bp5{P:Program}{nt:Nat}{code:Code}{x y:DC}(h:Et P nt code=some (.seq x y)):∃ a b,code=.seq a b/\Et P nt a=some x/\Et P nt b=some y:=by
 cases code <;> simp only [Et] at h
 case seq a b=>
  split at h
  .rename_i h1 h2;cases h;exact ⟨a,b,rfl,h1,h2⟩
  .cases h
 all_goals (first | (cases h;done) | (split at h <;> cases h;done) | (split at h <;> (first | (cases h;done) | (obtain ⟨_,_,h'⟩:=Ag.1 h;cases h';done));done) | (obtain ⟨_,_,h'⟩:=Ag.1 h;cases h';done) | (split at h <;> (first | (cases h;done) | (split at h <;> cases h;done))))
theorem Bn0{P:Program}{nt:Nat}{code:Code}{c:Operand}{x y:DC}(h:Et P nt code=some (.cond c x y)):∃ a b,code=.cond c a b/\Et P nt a=some x/\Et P nt b=some y:=by
 cases code <;> simp only [Et] at h
 case cond c' a b=>
  split at h
  .rename_i h1 h2;cases h;exact ⟨a,b,rfl,h1,h2⟩
  .cases h
 all_goals (first | (cases h;done) | (split at h <;> cases h;done) | (split at h <;> (first | (cases h;done) | (obtain ⟨_,_,h'⟩:=Ag.1 h;cases h';done));done) | (obtain ⟨_,_,h'⟩:=Ag.1 h;cases h';done) | (split at h <;> (first | (cases h;done) | (split at h <;> cases h;done))))
theorem Bp6{P:Program}{nt:Nat}{code:Code}{id:Nat}{x:DC}(h:Et P nt code=some (.blk id x)):∃ a,code=.block id a/\Et P nt a=some x:=by
 cases code <;> simp only [Et] at h
 case block pF a=>
  obtain ⟨c',Jd,h'⟩:=Ag.1 h
  cases h'
  exact ⟨a,rfl,Jd⟩
 all_goals (first | (cases h;done) | (split at h <;> cases h;done) | (split at h <;> (first | (cases h;done) | (obtain ⟨_,_,h'⟩:=Ag.1 h;cases h';done));done) | (obtain ⟨_,_,h'⟩:=Ag.1 h;cases h';done) | (split at h <;> (first | (cases h;done) | (split at h <;> cases h;done))))
theorem Bn1{P:Program}{nt:Nat}{code:Code}{x:DC}(h:Et P nt code=some (.loop x)):∃ a,code=.loop a/\Et P nt a=some x:=by
 cases code <;> simp only [Et] at h
 case loop a=>
  obtain ⟨c',Jd,h'⟩:=Ag.1 h
  cases h'
  exact ⟨a,rfl,Jd⟩
 all_goals (first | (cases h;done) | (split at h <;> cases h;done) | (split at h <;> (first | (cases h;done) | (obtain ⟨_,_,h'⟩:=Ag.1 h;cases h';done));done) | (obtain ⟨_,_,h'⟩:=Ag.1 h;cases h';done) | (split at h <;> (first | (cases h;done) | (split at h <;> cases h;done))))
theorem Bp7{P:Program}{nt:Nat}{code:Code}{g:Operand}{ps:List Nat}{x y:DC}(h:Et P nt code=some (.rng g ps x y)) :
  ∃ qs a b,code=.rangeFunc g qs a b/\qs.toList=ps/\(∀ t∈ps,t<nt)/\Et P nt a=some x/\Et P nt b=some y:=by
 cases code <;> simp only [Et] at h
 case rangeFunc g' qs a b=>
  split at h
  .rename_i h1 h2
   split at h
   .rename_i h3
    cases h
    exact ⟨qs,a,b,rfl,rfl,λt ht=>by simpa using Ay.1 h3 t ht,h1,h2⟩
   .cases h
  .cases h
 all_goals (first | (cases h;done) | (split at h <;> cases h;done) | (split at h <;> (first | (cases h;done) | (obtain ⟨_,_,h'⟩:=Ag.1 h;cases h';done));done) | (obtain ⟨_,_,h'⟩:=Ag.1 h;cases h';done) | (split at h <;> (first | (cases h;done) | (split at h <;> cases h;done))))
end Go.DD

/- The package-level variables that are read as what they hold, by number. -/
namespace Go.DD
def glv:Nat->Option (List Value):=λ_=>none
end Go.DD

/- Deep values: immutable memory read as content, the call's own objects by number; what is stored may name objects that are gone. -/
namespace Go.DD
open Go.RowKit (Below)
inductive DV where
 | any
 | v (x:Value)
 | agg (cs:List DV)
 | tup (cs:List DV)
 | sl (cs:List DV) (n:Nat)
 | ia (cs:List DV)
 | fn (f:Fn) (cs:List DV)
 | ifc (T:TypeId) (d:DV)
 | ms (id off n es:Nat)
 | pt (id off:Nat)
 | mp (id:Nat)
 | yl (id:Nat)
 deriving Inhabited
mutual
def DV.refs:DV->List Nat
 | .agg cs=>DV.refsL cs
 | .tup cs=>DV.refsL cs
 | .fn _ cs=>DV.refsL cs
 | .ifc _ d=>DV.refs d
 | .ms id _ _ _=>[id]
 | .pt id _=>[id]
 | .mp id=>[id]
 | .yl id=>[id]
 | _=>[]
def DV.refsL:List DV->List Nat
 | []=>[]
 | c::cs=>DV.refs c++DV.refsL cs
end
def DV.asFnB:DV->Option (FuncId×List DV×List DV)
 | .fn (.func f) (.tup fs::cs)=>some (f,fs,cs)
 | _=>none
theorem A08{d:DV}{p:FuncId×List DV×List DV}(h:d.asFnB=some p):d=.fn (.func p.1) (.tup p.2.1::p.2.2):=by
 unfold DV.asFnB at h
 split at h
 .cases h;rfl
 .cases h
def DV.asFn:DV->Option (FuncId×List DV)
 | .fn (.func f) (.tup []::cs)=>some (f,cs)
 | _=>none
theorem Bp8{d:DV}{p:FuncId×List DV}(h:d.asFn=some p):d=.fn (.func p.1) (.tup []::p.2):=by
 unfold DV.asFn at h
 split at h
 .cases h;rfl
 .cases h
def DV.asYl:DV->Option Nat
 | .yl id=>some id
 | _=>none
theorem Bp9{d:DV}{id:Nat}(h:d.asYl=some id):d=.yl id:=by
 cases d with
 | yl i=>simp [DV.asYl] at h;subst h;rfl
 | _=>simp [DV.asYl] at h
theorem DV.refsL_mem{cs:List DV}{d:DV}(h:d∈cs){id:Nat}(hi:id∈d.refs):id∈DV.refsL cs:=by
 induction cs with
 | nil=>cases h
 | cons c cs ih=>
  simp only [DV.refsL,Bo]
  rcases Ak.1 h with rfl | h
  .exact .inl hi
  .exact .inr (ih h)
theorem DV.mem_refsL{cs:List DV}{id:Nat}(h:id∈DV.refsL cs):∃ d∈cs,id∈d.refs:=by
 induction cs with
 | nil=>cases h
 | cons c cs ih=>
  simp only [DV.refsL,Bo] at h
  rcases h with h | h
  .exact ⟨c,by simp,h⟩
  .obtain ⟨d,h1,h2⟩:=ih h;exact ⟨d,by simp [h1],h2⟩
def AA:List (TypeId×FuncId)->TypeId->Option FuncId
 | [],_=>none
 | p::l,T=>if p.1=T then some p.2 else AA l T
def DV.tgt(tb:Option (List (TypeId×FuncId)))(d:DV):Option (FuncId×List DV×List DV):=match tb with
 | none=>d.asFnB
 | some l=>match d with
  | .ifc T e=>(AA l T).map λf=>(f,[e],[])
  | _=>none
def DV.tgY(tb:Option (List (TypeId×FuncId)))(d:DV):Option Nat:=match tb with
 | none=>d.asYl
 | some _=>none
theorem Bf8{tb:Option (List (TypeId×FuncId))}{d:DV}{id:Nat}(h:d.tgY tb=some id):tb=none/\d=.yl id:=by
 cases tb with
 | none=>exact ⟨rfl,Bp9 h⟩
 | some l=>cases h
def BE(g:Nat):DV:=match glv g with
 | some cs=>.ia (cs.map .v)
 | none=>.any
def RK(x:Value)(d:DV):Prop:=∃ g cs,glv g=some cs/\x=.pointer (some ⟨g,0,none⟩)/\d=.ia (cs.map .v)
inductive RelI (w:World) (al:Nat->Prop):Value->DV->Prop
 | any (x:Value):RelI w al x .any
 | v (x:Value):RelI w al x (.v x)
 | agg (vs:List Value) (cs:List DV) (hl:vs.length=cs.length) (ho:∀ u∈vs,u.oneCell'=true)
   (h:∀ (j:Nat) (u:Value) (d:DV),vs[j]?=some u->cs[j]?=some d->RelI w al u d):RelI w al (.agg vs.toArray) (.agg cs)
 | tup (vs:List Value) (cs:List DV) (hl:vs.length=cs.length)
   (h:∀ (j:Nat) (u:Value) (d:DV),vs[j]?=some u->cs[j]?=some d->RelI w al u d):RelI w al (.tuple vs.toArray) (.tup cs)
 | sl0 (a:Option Addr) (cap:Nat):RelI w al (.slice a 0 cap) (.sl [] 0)
 | sl (ad:Addr) (n cap:Nat) (us:List Value) (cs:List DV) (hl:us.length=cs.length) (hn:n<=cap) (ha:al ad.block) (ho:∀ u∈us,u.oneCell'=true)
   (hc:∀ (j:Nat) (u:Value),us[j]?=some u->w.cell? (ad.add j)=some u)
   (h:∀ (j:Nat) (u:Value) (d:DV),us[j]?=some u->cs[j]?=some d->RelI w al u d):RelI w al (.slice (some ad) n cap) (.sl cs n)
 | ia (ad:Addr) (us:List Value) (cs:List DV) (hl:us.length=cs.length) (ha:al ad.block) (ho:∀ u∈us,u.oneCell'=true)
   (hc:∀ (j:Nat) (u:Value),us[j]?=some u->w.cell? (ad.add j)=some u)
   (h:∀ (j:Nat) (u:Value) (d:DV),us[j]?=some u->cs[j]?=some d->RelI w al u d):RelI w al (.pointer (some ad)) (.ia cs)
 | fn (f:Fn) (us vs:List Value) (cs:List DV) (hl:(Value.tuple us.toArray::vs).length=cs.length)
   (h:∀ (j:Nat) (u:Value) (d:DV),(Value.tuple us.toArray::vs)[j]?=some u->cs[j]?=some d->RelI w al u d):RelI w al (.func f us.toArray vs.toArray) (.fn f cs)
 | ifc (T:TypeId) (u:Value) (d:DV) (h:RelI w al u d):RelI w al (.iface T u) (.ifc T d)
theorem block_add(a:Addr)(n:Nat):(a.add n).block=a.block:=by unfold Addr.add;split <;> rfl
theorem add_add(a:Addr)(i j:Nat):(a.add i).add j=a.add (i+j):=by
 unfold Addr.add
 by_cases hi:i=0 <;> by_cases hj:j=0 <;> simp [hi,hj,Nat.add_assoc]
theorem cells_of_cell{w:World}{a:Addr}{v:Value}(h:w.cell? a=some v):∃ c T r,w.heap[a.block]?=some (.cells c T r):=by
 unfold World.cell? at h
 split at h
 .rename_i c T r hc;exact ⟨c,T,r,hc⟩
 .cases h
theorem RelI.monoC{w w':World}{al tC:Nat->Prop}(hb:∀ b,al b->tC b/\((∃ c T r,w.heap[b]?=some (.cells c T r))->w'.heap[b]?=w.heap[b]?)){x:Value}{d:DV}(h:RelI w al x d):RelI w' tC x d:=by
 induction h with
 | any x=>exact .any x
 | v x=>exact .v x
 | agg vs cs hl ho _ ih=>exact .agg vs cs hl ho ih
 | tup vs cs hl _ ih=>exact .tup vs cs hl ih
 | sl0 a cap=>exact .sl0 a cap
 | sl ad n cap us cs hl hn ha ho hc _ ih=>
  refine .sl ad n cap us cs hl hn (hb _ ha).1 ho (λj u hu=>?_) ih
  have h1:=cells_of_cell (hc j u hu)
  rw [block_add] at h1
  exact (World.cell?_of_block (by rw [block_add];exact (hb _ ha).2 h1)).trans (hc j u hu)
 | ia ad us cs hl ha ho hc _ ih=>
  refine .ia ad us cs hl (hb _ ha).1 ho (λj u hu=>?_) ih
  have h1:=cells_of_cell (hc j u hu)
  rw [block_add] at h1
  exact (World.cell?_of_block (by rw [block_add];exact (hb _ ha).2 h1)).trans (hc j u hu)
 | fn f us vs cs hl _ ih=>exact .fn f us vs cs hl ih
 | ifc T u d _ ih=>exact .ifc T u d ih
theorem RelI.mono{w w':World}{al tC:Nat->Prop}(hb:∀ b,al b->tC b/\w'.heap[b]?=w.heap[b]?){x:Value}{d:DV}(h:RelI w al x d):RelI w' tC x d:=
 h.monoC λb Kj=>⟨(hb b Kj).1,λ_=>(hb b Kj).2⟩
inductive Rel (P:Program) (w:World) (al:Nat->Prop) (β:Nat->Option Nat):Value->DV->Prop
 | imm (x:Value) (d:DV) (h:RelI w al x d):Rel P w al β x d
 | agg (vs:List Value) (cs:List DV) (hl:vs.length=cs.length) (ho:∀ u∈vs,u.oneCell'=true)
   (h:∀ (j:Nat) (u:Value) (d:DV),vs[j]?=some u->cs[j]?=some d->Rel P w al β u d):Rel P w al β (.agg vs.toArray) (.agg cs)
 | tup (vs:List Value) (cs:List DV) (hl:vs.length=cs.length)
   (h:∀ (j:Nat) (u:Value) (d:DV),vs[j]?=some u->cs[j]?=some d->Rel P w al β u d):Rel P w al β (.tuple vs.toArray) (.tup cs)
 | fn (f:Fn) (us vs:List Value) (cs:List DV) (hl:(Value.tuple us.toArray::vs).length=cs.length)
   (h:∀ (j:Nat) (u:Value) (d:DV),(Value.tuple us.toArray::vs)[j]?=some u->cs[j]?=some d->Rel P w al β u d):Rel P w al β (.func f us.toArray vs.toArray) (.fn f cs)
 | ifc (T:TypeId) (u:Value) (d:DV) (h:Rel P w al β u d):Rel P w al β (.iface T u) (.ifc T d)
 | ms0 (id es:Nat):Rel P w al β (.slice none 0 0) (.ms id 0 0 es)
 | ms (id off n es b cap:Nat) (c:Array Value) (T:TypeId) (hβ:β id=some b) (hw:w.heap[b]?=some (.cells c T (0,0))) (hn:n<=cap) (hm:cap<=maxLen) (Tz:off+cap*es=c.size) :
   Rel P w al β (.slice (some ⟨b,off,none⟩) n cap) (.ms id off n es)
 | pt (id off b:Nat) (hβ:β id=some b):Rel P w al β (.pointer (some ⟨b,off,none⟩)) (.pt id off)
 | mp (id b:Nat) (hβ:β id=some b):Rel P w al β (.map (some b)) (.mp id)
 | yl (id b:Nat) (hβ:β id=some b):Rel P w al β (.func (.yield b) #[] #[]) (.yl id)
theorem Rel.mono{P:Program}{w w':World}{al tC:Nat->Prop}{β β':Nat->Option Nat}(hb:∀ b,al b->tC b/\((∃ c T r,w.heap[b]?=some (.cells c T r))->w'.heap[b]?=w.heap[b]?))
  {x:Value} {d:DV} (h:Rel P w al β x d)
  (hr:∀ id∈d.refs,∀ b,β id=some b->β' id=some b/\∀ (c:Array Value) (T:TypeId),w.heap[b]?=some (.cells c T (0,0))->∃ c',w'.heap[b]?=some (.cells c' T (0,0))/\c'.size=c.size) :
  Rel P w' tC β' x d:=by
 induction h with
 | imm x d h=>exact .imm x d (h.monoC hb)
 | agg vs cs hl ho _ ih=>
  exact .agg vs cs hl ho λj u d hu hd=>ih j u d hu hd λid hi=>hr id (by rw [DV.refs];exact DV.refsL_mem (Aw hd) hi)
 | tup vs cs hl _ ih=>
  exact .tup vs cs hl λj u d hu hd=>ih j u d hu hd λid hi=>hr id (by rw [DV.refs];exact DV.refsL_mem (Aw hd) hi)
 | fn f us vs cs hl _ ih=>
  exact .fn f us vs cs hl λj u d hu hd=>ih j u d hu hd λid hi=>hr id (by rw [DV.refs];exact DV.refsL_mem (Aw hd) hi)
 | ifc T u d _ ih=>exact .ifc T u d (ih λid hi=>hr id (by rw [DV.refs];exact hi))
 | ms0 id es=>exact .ms0 id es
 | ms id off n es b cap c T hβ hw hn hm Tz=>
  obtain ⟨h1,h2⟩:=hr id (by simp [DV.refs]) b hβ
  obtain ⟨c',Jd,hs⟩:=h2 c T hw
  exact .ms id off n es b cap c' T h1 Jd hn hm (by omega)
 | pt id off b hβ=>exact .pt id off b (hr id (by simp [DV.refs]) b hβ).1
 | mp id b hβ=>exact .mp id b (hr id (by simp [DV.refs]) b hβ).1
 | yl id b hβ=>exact .yl id b (hr id (by simp [DV.refs]) b hβ).1
inductive Tr (α:Type) where
 | e
 | n (l:Tr α) (v:Option α) (r:Tr α)
 deriving Inhabited
def Tr.get{α:Type} : Tr α->Nat->Option α
 | .e,_=>none
 | .n l v r,k=>match k with
  | 0=>v
  | k+1=>if k % 2=0 then l.get (k / 2) else r.get (k / 2)
def Tr.setF{α:Type} : Nat->Tr α->Nat->Option α->Tr α
 | 0,t,_,v=>match t with
  | .e=>.n .e v .e
  | .n l _ r=>.n l v r
 | f+1,t,k,v=>match k with
  | 0=>match t with
   | .e=>.n .e v .e
   | .n l _ r=>.n l v r
  | k+1=>match t with
   | .e=>if k % 2=0 then .n (Tr.setF f .e (k / 2) v) none .e else .n .e none (Tr.setF f .e (k / 2) v)
   | .n l x r=>if k % 2=0 then .n (Tr.setF f l (k / 2) v) x r else .n l x (Tr.setF f r (k / 2) v)
def Tr.set{α:Type}(t:Tr α)(k:Nat)(v:Option α):Tr α:=Tr.setF k t k v
theorem Tr.get_setF{α:Type} : ∀ (f:Nat) (t:Tr α) (k j:Nat) (v:Option α),k<=f->(Tr.setF f t k v).get j=if k=j then v else t.get j
 | 0,t,k,j,v,h=>by
  obtain rfl:k=0:=by omega
  cases t <;> cases j <;> simp [Tr.setF,Tr.get]
 | f+1,t,0,j,v,h=>by
  cases t <;> cases j <;> simp [Tr.setF,Tr.get]
 | f+1,t,k+1,j,v,h=>by
  have ih:=λt j=>Tr.get_setF f t (k / 2) j v (by omega)
  cases t with
  | e=>
   simp only [Tr.setF]
   by_cases hk:k % 2=0
   .rw [Ah hk]
    cases j with
    | zero=>simp [Tr.get]
    | succ j=>
     simp only [Tr.get]
     by_cases hj:j % 2=0
     .rw [Ah hj,ih]
      by_cases he:k=j
      .subst he;simp
      .rw [Ae (by omega),Ae (by omega)];simp [Tr.get]
     .rw [Ae hj,Ae (by omega)]
   .rw [Ae hk]
    cases j with
    | zero=>simp [Tr.get]
    | succ j=>
     simp only [Tr.get]
     by_cases hj:j % 2=0
     .rw [Ah hj,Ae (by omega)]
     .rw [Ae hj,ih]
      by_cases he:k=j
      .subst he;simp
      .rw [Ae (by omega),Ae (by omega)];simp [Tr.get]
  | n l x r=>
   simp only [Tr.setF]
   by_cases hk:k % 2=0
   .rw [Ah hk]
    cases j with
    | zero=>simp [Tr.get]
    | succ j=>
     simp only [Tr.get]
     by_cases hj:j % 2=0
     .rw [Ah hj,Ah hj,ih]
      by_cases he:k=j
      .subst he;simp
      .rw [Ae (by omega),Ae (by omega)]
     .rw [Ae hj,Ae hj,Ae (by omega)]
   .rw [Ae hk]
    cases j with
    | zero=>simp [Tr.get]
    | succ j=>
     simp only [Tr.get]
     by_cases hj:j % 2=0
     .rw [Ah hj,Ah hj,Ae (by omega)]
     .rw [Ae hj,Ae hj,ih]
      by_cases he:k=j
      .subst he;simp
      .rw [Ae (by omega),Ae (by omega)]
theorem Tr.get_set{α:Type}(t:Tr α)(k j:Nat)(v:Option α):(t.set k v).get j=if k=j then v else t.get j:=Tr.get_setF k t k j v (Af _)
def lkS:List (Nat×DV)->Nat->DV
 | [],_=>.any
 | (i,d)::r,t=>if i=t then d else lkS r t
inductive Sl where
 | l (l:List (Nat×DV))
 | t (t:Tr DV)
 | f (f:Nat->DV)
 deriving Inhabited
def Sl.get:Sl->Nat->DV
 | .l x,u=>lkS x u
 | .t x,u=>(x.get u).getD .any
 | .f x,u=>x u
structure DLoop where
 nt:Nat
 sl:Sl
 ps:List Nat
 asg:DC
 body:DC
 st:LoopState
 pend:Option Code
 deriving Inhabited
structure ME where
 k:Value
 v:DV
 b:Nat
 deriving Inhabited
inductive DObj where
 | row (T:TypeId) (cs:List DV)
 | mapo (ck:Nat) (es:List ME)
 | loop (lp:DLoop)
 | siter (t:ByteArray) (pos:Nat)
 | miter (m:DV) (since:Nat) (seen:List Nat) (last:Nat)
 deriving Inhabited
def SameShape(w w':World)(b:Nat):Prop:=
 ∀ (c:Array Value) (T:TypeId),w.heap[b]?=some (.cells c T (0,0))->∃ c',w'.heap[b]?=some (.cells c' T (0,0))/\c'.size=c.size
theorem SameShape.of_eq{w w':World}{b:Nat}(h:w'.heap[b]?=w.heap[b]?):SameShape w w' b:=λc _ hc=>⟨c,h.trans hc,rfl⟩
structure DS where
 sv:Nat->DV
 ho:Nat->Option DObj
 nx:Nat
 deriving Inhabited
structure Ctx where
 P:Program
 S:Nat->Prop
 G:Nat->Prop
 w0:World
 nt:Nat
 X:Value->DV->Prop
 M:Nat->Prop
 rd:Option Nat
 Y:Nat->Option DObj
 R:Nat->Prop
def Sc(C:Ctx)(w:World)(β:Nat->Option Nat)(b:Nat):Prop:=(C.S b\/C.w0.heap.size<=b\/C.G b)/\b<w.heap.size/\∀ id,β id≠some b
def TP(x:Value)(d:DV):Prop:=∀ ds,d=.tup ds->∀ (i:Nat) (v:Value),ds[i]?=some (.v v)->∃ vs:Array Value,x=.tuple vs/\vs[i]?=some v
def WV(C:Ctx)(U:Nat->Prop)(V:Nat->Option DObj)(β:Nat->Option Nat)(w:World)(x:Value)(d:DV):Prop:=
 (∀ id∈d.refs,U id)/\((∀ id∈d.refs,(V id).isSome=true)->Rel C.P w (Sc C w β) β x d)/\TP x d
def RelO(C:Ctx)(U:Nat->Prop)(V:Nat->Option DObj)(β:Nat->Option Nat)(w:World)(id:Nat):DObj->Prop
 | .row T cs=>(β id=none/\cs=[])\/∃ b c,β id=some b/\w.heap[b]?=some (.cells c T (0,0))/\cs.length<=c.size/\(Sp C.P T=true->c.size=cs.length)/\
   ∀ (j:Nat) (u:Value) (d:DV),c[j]?=some u->cs[j]?=some d->WV C U V β w u d/\u.oneCell'=true
 | .mapo ck es=>∃ b ms,β id=some b/\w.heap[b]?=some (.map ms ck)/\ms.size=es.length/\
   ∀ (j:Nat) (e:MapEntry) (p:ME),ms[j]?=some e->es[j]?=some p->e.key=p.k/\e.born=p.b/\WV C U V β w e.val p.v
 | .loop lp=>∃ b r,β id=some b/\w.heap[b]?=some (.loop r)/\r.params.toList=lp.ps/\r.tmps.size=lp.nt/\Et C.P lp.nt r.assign=some lp.asg/\Et C.P lp.nt r.body=some lp.body/\
   r.state=lp.st/\r.pending=lp.pend/\∀ t,WV C U V β w (r.tmps.getD t undef) (lp.sl.get t)
 | .siter t pos=>∃ b,β id=some b/\w.heap[b]?=some (.stringIter t pos)
 | .miter m since seen last=>∃ b mv,β id=some b/\w.heap[b]?=some (.mapIter mv since seen.toArray last)/\WV C U V β w (.map mv) m
structure BelG (C:Ctx) (w:World):Prop where
 os:w.os=C.w0.os
 tape:w.tape=C.w0.tape
 output:w.output=C.w0.output
 size:C.w0.heap.size<=w.heap.size
 block:∀ k,k<C.w0.heap.size->¬ C.G k->w.heap[k]?=C.w0.heap[k]?
structure HH (C:Ctx) (U:Nat->Prop) (V:Nat->Option DObj) (β:Nat->Option Nat) (w:World):Prop where
 ok:∀ b,C.S b->b<C.w0.heap.size
 bel:BelG C w
 bge:∀ id b,β id=some b->(C.w0.heap.size<=b\/C.G b)/\b<w.heap.size
 inj:∀ i j b,β i=some b->β j=some b->i=j
 fr:∀ id,¬ U id->V id=none
 hp:∀ id o,V id=some o->RelO C U V β w id o
def Mark(C:Ctx)(β:Nat->Option Nat)(w:World)(d:Deferred):Prop:=
 ∃ D,d = { target:=.collected D,args:=#[] }/\w.heap[D]?=some (.deferred (some []))/\C.w0.heap.size<=D/\∀ id,β id≠some D
def H8(P:Program)(d:Deferred):Prop:=∃ g Pr,XO P g=true/\d = { target:=.fn (.func g) Pr,args:=#[] }
def TI(d:Deferred):Bool:=match d.target with
 | .collected _=>true
 | _=>false
structure Marks (C:Ctx) (β:Nat->Option Nat) (w:World) (l:List Deferred):Prop where
 nodup:(l.filter TI).Nodup
 own:∀ d∈l,Mark C β w d\/H8 C.P d
 out:∀ D,C.M D->Mark C β w { target:=.collected D,args:=#[] }
 apart:∀ D,({ target:=.collected D,args:=#[] } : Deferred)∈l->¬ C.M D
def KeepO(w:World)(β:Nat->Option Nat)(w':World)(β':Nat->Option Nat):Prop:=
 ∀ b,b<w.heap.size->(∀ id,β id≠some b)->w'.heap[b]?=w.heap[b]?/\∀ id,β' id≠some b
theorem KeepO.mark1{C:Ctx}{β β':Nat->Option Nat}{w w':World}(h:KeepO w β w' β'){d:Deferred}(hd:Mark C β w d):Mark C β' w' d:=
 let ⟨D,h1,h2,h3,h4⟩:=hd;let ⟨k1,k2⟩:=h D (Ck.1 h2).1 h4;⟨D,h1,k1.trans h2,h3,k2⟩
theorem KeepO.mark{C:Ctx}{β β':Nat->Option Nat}{w w':World}(h:KeepO w β w' β'){l:List Deferred}(hl:Marks C β w l):Marks C β' w' l:=
 ⟨hl.nodup,λd hd=>(hl.own d hd).imp h.mark1 λh=>h,λD hD=>h.mark1 (hl.out D hD),hl.apart⟩
theorem Marks.ownC{C:Ctx}{β:Nat->Option Nat}{w:World}{l:List Deferred}(h:Marks C β w l){D:Nat}(hd:({ target:=.collected D,args:=#[] } : Deferred)∈l):Mark C β w { target:=.collected D,args:=#[] }:=by
 rcases h.own _ hd with h1 | ⟨g,Pr,_,h1⟩
 .exact h1
 .simp at h1
theorem Marks.quiet{C:Ctx}{β:Nat->Option Nat}{w:World}{l:List Deferred}(h:Marks C β w l){d:Deferred}(hd:H8 C.P d):Marks C β w (d::l):=by
 obtain ⟨g,Pr,hq,rfl⟩:=hd
 refine ⟨?_,λd hd=>?_,h.out,λD hD=>?_⟩
 .rw [Ve (by simp [TI])];exact h.nodup
 .rcases Ak.1 hd with rfl | hd
  .exact .inr ⟨g,Pr,hq,rfl⟩
  .exact h.own d hd
 .rcases Ak.1 hD with e | hD
  .simp at e
  .exact h.apart D hD
theorem Marks.tail{C:Ctx}{β:Nat->Option Nat}{w:World}{l:List Deferred}{d:Deferred}(h:Marks C β w (d::l))(hd:TI d=false):Marks C β w l:=by
 refine ⟨?_,λe he=>h.own e (Bn _ he),h.out,λD hD=>h.apart D (Bn _ hD)⟩
 have:=h.nodup
 rwa [Ve (by simp [hd])] at this
def Ll(Y ho:Nat->Option DObj)(id:Nat):Option DObj:=match ho id with
 | some o=>some o
 | none=>Y id
def DS.vw(C:Ctx)(s:DS):Nat->Option DObj:=Ll C.Y s.ho
structure HoldsB (C:Ctx) (U:Nat->Prop) (s:DS) (β:Nat->Option Nat) (a:Act) (w:World):Prop where
 hh:HH C U (s.vw C) β w
 df:Marks C β w a.defers
 sz:a.tmps.size=C.nt
 sl:∀ t,WV C U (s.vw C) β w (a.tmps.getD t undef) (s.sv t)
 gh:∀ x d,C.X x d\/RK x d->WV C U (s.vw C) β w x d
 yd:∀ id o,C.Y id=some o->s.ho id=none
def Us(C:Ctx)(nx:Nat)(id:Nat):Prop:=id<nx/\¬ C.R id
def Holds(C:Ctx)(s:DS)(a:Act)(w:World):Prop:=(∀ id,C.R id->id<s.nx)/\∃ β,HoldsB C (Us C s.nx) s β a w
end Go.DD

/- How the relation is kept: by whatever a callee does, by new own objects, by stores and appends to own rows, by forgetting. -/
namespace Go.DD
open Go.RowKit (Below)
def Gr(ho:Nat->Option DObj)(id:Nat)(o:Option DObj):Nat->Option DObj:=λj=>if j=id then o else ho j
@[simp] theorem Qi(ho:Nat->Option DObj)(id:Nat)(o:Option DObj):Gr ho id o id=o:=by simp [Gr]
theorem tL(ho:Nat->Option DObj){id j:Nat}(o:Option DObj)(h:j≠id):Gr ho id o j=ho j:=by simp [Gr,h]
def upd(β:Nat->Option Nat)(i:Nat)(v:Option Nat):Nat->Option Nat:=λj=>if j=i then v else β j
@[simp] theorem Fl(β:Nat->Option Nat)(i:Nat)(v:Option Nat):upd β i v i=v:=by simp [upd]
theorem tK(β:Nat->Option Nat){i j:Nat}(v:Option Nat)(h:j≠i):upd β i v j=β j:=by simp [upd,h]
section
variable {C:Ctx} {U U':Nat->Prop} {V V':Nat->Option DObj} {β β':Nat->Option Nat} {w w':World}
theorem HH.lt(h:HH C U V β w){id b:Nat}(hb:β id=some b):b<w.heap.size:=(h.bge id b hb).2
theorem HH.used(h:HH C U V β w){id:Nat}(hv:(V id).isSome=true):U id:=by
 apply Dy
 intro hn
 rw [h.fr id hn] at hv;cases hv
theorem TP.of_rel{P:Program}{al:Nat->Prop}{x:Value}{d:DV}(h:Rel P w al β x d):TP x d:=by
 intro ds hd i v hv
 subst hd
 cases h with
 | imm _ _ h=>
  cases h with
  | tup vs cs hl h=>
   obtain ⟨hi,_⟩:=Ar.1 hv
   have Fb:i<vs.length:=by omega
   have:=h i _ _ (Aa Fb) hv
   generalize he:vs[i]=u at this
   cases this
   exact ⟨_,rfl,by simp [Aa Fb,he]⟩
 | tup vs cs hl h=>
  obtain ⟨hi,_⟩:=Ar.1 hv
  have Fb:i<vs.length:=by omega
  have:=h i _ _ (Aa Fb) hv
  generalize he:vs[i]=u at this
  cases this with
  | imm _ _ h=>cases h;exact ⟨_,rfl,by simp [Aa Fb,he]⟩
theorem TP.nt{x:Value}{d:DV}(h:∀ ds,d≠.tup ds):TP x d:=λds hd=>(h ds hd).elim
theorem WV.v_eq{x y:Value}(h:WV C U V β w x (.v y)):x=y:=by
 have:=h.2.1 (λid hi=>by simp [DV.refs] at hi)
 cases this with
 | imm _ _ h=>cases h;rfl
theorem TP.of_wv{us:List Value}{cs:List DV}(hl:us.length=cs.length)(hr:∀ (j:Nat) (u:Value) (d:DV),us[j]?=some u->cs[j]?=some d->WV C U V β w u d):TP (.tuple us.toArray) (.tup cs):=by
 intro ds hd i v hv
 cases hd
 obtain ⟨hi,_⟩:=Ar.1 hv
 have Fb:i<us.length:=by omega
 exact ⟨_,rfl,by simp [Aa Fb,(hr i _ _ (Aa Fb) hv).v_eq]⟩
theorem HH.wv(h:HH C U V β w){x:Value}{d:DV}(hr:Rel C.P w (Sc C w β) β x d)(ha:∀ id∈d.refs,(V id).isSome=true):WV C U V β w x d:=
 ⟨λid hi=>h.used (ha id hi),λ_=>hr,TP.of_rel hr⟩
theorem WV.flat{x:Value}{d:DV}(hr:Rel C.P w (Sc C w β) β x d)(ha:d.refs=[]):WV C U V β w x d:=⟨λid hi=>(by rw [ha] at hi;cases hi),λ_=>hr,TP.of_rel hr⟩
theorem WV.any{x:Value} : WV C U V β w x .any:=WV.flat (.imm _ _ (.any x)) rfl
theorem WV.v(x:Value):WV C U V β w x (.v x):=WV.flat (.imm _ _ (.v x)) rfl
theorem Bn2(h:BelG C w)(hk:Below w.heap.size w w'):BelG C w':=
 ⟨hk.os.trans h.os,hk.tape.trans h.tape,hk.output.trans h.output,Es h.size hk.size,λk Cr Fj=>(hk.block k (Br Cr h.size)).trans (h.block k Cr Fj)⟩
theorem RelO.keep{id:Nat}{o:DObj}(h:RelO C U V β w id o)(hβ:β' id=β id)(hb:∀ b,β id=some b->w'.heap[b]?=w.heap[b]?)(hw:∀ x d,WV C U V β w x d->WV C U' V' β' w' x d):RelO C U' V' β' w' id o:=by
 cases o with
 | row T cs=>
  rcases h with ⟨h1,h2⟩ | ⟨b,c,h1,hc,hl,hx,hr⟩
  .exact .inl ⟨hβ.trans h1,h2⟩
  .exact .inr ⟨b,c,hβ.trans h1,(hb b h1).trans hc,hl,hx,λj u d hu hd=>⟨hw _ _ (hr j u d hu hd).1,(hr j u d hu hd).2⟩⟩
 | mapo ck es=>
  obtain ⟨b,ms,h1,hm,hs,hr⟩:=h
  exact ⟨b,ms,hβ.trans h1,(hb b h1).trans hm,hs,λj e p he hp=>⟨(hr j e p he hp).1,(hr j e p he hp).2.1,hw _ _ (hr j e p he hp).2.2⟩⟩
 | loop lp=>
  obtain ⟨b,r,h1,hm,q1,q2,q3,q4,q5,q6,hr⟩:=h
  exact ⟨b,r,hβ.trans h1,(hb b h1).trans hm,q1,q2,q3,q4,q5,q6,λt=>hw _ _ (hr t)⟩
 | siter t pos=>
  obtain ⟨b,h1,hm⟩:=h
  exact ⟨b,hβ.trans h1,(hb b h1).trans hm⟩
 | miter m since seen last=>
  obtain ⟨b,mv,h1,hm,hr⟩:=h
  exact ⟨b,mv,hβ.trans h1,(hb b h1).trans hm,hw _ _ hr⟩
theorem HH.keep(h:HH C U V β w)(hk:Below w.heap.size w w'):HH C U V β w'/\(∀ x d,WV C U V β w x d->WV C U V β w' x d)/\KeepO w β w' β:=by
 have Ql:∀ b,Sc C w β b->Sc C w' β b/\((∃ c T r,w.heap[b]?=some (.cells c T r))->w'.heap[b]?=w.heap[b]?):=λb ⟨h1,h2,h3⟩=>⟨⟨h1,Br h2 hk.size,h3⟩,λ_=>hk.block b h2⟩
 have Ct:∀ x d,WV C U V β w x d->WV C U V β w' x d:=λx d ⟨h1,h2,h3⟩=>
  ⟨h1,λha=>(h2 ha).mono Ql λid _ b hb=>⟨hb,SameShape.of_eq (hk.block b (h.lt hb))⟩,h3⟩
 refine ⟨⟨h.ok,Bn2 h.bel hk,λid b hb=>⟨(h.bge id b hb).1,Br (h.lt hb) hk.size⟩,h.inj,h.fr,λid o ho=>?_⟩,Ct,λb hb hn=>⟨hk.block b hb,hn⟩⟩
 exact (h.hp id o ho).keep rfl (λb hb=>hk.block b (h.lt hb)) Ct
theorem CL(w:World)(o:Obj):Below w.heap.size w (w.alloc o):=(Below.refl _ _).alloc (Af _) o
theorem HH.turn(h:HH C U V β w)(nid:Nat)(Iy:Option Nat)(Ru:¬ U nid)(si:∀ id,U' id↔U id\/id=nid)(hold:∀ i,Iy=some i->U i)
  (Hm:∀ b,b<w.heap.size->(∀ i,Iy=some i->β i≠some b)->w'.heap[b]?=w.heap[b]?)
  (Q9:w'.os=w.os) (Ww:w'.tape=w.tape) (Ni:w'.output=w.output) (Hq:w.heap.size<=w'.heap.size)
  (hβ:∀ j,j≠nid->Iy≠some j->β' j=β j) (lr:∀ i,Iy=some i->β' i=none)
  (Qd:∀ b,β' nid=some b->((∃ i,Iy=some i/\β i=some b)\/w.heap.size<=b)/\b<w'.heap.size)
  (hV:∀ j,j≠nid->V' j=if Iy=some j then none else V j)
  (gJ:∀ o,V' nid=some o->(∀ x d,WV C U V β w x d->WV C U' V' β' w' x d)->RelO C U' V' β' w' nid o) :
  HH C U' V' β' w'/\(∀ x d,WV C U V β w x d->WV C U' V' β' w' x d)/\KeepO w β w' β':=by
 have Hu:∀ i,Iy=some i->i≠nid:=λi hi he=>Ru (he ▸ hold i hi)
 have Nu:∀ j b,β' j=some b->(j=nid)\/(j≠nid/\Iy≠some j/\β j=some b):=λj b hb=>by
  by_cases hj:j=nid
  .exact .inl hj
  .by_cases ho:Iy=some j
   .rw [lr j ho] at hb;cases hb
   .exact .inr ⟨hj,ho,by rw [<- hβ j hj ho];exact hb⟩
 have pU:∀ b,b<w.heap.size->(∀ id,β id≠some b)->∀ j,β' j≠some b:=λb h2 h3 j hj=>by
  rcases Nu j b hj with rfl | ⟨_,_,h4⟩
  .rcases (Qd b hj).1 with ⟨i,_,h4⟩ | h4
   .exact h3 i h4
   .omega
  .exact h3 j h4
 have Ql:∀ b,Sc C w β b->Sc C w' β' b/\((∃ c T r,w.heap[b]?=some (.cells c T r))->w'.heap[b]?=w.heap[b]?):=λb ⟨h1,h2,h3⟩=>
  ⟨⟨h1,Br h2 Hq,pU b h2 h3⟩,λ_=>Hm b h2 λi _=>h3 i⟩
 have C1:∀ j b,j≠nid->Iy≠some j->β j=some b->w'.heap[b]?=w.heap[b]?:=λj b hj ho hb=>
  Hm b (h.lt hb) λi hi e=>ho (by rw [hi,h.inj i j b e hb])
 have Ct:∀ x d,WV C U V β w x d->WV C U' V' β' w' x d:=λx d ⟨h1,h2,LF⟩=>by
  refine ⟨λid hi=>(si id).2 (.inl (h1 id hi)),λha=>?_,LF⟩
  have Ni:∀ id∈d.refs,id≠nid/\Iy≠some id:=λid hi=>by
   have hn:id≠nid:=λe=>Ru (e ▸ h1 id hi)
   refine ⟨hn,λe=>?_⟩
   have:=ha id hi
   rw [hV id hn,Ah e] at this;cases this
  refine (h2 λid hi=>?_).mono Ql λid hi b hb=>?_
  .have:=ha id hi
   rwa [hV id (Ni id hi).1,Ae (Ni id hi).2] at this
  .exact ⟨by rw [hβ id (Ni id hi).1 (Ni id hi).2];exact hb,SameShape.of_eq (C1 id b (Ni id hi).1 (Ni id hi).2 hb)⟩
 have qV:BelG C w':=⟨Q9.trans h.bel.os,Ww.trans h.bel.tape,Ni.trans h.bel.output,Es h.bel.size Hq,λk Cr Fj=>by
  refine (Hm k (Br Cr h.bel.size) λi _ e=>?_).trans (h.bel.block k Cr Fj)
  rcases (h.bge _ _ e).1 with h4 | h4
  .omega
  .exact Fj h4⟩
 refine ⟨⟨h.ok,qV,λj b hb=>?_,λi j b hi hj=>?_,λid hn=>?_,λj o hj=>?_⟩,Ct,λb hb hn=>⟨Hm b hb λi _=>hn i,pU b hb hn⟩⟩
 .rcases Nu j b hb with rfl | ⟨_,_,h4⟩
  .refine ⟨?_,(Qd b hb).2⟩
   rcases (Qd b hb).1 with ⟨i,_,h4⟩ | h4
   .exact (h.bge _ b h4).1
   .exact .inl (Es h.bel.size h4)
  .exact ⟨(h.bge j b h4).1,Br (h.lt h4) Hq⟩
 .rcases Nu i b hi with rfl | ⟨h1,h2,h3⟩ <;> rcases Nu j b hj with rfl | ⟨g1,g2,g3⟩
  .rfl
  .exfalso
   rcases (Qd b hi).1 with ⟨k,hk,h4⟩ | h4
   .exact g2 (by rw [hk,h.inj k j b h4 g3])
   .have:=h.lt g3;omega
  .exfalso
   rcases (Qd b hj).1 with ⟨k,hk,h4⟩ | h4
   .exact h2 (by rw [hk,h.inj k i b h4 h3])
   .have:=h.lt h3;omega
  .exact h.inj i j b h3 g3
 .have h1:¬ U id:=λhu=>hn ((si id).2 (.inl hu))
  have h2:id≠nid:=λe=>hn ((si id).2 (.inr e))
  rw [hV id h2]
  split
  .rfl
  .exact h.fr id h1
 .by_cases Nl:j=nid
  .subst Nl;exact gJ o hj Ct
  .rw [hV j Nl] at hj
   split at hj
   .cases hj
   .rename_i ho
    exact (h.hp j o hj).keep (hβ j Nl ho) (λb hb=>C1 j b Nl ho hb) Ct
theorem HH.write(h:HH C U V β w)(id QO:Nat)(hid:β id=some QO)(KZ:(V id).isSome=true)
  (Hm:∀ b,b≠QO->w'.heap[b]?=w.heap[b]?)
  (Hq:w'.heap.size=w.heap.size) (Q9:w'.os=w.os) (Ww:w'.tape=w.tape) (Ni:w'.output=w.output)
  (gE:SameShape w w' QO)
  (hV:∀ j,j≠id->V' j=V j) (hVi:(V' id).isSome=true)
  (gJ:∀ o,V' id=some o->(∀ x d,WV C U V β w x d->WV C U V' β w' x d)->RelO C U V' β w' id o) :
  HH C U V' β w'/\(∀ x d,WV C U V β w x d->WV C U V' β w' x d)/\KeepO w β w' β:=by
 have Ql:∀ b,Sc C w β b->Sc C w' β b/\((∃ c T r,w.heap[b]?=some (.cells c T r))->w'.heap[b]?=w.heap[b]?):=by
  rintro b ⟨h1,h2,h3⟩
  exact ⟨⟨h1,by omega,h3⟩,λ_=>Hm b (λe=>h3 id (by rw [hid,e]))⟩
 have Ct:∀ x d,WV C U V β w x d->WV C U V' β w' x d:=λx d ⟨h1,h2,LF⟩=>by
  refine ⟨h1,λha=>(h2 λj hj=>?_).mono Ql λj _ b hb=>?_,LF⟩
  .by_cases Nl:j=id
   .subst Nl;exact KZ
   .rw [<- hV j Nl];exact ha j hj
  .refine ⟨hb,?_⟩
   by_cases OE:b=QO
   .subst OE;exact gE
   .exact SameShape.of_eq (Hm b OE)
 have hb0:=(h.bge id QO hid).1
 have qV:BelG C w':=⟨Q9.trans h.bel.os,Ww.trans h.bel.tape,Ni.trans h.bel.output,by have:=h.bel.size;omega,λk Cr Fj=>by
  refine (Hm k λe=>?_).trans (h.bel.block k Cr Fj)
  rcases hb0 with h4 | h4
  .omega
  .exact Fj (e ▸ h4)⟩
 refine ⟨⟨h.ok,qV,λj b hb=>⟨(h.bge j b hb).1,by have:=h.lt hb;omega⟩,h.inj,λj hj=>?_,λj o hj=>?_⟩,Ct,λb _ hn=>⟨Hm b (λe=>hn id (by rw [hid,e])),hn⟩⟩
 .have Hu:j≠id:=λe=>hj (e ▸ h.used KZ)
  rw [hV j Hu];exact h.fr j hj
 .by_cases Nl:j=id
  .subst Nl;exact gJ o hj Ct
  .rw [hV j Nl] at hj
   exact (h.hp j o hj).keep rfl (λb hb=>Hm b λe=>Nl (h.inj j id b hb (by rw [e];exact hid))) Ct
theorem HH.less(h:HH C U V β w)(hU:∀ id,U id->U' id)(hβ:∀ id,β' id=β id\/(β' id=none/\V' id=none))(hV:∀ id,V' id=V id\/V' id=none) :
  HH C U' V' β' w/\(∀ x d,WV C U V β w x d->WV C U' V' β' w x d)/\KeepO w β w β':=by
 have Nu:∀ j b,β' j=some b->β j=some b:=λj b hb=>by
  rcases hβ j with e | e
  .rw [<- e];exact hb
  .rw [e.1] at hb;cases hb
 have Ql:∀ b,Sc C w β b->Sc C w β' b/\((∃ c T r,w.heap[b]?=some (.cells c T r))->w.heap[b]?=w.heap[b]?):=λb ⟨h1,h2,h3⟩=>⟨⟨h1,h2,λj hj=>h3 j (Nu j b hj)⟩,λ_=>rfl⟩
 have Ct:∀ x d,WV C U V β w x d->WV C U' V' β' w x d:=λx d ⟨h1,h2,LF⟩=>by
  refine ⟨λid hi=>hU id (h1 id hi),λha=>(h2 λid hi=>?_).mono Ql λid hi b hb=>⟨?_,SameShape.of_eq rfl⟩,LF⟩
  .have:=ha id hi
   rcases hV id with e | e
   .rw [<- e];exact this
   .rw [e] at this;cases this
  .rcases hβ id with e | e
   .rw [e];exact hb
   .have:=ha id hi
    rw [e.2] at this;cases this
 refine ⟨⟨h.ok,h.bel,λid b hb=>h.bge id b (Nu id b hb),λi j b hi hj=>h.inj i j b (Nu i b hi) (Nu j b hj),λid hn=>?_,λid o ho=>?_⟩,Ct,λb _ hn=>⟨rfl,λj hj=>hn j (Nu j b hj)⟩⟩
 .rcases hV id with e | e
  .rw [e];exact h.fr id λhu=>hn (hU id hu)
  .exact e
 .rcases hV id with e | e
  .rw [e] at ho
   have hβ':β' id=β id:=by
    rcases hβ id with e' | e'
    .exact e'
    .rw [e'.2] at e;rw [<- e] at ho;cases ho
   exact (h.hp id o ho).keep hβ' (λ_ _=>rfl) Ct
  .rw [e] at ho;cases ho
end
def DS.lay(s:DS)(id:Nat)(o:Option DObj):DS:={ s with ho:=Gr s.ho id o }
def DS.put(s:DS)(dst:Option Nat)(d:DV):DS:=
 match dst with
 | some t=>{ s with sv:=λu=>if t=u then d else s.sv u }
 | none=>s
@[simp] theorem DS.ho_lay_same(s:DS)(id:Nat)(o:Option DObj):(s.lay id o).ho id=o:=by simp [DS.lay]
theorem DS.ho_lay_other(s:DS){id j:Nat}(o:Option DObj)(h:j≠id):(s.lay id o).ho j=s.ho j:=by simp [DS.lay,Gr,h]
@[simp] theorem DS.sv_lay(s:DS)(id:Nat)(o:Option DObj)(t:Nat):(s.lay id o).sv t=s.sv t:=rfl
@[simp] theorem DS.ho_put(s:DS)(dst:Option Nat)(d:DV):(s.put dst d).ho=s.ho:=by cases dst <;> rfl
@[simp] theorem DS.nx_put(s:DS)(dst:Option Nat)(d:DV):(s.put dst d).nx=s.nx:=by cases dst <;> rfl
@[simp] theorem DS.vw_put(C:Ctx)(s:DS)(dst:Option Nat)(d:DV):(s.put dst d).vw C=s.vw C:=by cases dst <;> rfl
theorem DS.sv_put_same(s:DS)(t:Nat)(d:DV):(s.put (some t) d).sv t=d:=by simp [DS.put]
theorem DS.sv_put_other(s:DS){t u:Nat}(d:DV)(h:t≠u):(s.put (some t) d).sv u=s.sv u:=by simp [DS.put,h]
theorem mV{C:Ctx}{s:DS}{id:Nat}{o:DObj}(h:s.ho id=some o):s.vw C id=some o:=by simp [DS.vw,Ll,h]
theorem sK{C:Ctx}{s:DS}{id:Nat}(h:(s.ho id).isSome=true):(s.vw C id).isSome=true:=by
 obtain ⟨o,ho⟩:=Eb.1 h
 rw [mV ho];rfl
section
variable {C:Ctx} {U:Nat->Prop} {s:DS} {β:Nat->Option Nat} {a:Act} {w:World}
theorem HoldsB.put(h:HoldsB C U s β a w)(dst:Option Nat)(hd:∀ t,dst=some t->t<C.nt){x:Value}{d:DV}
  (hr:WV C U (s.vw C) β w x d):HoldsB C U (s.put dst d) β (a.put dst x) w:=by
 cases dst with
 | none=>exact h
 | some t=>
  refine ⟨by rw [DS.vw_put];exact h.hh,h.df,by simp [Act.put,h.sz],λu=>?_,by rw [DS.vw_put];exact h.gh,by rw [DS.ho_put];exact h.yd⟩
  rw [DS.vw_put]
  by_cases mo:t=u
  .subst mo
   rw [DS.sv_put_same]
   have Fb:t<a.tmps.size:=by rw [h.sz];exact hd t rfl
   have:(a.put (some t) x).tmps.getD t undef=x:=by simp [Act.put,Fb]
   rw [this];exact hr
  .rw [DS.sv_put_other s d mo]
   have:(a.put (some t) x).tmps.getD u undef=a.tmps.getD u undef:=by simp [Act.put,Ix mo]
   rw [this];exact h.sl u
theorem HoldsB.carry{U':Nat->Prop}{s':DS}{β':Nat->Option Nat}{w':World}(hs:HoldsB C U s β a w)(uS:s'.sv=s.sv)(hyd:∀ id o,C.Y id=some o->s'.ho id=none)
  (h:HH C U' (s'.vw C) β' w'/\(∀ x d,WV C U (s.vw C) β w x d->WV C U' (s'.vw C) β' w' x d)/\KeepO w β w' β'):HoldsB C U' s' β' a w':=
 ⟨h.1,h.2.2.mark hs.df,hs.sz,λt=>by rw [uS];exact h.2.1 _ _ (hs.sl t),λx d hx=>h.2.1 _ _ (hs.gh x d hx),hyd⟩
theorem HoldsB.keep{w':World}(hs:HoldsB C U s β a w)(hb:Below w.heap.size w w'):HoldsB C U s β a w':=hs.carry rfl hs.yd (hs.hh.keep hb)
theorem HoldsB.grow{U':Nat->Prop}(hs:HoldsB C U s β a w)(hU:∀ id,U id->U' id):HoldsB C U' s β a w:=hs.carry rfl hs.yd (hs.hh.less hU (λ_=>.inl rfl) (λ_=>.inl rfl))
end
end Go.DD

/- The operations on deep values: compiled from the model's, and what each leaves. -/
namespace Go.DD
open Go.RowKit (Below)
def aC:Value->DV
 | .agg cs=>if cs.toList.all (·.oneCell') then .agg (cs.toList.map .v) else .any
 | .tuple _=>.any
 | x=>.v x
def DS.live(s:DS)(d:DV):Bool:=d.refs.all λid=>(s.ho id).isSome
def DS.ev(s:DS):Operand->DV
 | .tmp t=>if s.live (s.sv t)=true then s.sv t else .any
 | .const x=>aC x
 | .func f=>.fn (.func f) [.tup []]
 | .global g=>BE g
def DS.rv(s:DS):Operand->DV
 | .tmp t=>s.sv t
 | x=>s.ev x
def DV.cells:DV->List DV
 | .agg cs=>cs
 | d=>[d]
def DV.okC:DV->Bool
 | .v x=>x.oneCell'
 | .tup _=>false
 | .any=>false
 | _=>true
def Mq(op:BinOp)(k:IntKind)(a b:Int):Option Value:=
 match op with
 | .add=>some (.int k (k.wrap (a+b)))
 | .sub=>some (.int k (k.wrap (a-b)))
 | .mul=>some (.int k (k.wrap (a*b)))
 | .quo=>if b=0 then none else some (.int k (k.wrap (a.tdiv b)))
 | .rem=>if b=0 then none else some (.int k (a.tmod b))
 | .and=>some (.int k (k.wrap ((BitVec.ofInt k.bits a &&& BitVec.ofInt k.bits b).toNat:Nat)))
 | .or=>some (.int k (k.wrap ((BitVec.ofInt k.bits a ||| BitVec.ofInt k.bits b).toNat:Nat)))
 | .xor=>some (.int k (k.wrap ((BitVec.ofInt k.bits a ^^^ BitVec.ofInt k.bits b).toNat:Nat)))
 | .andNot=>some (.int k (k.wrap ((BitVec.ofInt k.bits a &&& ~~~ BitVec.ofInt k.bits b).toNat:Nat)))
 | .eql=>some (.bool (a==b))
 | .neq=>some (.bool (a != b))
 | .lss=>some (.bool (decide (a<b)))
 | .leq=>some (.bool (decide (a<=b)))
 | .gtr=>some (.bool (decide (b<a)))
 | .geq=>some (.bool (decide (b<=a)))
 | _=>none
def nB(op:BinOp)(k:IntKind)(a b:Int):Option Value:=
 if b<0 then none else
 match op with
 | .shl=>some (.int k (k.wrap (a*2 ^ (min b.toNat k.bits))))
 | .shr=>some (.int k (a.fdiv (2 ^ (min b.toNat k.bits))))
 | _=>none
def eC(op:BinOp)(x y:ByteArray):Option Value:=
 match op with
 | .add=>if x.size+y.size<=2147483648 then some (.string (x++y)) else none
 | .eql=>some (.bool (x.toList==y.toList))
 | .neq=>some (.bool !(x.toList==y.toList))
 | .lss=>some (.bool (Op.bytesLess x.toList y.toList))
 | .leq=>some (.bool (Op.bytesLess x.toList y.toList||x.toList==y.toList))
 | .gtr=>some (.bool !(Op.bytesLess x.toList y.toList||x.toList==y.toList))
 | .geq=>some (.bool !(Op.bytesLess x.toList y.toList))
 | _=>none
def Nh:BinOp->Bool
 | .shl | .shr=>true
 | _=>false
def Lw(op:BinOp):DV->DV->Option Value
 | .v (.int k a),.v (.int k' b)=>if Nh op then nB op k a b else if k=k' then Mq op k a b else none
 | .v (.string a),.v (.string b)=>eC op a b
 | _,_=>none
def iQ:Nat->DV->DV->Option Bool
 | 0,.v (.int k a),.v (.int k' b)=>if k=k' then some (a==b) else none
 | 1,.v (.bool a),.v (.bool b)=>some (a==b)
 | 2,.v (.string a),.v (.string b)=>some (a.toList==b.toList)
 | _,_,_=>none
def Qu:List Nat->List DV->List DV->Option Bool
 | [],[],[]=>some true
 | k::ks,c::cs,d::ds=>match iQ k c d with
  | some true=>Qu ks cs ds
  | some false=>some false
  | none=>none
 | _,_,_=>none
def isNil:Nat->DV->Option Bool
 | 0,.v (.slice none _ _)=>some true
 | 0,.v (.slice (some _) _ _)=>some false
 | 0,.sl _ n=>if 0<n then some false else none
 | 0,.ms _ _ n _=>if 0<n then some false else none
 | 1,.v (.pointer none)=>some true
 | 1,.ia _=>some false
 | 1,.pt _ _=>some false
 | 2,.v (.map none)=>some true
 | 2,.mp _=>some false
 | 3,.v .nilFunc=>some true
 | 3,.fn _ _=>some false
 | 4,.v .nilIface=>some true
 | 4,.ifc _ _=>some false
 | _,_=>none
def EJ(op:UnOp):DV->Option Value
 | .v (.int k n)=>match op with
  | .neg=>some (.int k (k.wrap (0-n)))
  | .xor=>some (.int k (k.wrap ((BitVec.ofInt k.bits (if k.signed then -1 else k.max) ^^^ BitVec.ofInt k.bits n).toNat:Nat)))
  | _=>none
 | .v (.bool b)=>match op with
  | .not=>some (.bool !b)
  | _=>none
 | _=>none
def Hi:List DV->List (Nat×Nat×DV)->Option (List DV)
 | cs,[]=>some cs
 | cs,(off,sz,d)::ps=>if d.okC=true/\d.cells.length=sz/\off+sz<=cs.length then Hi (cs.take off++d.cells++cs.drop (off+sz)) ps else none
def Jc(k:Option Nat)(cs:List DV):Option DV:=
 match k with
 | none=>match cs with
  | c::_=>some c
  | []=>none
 | some n=>if n<=cs.length then some (.agg (cs.take n)) else none
def Mx:DV->Option Int
 | .v (.int _ n)=>some n
 | _=>none
def Kt(s:DS)(Yk:Int):Option Operand->Option Int
 | none=>some Yk
 | some x=>Mx (s.ev x)
def srcD(s:DS)(T:TypeId)(es:Nat):DV->Option (List DV×Nat)
 | .sl cs m=>some (cs,m)
 | .v (.slice none 0 _)=>some ([],0)
 | .v (.slice (some _) 0 _)=>some ([],0)
 | .ms id off m es'=>match s.ho id with
  | some (.row T' cs)=>if T'=T/\es'=es/\off+m*es<=cs.length then some ((cs.drop off).take (m*es),m) else none
  | _=>none
 | _=>none
def dstD(s:DS)(T:TypeId)(es:Nat):DV->Option (Option Nat×List DV×Nat)
 | .v (.slice none 0 0)=>some (none,[],0)
 | .ms id 0 n es'=>match s.ho id with
  | some (.row T' cs)=>if T'=T/\es'=es/\cs.length=n*es then some (some id,cs,n) else none
  | _=>none
 | _=>none
def TH:TypeDesc->Value->Bool
 | .bool,.bool _=>true
 | .int k,.int k' _=>k'==k
 | .string,.string _=>true
 | _,_=>false
def Wo:TypeDesc->Value->Value->Option Bool
 | .int _,.int k a,.int k' b=>if k=k' then some (a==b) else none
 | .string,.string a,.string b=>some (a.data.toList==b.data.toList)
 | .bool,.bool a,.bool b=>some (a==b)
 | _,_,_=>none
def Hy:List Nat->List Value->Bool
 | [],[]=>true
 | 0::ks,.int _ _::vs=>Hy ks vs
 | 1::ks,.bool _::vs=>Hy ks vs
 | 2::ks,.string _::vs=>Hy ks vs
 | _,_=>false
def nN:KD->Value->Bool
 | .p d,v=>TH d v
 | .f ks,.agg cs=>Hy ks cs.toList
 | _,_=>false
def Pw:KD->Value->Value->Option Bool
 | .p d,a,b=>Wo d a b
 | .f ks,.agg a,.agg b=>Qu ks (a.toList.map .v) (b.toList.map .v)
 | _,_,_=>none
def oB:List DV->Option (List Value)
 | []=>some []
 | .v x::l=>if x.oneCell' then (oB l).map λr=>x::r else none
 | _=>none
def Ya:DV->Option Value
 | .v x=>some x
 | .agg cs=>(oB cs).map λl=>.agg l.toArray
 | _=>none
def findD(d:KD)(k:Value):List ME->Nat->Option (Option (Nat×ME))
 | [],_=>some none
 | p::ps,i=>match Pw d k p.k with
  | some true=>some (some (i,p))
  | some false=>findD d k ps (i+1)
  | none=>none
def Io(ok:Bool)(v:DV)(b:Bool):DV:=if ok then .tup [v,.v (.bool b)] else v
def Qm(kd:KD)(kv:Value)(v:DV)(ck:Nat)(es:List ME):Option (Nat×List ME):=
 match findD kd kv es 0 with
 | some (some (i,e))=>some (ck,es.set i ⟨kv,v,e.b⟩)
 | some none=>some (ck+1,es ++ [⟨kv,v,ck⟩])
 | none=>none
def bJ(s:DS)(es:Nat):DV->Option (List DV×Nat)
 | .sl cs m=>some (cs,m)
 | .v (.slice none 0 _)=>some ([],0)
 | .ms id off m es'=>match s.ho id with
  | some (.row _ cs)=>if es'=es/\off+m*es<=cs.length then some ((cs.drop off).take (m*es),m) else none
  | _=>none
 | _=>none
def yG:List DV->Option (List Int)
 | []=>some []
 | .v (.int .u8 n)::cs=>(yG cs).map (n :: ·)
 | _=>none
inductive Upd where
 | keep
 | lay (o:DObj)
 | wr (id:Nat) (o:DObj)
 | mv (Iy:Option Nat) (o:DObj)
 deriving Inhabited
def SB(ho:Nat->Option DObj):Option Nat->Nat->Option DObj
 | none=>ho
 | some i=>Gr ho i none
def Upd.app(nid:Nat)(ho:Nat->Option DObj):Upd->Nat->Option DObj
 | .keep=>ho
 | .lay o=>Gr ho nid (some o)
 | .wr id o=>Gr ho id (some o)
 | .mv Iy o=>Gr (SB ho Iy) nid (some o)
def DS.upd(s:DS)(nid:Nat)(u:Upd):DS:={ s with ho:=u.app nid s.ho }
def Upd.new:Upd->Bool
 | .lay _=>true
 | .mv _ _=>true
 | _=>false
def rM:DV->Nat->Option Value
 | .tup ds,i=>match ds[i]? with
  | some (.v v)=>some v
  | _=>none
 | _,_=>none
theorem Bq0{d:DV}{i:Nat}{v:Value}(h:rM d i=some v):∃ ds,d=.tup ds/\ds[i]?=some (.v v):=by
 unfold rM at h
 split at h
 .split at h
  .cases h;exact ⟨_,rfl,by assumption⟩
  .cases h
 .cases h
def Bb(nid:Nat)(s:DS):DOp->Option (DV×Upd)
 | .mv x=>some (s.rv x,.keep)
 | .pick c a b=>match s.ev c with
  | .v (.bool t)=>some (if t then s.rv a else s.rv b,.keep)
  | _=>none
 | .al T z=>some (.pt nid 0,.lay (.row T (z.map .v)))
 | .bx T x=>if (s.ev x).okC then some (.pt nid 0,.lay (.row T (s.ev x).cells)) else none
 | .bld z ps=>match Hi (z.map .v) (ps.map λp=>(p.1,p.2.1,s.ev p.2.2)) with
  | some cs=>some (.agg cs,.keep)
  | none=>none
 | .bsl T n es z ps=>match Hi ((List.replicate n (z.map .v)).flatten) (ps.map λp=>(p.1,p.2.1,s.ev p.2.2)) with
  | some cs=>if z.length=es then some (.ms nid 0 n es,.lay (.row T cs)) else none
  | none=>none
 | .ld k x=>match s.ev x with
  | .ia cs=>(Jc k cs).map λd=>(d,.keep)
  | .pt id off=>match s.ho id with
   | some (.row _ cs)=>(Jc k (cs.drop off)).map λd=>(d,.keep)
   | _=>none
  | _=>none
 | .st n a x=>match s.ev a with
  | .pt id off=>match s.ho id with
   | some (.row T cs)=>if (s.ev x).okC=true/\(s.ev x).cells.length=n/\off+n<=cs.length then some (.any,.wr id (.row T (cs.take off++(s.ev x).cells++cs.drop (off+n)))) else none
   | _=>none
  | _=>none
 | .nck x=>match s.ev x with
  | .ia cs=>some (.ia cs,.keep)
  | .pt id off=>some (.pt id off,.keep)
  | .fn (.func f) cs=>some (.fn (.func f) cs,.keep)
  | .ifc T d=>some (.ifc T d,.keep)
  | _=>none
 | .bin op x y=>(Lw op (s.ev x) (s.ev y)).map λv=>(.v v,.keep)
 | .bb neg x y=>match s.ev x,s.ev y with
  | .v (.bool a),.v (.bool b)=>some (.v (.bool (xor neg (a==b))),.keep)
  | _,_=>none
 | .eqs neg ks x y=>match s.ev x,s.ev y with
  | .agg xs,.agg ys=>(Qu ks xs ys).map λb=>(.v (.bool (xor neg b)),.keep)
  | _,_=>none
 | .nilq k neg x y=>match isNil k (s.ev x),isNil k (s.ev y) with
  | some true,some b=>some (.v (.bool (xor neg b)),.keep)
  | some b,some true=>some (.v (.bool (xor neg b)),.keep)
  | _,_=>none
 | .un op x=>(EJ op (s.ev x)).map λv=>(.v v,.keep)
 | .cvi k x=>match s.ev x with
  | .v (.int _ n)=>some (.v (.int k (k.wrap n)),.keep)
  | _=>none
 | .fa off x=>match s.ev x with
  | .ia cs=>some (.ia (cs.drop off),.keep)
  | .pt id o=>some (.pt id (o+off),.keep)
  | _=>none
 | .fld off k x=>match s.ev x with
  | .agg cs=>(Jc k (cs.drop off)).map λd=>(d,.keep)
  | _=>none
 | .ia es x i=>match Mx (s.ev i),s.ev x with
  | some j,.sl cs n=>if 0<=j/\j<n then some (.ia (cs.drop (j.toNat*es)),.keep) else none
  | some j,.ms id off n _=>if 0<=j/\j<n then some (.pt id (off+j.toNat*es),.keep) else none
  | _,_=>none
 | .ixs x i=>match Mx (s.ev i),s.ev x with
  | some j,.v (.string b)=>if 0<=j then (b[j.toNat]?).map λc=>(.v (.int .u8 (c.toNat:Int)),.keep) else none
  | _,_=>none
 | .sli es x lo hi=>match s.ev x with
  | .sl cs n=>match Kt s 0 lo,Kt s n hi with
   | some l,some h=>if 0<=l/\l<=h/\h<=n then some (.sl ((cs.drop (l.toNat*es)).take ((h.toNat-l.toNat)*es)) (h.toNat-l.toNat),.keep) else none
   | _,_=>none
  | .ms id off n es'=>match Kt s 0 lo,Kt s n hi with
   | some l,some h=>if es'=es/\0<=l/\l<=h/\h<=n then some (if l<h\/l=0 then .ms id (off+l.toNat*es) (h.toNat-l.toNat) es else .sl [] 0,.keep) else none
   | _,_=>none
  | .v (.slice none 0 0)=>match Kt s 0 lo,Kt s 0 hi with
   | some l,some h=>if l=0/\h=0 then some (.v (.slice none 0 0),.keep) else none
   | _,_=>none
  | _=>none
 | .len x=>match s.ev x with
  | .sl _ n=>some (.v (.int .i64 n),.keep)
  | .ms _ _ n _=>some (.v (.int .i64 n),.keep)
  | .v (.slice none n _)=>some (.v (.int .i64 n),.keep)
  | _=>none
 | .lns x=>match s.ev x with
  | .v (.string b)=>some (.v (.int .i64 b.size),.keep)
  | _=>none
 | .app T es bytes d x=>match dstD s T es (s.ev d),srcD s T es (s.ev x) with
  | some (Iy,cs,n),some (news,m)=>if news.length=m*es/\0<es/\n+m<=2147483648/\bytes<=65536 then
    some (.ms nid 0 (n+m) es,.mv Iy (.row T (cs++news))) else none
  | _,_=>none
 | .mks T es bytes z l c=>match Mx (s.ev l),Mx (s.ev c) with
  | some l,some c=>if 0<=l/\l<=c/\c<=2147483648/\bytes<=65536/\z.length=es/\0<es then
    some (.ms nid 0 l.toNat es,.lay (.row T ((List.replicate l.toNat (z.map .v)).flatten))) else none
  | _,_=>none
 | .mkf f fst cap=>some (.fn f (.tup (fst.map s.ev)::cap.map s.ev),.keep)
 | .ext x i=>match rM (s.rv x) i with
  | some v=>some (.v v,.keep)
  | none=>match s.ev x with
   | .tup ds=>(ds[i]?).map λd=>(d,.keep)
   | _=>none
 | .mm mx x y=>match s.ev x,s.ev y with
  | .v (.int k a),.v (.int _ b)=>some (.v (.int k (if mx then (if b>a then b else a) else (if b<a then b else a))),.keep)
  | _,_=>none
 | .mkm=>some (.mp nid,.lay (.mapo 0 []))
 | .lkp kd z x k ok=>match Ya (s.ev k) with
  | some kv=>if nN kd kv=true then (match s.ev x with
    | .v (.map none)=>some (Io ok (.v z) false,.keep)
    | .mp id=>match s.ho id with
     | some (.mapo _ es)=>match findD kd kv es 0 with
      | some (some p)=>some (Io ok p.2.v true,.keep)
      | some none=>some (Io ok (.v z) false,.keep)
      | none=>none
     | _=>none
    | _=>none) else none
  | none=>none
 | .mup kd x k y=>match Ya (s.ev k) with
  | some kv=>if nN kd kv=true then (match s.ev x with
    | .mp id=>match s.ho id with
     | some (.mapo ck es)=>match Qm kd kv (s.ev y) ck es with
      | some p=>some (.any,.wr id (.mapo p.1 p.2))
      | none=>none
     | _=>none
    | _=>none) else none
  | none=>none
 | .rgs x=>match s.ev x with
  | .v (.string b)=>some (.pt nid 0,.lay (.siter b 0))
  | _=>none
 | .nxs x=>match s.ev x with
  | .pt id 0=>match s.ho id with
   | some (.siter t pos)=>if pos<t.size then some (.tup [.v (.bool true),.v (.int .i64 (pos:Nat)),.v (.int .i32 ((Utf8.decode t pos).1:Nat))],.wr id (.siter t (pos+(Utf8.decode t pos).2))) else some (.tup [.v (.bool false)],.keep)
   | _=>none
  | _=>none
 | .cpy es x y=>match s.ev x,bJ s es (s.ev y) with
  | .ms id off n es',some (news,m)=>match s.ho id with
   | some (.row T cs)=>if es'=es/\0<n/\off+n*es<=cs.length/\news.length=m*es then
     some (.v (.int .i64 (min m n:Nat)),.wr id (.row T (cs.take off++news.take (min m n*es)++cs.drop (off+min m n*es)))) else none
   | _=>none
  | _,_=>none
 | .fx n es x i=>match Mx (s.ev i),s.ev x with
  | some j,.pt id off=>if 0<=j/\j<n then some (.pt id (off+j.toNat*es),.keep) else none
  | some j,.ia cs=>if 0<=j/\j<n then some (.ia (cs.drop (j.toNat*es)),.keep) else none
  | _,_=>none
 | .b2s x=>match bJ s 1 (s.ev x) with
  | some (news,m)=>if news.length=m then (yG news).map λns=>(.v (.string (strOfNums ns)),.keep) else none
  | none=>none
 | .s2b x=>match s.ev x with
  | .v (.string b)=>some (.sl (b.data.toList.map λc=>.v (.int .u8 (c.toNat:Int))) b.size,.keep)
  | _=>none
 | .lnm x=>match s.ev x with
  | .v (.map none)=>some (.v (.int .i64 0),.keep)
  | .mp id=>match s.ho id with
   | some (.mapo _ es)=>some (.v (.int .i64 es.length),.keep)
   | _=>none
  | _=>none
 | _=>none
def oT(_:DS)(_:Bool)(_:Operand):Option (List (DV×Upd)):=none
def exec(s:DS)(op:DOp):Option (DV×DS):=
 match Bb s.nx s op with
 | some (d,u)=>some (d,{ s.upd s.nx u with nx:=if u.new then s.nx+1 else s.nx })
 | none=>none
end Go.DD

/- Each operation on deep values is what the model's operation does (first part: no memory is made). -/
namespace Go.DD
open Go.RowKit (Below)
section inv
variable {P : Program} {w : World} {al : Nat -> Prop} {β : Nat -> Option Nat} {x : Value}
theorem El{y : Value}(h : Rel P w al β x (.v y)) : x = y := by
  cases h with
  | imm _ _ h => cases h;rfl
theorem SA{cs : List DV}(h : Rel P w al β x (.agg cs)) : ∃ vs : List Value, x = .agg vs.toArray /\ vs.length = cs.length /\ (∀ u ∈ vs, u.oneCell' = true) /\
    ∀ (j : Nat) (u : Value) (d : DV), vs[j]? = some u -> cs[j]? = some d -> Rel P w al β u d := by
  cases h with
  | imm _ _ h => cases h with
    | agg vs cs hl ho h => exact ⟨vs, rfl, hl, ho, λj u d hu hd => .imm _ _ (h j u d hu hd)⟩
  | agg vs cs hl ho h => exact ⟨vs, rfl, hl, ho, h⟩
theorem Bc8{cs : List DV}(h : Rel P w al β x (.tup cs)) : ∃ vs : List Value, x = .tuple vs.toArray /\ vs.length = cs.length /\
    ∀ (j : Nat) (u : Value) (d : DV), vs[j]? = some u -> cs[j]? = some d -> Rel P w al β u d := by
  cases h with
  | imm _ _ h => cases h with
    | tup vs cs hl h => exact ⟨vs, rfl, hl, λj u d hu hd => .imm _ _ (h j u d hu hd)⟩
  | tup vs cs hl h => exact ⟨vs, rfl, hl, h⟩
theorem TG{f : Fn}{cs : List DV}(h : Rel P w al β x (.fn f cs)) : ∃ us vs : List Value, x = .func f us.toArray vs.toArray /\ (Value.tuple us.toArray::vs).length = cs.length /\
    ∀ (j : Nat) (u : Value) (d : DV), (Value.tuple us.toArray::vs)[j]? = some u -> cs[j]? = some d -> Rel P w al β u d := by
  cases h with
  | imm _ _ h => cases h with
    | fn _ us vs cs hl h => exact ⟨us, vs, rfl, hl, λj u d hu hd => .imm _ _ (h j u d hu hd)⟩
  | fn _ us vs cs hl h => exact ⟨us, vs, rfl, hl, h⟩
theorem Bc9{f : Fn}{fs cs : List DV}(h : Rel P w al β x (.fn f (.tup fs::cs))) : ∃ us vs : List Value, x = .func f us.toArray vs.toArray /\ us.length = fs.length /\ vs.length = cs.length /\
    (∀ (j : Nat) (u : Value) (d : DV), us[j]? = some u -> fs[j]? = some d -> Rel P w al β u d) /\ ∀ (j : Nat) (u : Value) (d : DV), vs[j]? = some u -> cs[j]? = some d -> Rel P w al β u d := by
  obtain ⟨us, vs, rfl, hl, hr⟩ := TG h
  obtain ⟨us', e, Yf, jS⟩ := Bc8 (hr 0 _ _ rfl rfl)
  simp only [Value.tuple.injEq] at e
  have e' : us = us' := by simpa using Rh Array.toList e
  subst e'
  exact ⟨us, vs, rfl, Yf, by simpa using hl, jS, λj u d hu hd => hr (j + 1) u d (by simpa using hu) (by simpa using hd)⟩
theorem XM{W : Value -> DV -> Prop}{a b : List Value}{c d : List DV}(hl : a.length = c.length)(h1 : ∀ (j : Nat) (v : Value) (e : DV), a[j]? = some v -> c[j]? = some e -> W v e)
    (h2 : ∀ (j : Nat) (v : Value) (e : DV), b[j]? = some v -> d[j]? = some e -> W v e) (j : Nat) (v : Value) (e : DV) (hv : (a++b)[j]? = some v) (he : (c++d)[j]? = some e) : W v e := by
  rw [Hc] at hv he
  by_cases hj : j<a.length
  . rw [Ah hj] at hv;rw [Ah (by omega)] at he;exact h1 j v e hv he
  . rw [Ae hj] at hv;rw [Ae (by omega)] at he;rw [hl] at hv;exact h2 _ v e hv he
theorem BY{T : TypeId}{d : DV}(h : Rel P w al β x (.ifc T d)) : ∃ u, x = .iface T u /\ Rel P w al β u d := by
  cases h with
  | imm _ _ h => cases h with
    | ifc _ u _ h => exact ⟨u, rfl, .imm _ _ h⟩
  | ifc _ u _ h => exact ⟨u, rfl, h⟩
theorem DJ{cs : List DV}(h : Rel P w al β x (.ia cs)) : ∃ (ad : Addr) (us : List Value), x = .pointer (some ad) /\ us.length = cs.length /\ al ad.block /\ (∀ u ∈ us, u.oneCell' = true) /\
    (∀ (j : Nat) (u : Value), us[j]? = some u -> w.cell? (ad.add j) = some u) /\ ∀ (j : Nat) (u : Value) (d : DV), us[j]? = some u -> cs[j]? = some d -> RelI w al u d := by
  cases h with
  | imm _ _ h => cases h with
    | ia ad us cs hl ha ho hc h => exact ⟨ad, us, rfl, hl, ha, ho, hc, h⟩
theorem DI{cs : List DV}{n : Nat}(h : Rel P w al β x (.sl cs n)) : (∃ a cap, x = .slice a 0 cap /\ cs = [] /\ n = 0) \/
    ∃ (ad : Addr) (cap : Nat) (us : List Value), x = .slice (some ad) n cap /\ us.length = cs.length /\ n <= cap /\ al ad.block /\ (∀ u ∈ us, u.oneCell' = true) /\
    (∀ (j : Nat) (u : Value), us[j]? = some u -> w.cell? (ad.add j) = some u) /\ ∀ (j : Nat) (u : Value) (d : DV), us[j]? = some u -> cs[j]? = some d -> RelI w al u d := by
  cases h with
  | imm _ _ h => cases h with
    | sl0 a cap => exact .inl ⟨a, cap, rfl, rfl, rfl⟩
    | sl ad n cap us cs hl hn ha ho hc h => exact .inr ⟨ad, cap, us, rfl, hl, hn, ha, ho, hc, h⟩
theorem I6{id off n es : Nat}(h : Rel P w al β x (.ms id off n es)) : (x = .slice none 0 0 /\ off = 0 /\ n = 0) \/
    ∃ (b cap : Nat) (c : Array Value) (T : TypeId), x = .slice (some ⟨b, off, none⟩) n cap /\ β id = some b /\ w.heap[b]? = some (.cells c T (0, 0)) /\ n <= cap /\ cap <= maxLen /\ off + cap * es = c.size := by
  cases h with
  | imm _ _ h => cases h
  | ms0 id es => exact .inl ⟨rfl, rfl, rfl⟩
  | ms id off n es b cap c T hβ hw hn hm Tz => exact .inr ⟨b, cap, c, T, rfl, hβ, hw, hn, hm, Tz⟩
theorem tE{id off : Nat}(h : Rel P w al β x (.pt id off)) : ∃ b, x = .pointer (some ⟨b, off, none⟩) /\ β id = some b := by
  cases h with
  | imm _ _ h => cases h
  | pt id off b hβ => exact ⟨b, rfl, hβ⟩
theorem TF{id : Nat}(h : Rel P w al β x (.mp id)) : ∃ b, x = .map (some b) /\ β id = some b := by
  cases h with
  | imm _ _ h => cases h
  | mp id b hβ => exact ⟨b, rfl, hβ⟩
theorem XL{id : Nat}(h : Rel P w al β x (.yl id)) : ∃ b, x = .func (.yield b) #[] #[] /\ β id = some b := by
  cases h with
  | imm _ _ h => cases h
  | yl id b hβ => exact ⟨b, rfl, hβ⟩
theorem ZN : Rel P w al β x .any := .imm _ _ (.any x)
end inv
theorem Cj6{P : Program}{w : World}{al : Nat -> Prop}{β : Nat -> Option Nat}(x : Value) : Rel P w al β x (aC x) := by
  cases x with
  | agg cs =>
    simp only [aC]
    split
    . rename_i h
      obtain ⟨l⟩ := cs
      refine .imm _ _ (.agg l (l.map .v) (by simp) (by simpa using h) λj u d hu hd => ?_)
      simp only [Df, hu, Cb, Eg] at hd
      subst hd
      exact .v u
    . exact ZN
  | tuple vs => exact ZN
  | _ => exact .imm _ _ (.v _)
theorem Cj7(l : List Value) : DV.refsL (l.map .v) = [] := by induction l <;> simp_all [DV.refsL, DV.refs]
theorem Bg1(g : Nat) : (BE g).refs = [] := by
  unfold BE
  split <;> simp [DV.refs]
theorem Bg2(x : Value) : (aC x).refs = [] := by
  cases x with
  | agg cs => simp only [aC];split <;> simp [DV.refs, Cj7]
  | _ => simp [aC, DV.refs]
theorem HoldsB.eva{s : DS}(x : Operand) : ∀ id ∈ (s.ev x).refs, (s.ho id).isSome = true := by
  cases x with
  | tmp t =>
    simp only [DS.ev]
    split
    . rename_i h;exact λid hi => Ay.1 h id hi
    . intro id hi;simp [DV.refs] at hi
  | const x => intro id hi;simp only [DS.ev] at hi;rw [Bg2] at hi;cases hi
  | func f => intro id hi;simp [DS.ev, DV.refs, DV.refsL] at hi
  | global g => intro id hi;simp only [DS.ev] at hi;rw [Bg1] at hi;cases hi
theorem HoldsB.ev{C : Ctx}{U : Nat -> Prop}{s : DS}{β : Nat -> Option Nat}{a : Act}{w : World}(h : HoldsB C U s β a w)(x : Operand) : Rel C.P w (Sc C w β) β (a.eval x) (s.ev x) := by
  cases x with
  | tmp t =>
    simp only [DS.ev]
    split
    . rename_i hl;exact (h.sl t).2.1 λid hi => sK (Ay.1 hl id hi)
    . exact ZN
  | const x => exact Cj6 x
  | func f =>
    refine .imm _ _ (.fn (.func f) [] [] [.tup []] rfl λj u d hu hd => ?_)
    cases j with
    | zero => cases hu;cases hd;exact .tup [] [] rfl λj u d hu _ => by simp at hu
    | succ j => simp at hu
  | global g =>
    show Rel _ _ _ _ _ (BE g)
    unfold BE
    split
    . rename_i cs hg
      exact (h.gh (.pointer (some ⟨g, 0, none⟩)) (.ia (cs.map .v)) (.inr ⟨g, cs, hg, rfl, rfl⟩)).2.1 λid hi => (by simp [DV.refs] at hi)
    . exact ZN
theorem HoldsB.evw{C : Ctx}{U : Nat -> Prop}{s : DS}{β : Nat -> Option Nat}{a : Act}{w : World}(h : HoldsB C U s β a w)(x : Operand) : WV C U (s.vw C) β w (a.eval x) (s.ev x) :=
  h.hh.wv (h.ev x) λid hi => sK (HoldsB.eva x id hi)
theorem HoldsB.rvw{C : Ctx}{U : Nat -> Prop}{s : DS}{β : Nat -> Option Nat}{a : Act}{w : World}(h : HoldsB C U s β a w)(x : Operand) : WV C U (s.vw C) β w (a.eval x) (s.rv x) := by
  cases x with
  | tmp t => exact h.sl t
  | _ => exact h.evw _
theorem HoldsB.evp{C : Ctx}{U : Nat -> Prop}{s : DS}{β : Nat -> Option Nat}{a : Act}{w : World}(h : HoldsB C U s β a w)(x : Operand){u : Value}{d : DV}(hr : Rel C.P w (Sc C w β) β u d)(hd : ∀ id ∈ d.refs, id ∈ (s.ev x).refs) : WV C U (s.vw C) β w u d :=
  h.hh.wv hr λid hi => sK (HoldsB.eva x id (hd id hi))
def Un(U : Nat -> Prop)(nid id : Nat) : Prop := U id \/ id = nid
def OpOk(C : Ctx)(U : Nat -> Prop)(a : Act)(w : World)(o : Oper)(d : DV)(s' : DS) : Prop :=
  ∃ nx w' β' x, (execOp a.eval o).run C.P w = .ok nx w' /\ (nx = .value x \/ (nx = .skip /\ x = undef)) /\ HoldsB C U s' β' a w' /\ WV C U (s'.vw C) β' w' x d
theorem WV.grow{C : Ctx}{U U' : Nat -> Prop}{V : Nat -> Option DObj}{β : Nat -> Option Nat}{w : World}{x : Value}{d : DV}(h : WV C U V β w x d)(hU : ∀ id, U id -> U' id) : WV C U' V β w x d := ⟨λid hi => hU id (h.1 id hi), h.2⟩
theorem OpOk.same{C : Ctx}{U : Nat -> Prop}{s : DS}{β : Nat -> Option Nat}{a : Act}{w : World}{o : Oper}{d : DV}(h : HoldsB C U s β a w){x : Value}
    (hr : (execOp a.eval o).run C.P w = .ok (.value x) w) (hx : WV C U (s.vw C) β w x d) : OpOk C U a w o d s :=
  ⟨_, w, β, x, hr, .inl rfl, h, hx⟩
def Ux(U : Nat -> Prop)(nid : Nat) : Upd -> Nat -> Prop
  | .lay _ => Un U nid
  | .mv _ _ => Un U nid
  | _ => U
section ops
variable {C : Ctx} {U : Nat -> Prop} {s : DS} {β : Nat -> Option Nat} {a : Act} {w : World} {o : Oper} {d : DV} {s' : DS} {nid : Nat}
theorem mR{P : Program}{al : Nat -> Prop}{x : Value}{d : DV}(h : Rel P w al β x d)(ho : d.okC = true) :
    x.cells.size = d.cells.length /\ (∀ u ∈ x.cells.toList, u.oneCell' = true) /\ ∀ (j : Nat) (u : Value) (e : DV), x.cells[j]? = some u -> d.cells[j]? = some e -> Rel P w al β u e := by
  have one : ∀ (x : Value) (d : DV), x.oneCell' = true -> d.cells = [d] -> Rel P w al β x d -> x.cells.size = d.cells.length /\ (∀ u ∈ x.cells.toList, u.oneCell' = true) /\ ∀ (j : Nat) (u : Value) (e : DV), x.cells[j]? = some u -> d.cells[j]? = some e -> Rel P w al β u e := by
    intro x d hx hd hr
    have hc : x.cells = #[x] := by cases x <;> first | rfl | (simp [Value.oneCell'] at hx)
    rw [hc, hd]
    refine ⟨rfl, by simpa using hx, λj u e hu he => ?_⟩
    cases j with
    | zero => simp at hu he;subst hu he;exact hr
    | succ j => simp at hu
  cases d with
  | agg cs =>
    obtain ⟨vs, rfl, hl, h1, h2⟩ := SA h
    refine ⟨by simpa [Value.cells, DV.cells] using hl, by simpa [Value.cells] using h1, λj u e hu he => h2 j u e (by simpa [Value.cells] using hu) he⟩
  | v y => have := El h;subst this;exact one _ _ ho rfl h
  | tup cs => cases ho
  | any => cases ho
  | sl cs n => rcases DI h with ⟨a, cap, rfl, _, _⟩ | ⟨ad, cap, us, rfl, _⟩ <;> exact one _ _ rfl rfl h
  | ia cs => obtain ⟨ad, us, rfl, _⟩ := DJ h;exact one _ _ rfl rfl h
  | fn f cs => obtain ⟨us, vs, rfl, _⟩ := TG h;exact one _ _ rfl rfl h
  | ms id off n es => rcases I6 h with ⟨rfl, _⟩ | ⟨b, cap, c, T, rfl, _⟩ <;> exact one _ _ rfl rfl h
  | pt id off => obtain ⟨b, rfl, _⟩ := tE h;exact one _ _ rfl rfl h
  | mp id => obtain ⟨b, rfl, _⟩ := TF h;exact one _ _ rfl rfl h
  | yl id => obtain ⟨b, rfl, _⟩ := XL h;exact one _ _ rfl rfl h
  | ifc T d => obtain ⟨u, rfl, _⟩ := BY h;exact one _ _ rfl rfl h
theorem Bn3{d e : DV}(h : e ∈ d.cells) : ∀ id ∈ e.refs, id ∈ d.refs := by
  intro id hi
  cases d <;> simp only [DV.cells, Bk] at h <;> first | (subst h;exact hi) | (rw [DV.refs];exact DV.refsL_mem h hi)
theorem HoldsB.cells(hs : HoldsB C U s β a w)(x : Operand)(ho : (s.ev x).okC = true) :
    (a.eval x).cells.size = (s.ev x).cells.length /\ (∀ u ∈ (a.eval x).cells.toList, u.oneCell' = true) /\ ∀ (j : Nat) (u : Value) (e : DV), (a.eval x).cells[j]? = some u -> (s.ev x).cells[j]? = some e -> WV C U (s.vw C) β w u e := by
  obtain ⟨h1, h2, h3⟩ := mR (hs.ev x) ho
  exact ⟨h1, h2, λj u e hu he => hs.evp x (h3 j u e hu he) (Bn3 (Aw he))⟩
theorem Ap8{P : Program}{t : TypeId}{n : Nat}(h : Oz P t = some (some n))(w : World) : (isAgg t).run P w = .ok true w /\ (sizeOf t).run P w = .ok n w /\ ∃ i, P.info? t = some i /\ i.size = n := by
  unfold Oz at h
  split at h
  . rename_i hu hi
    simp at h
    exact ⟨by simp [isAgg, run_underlying hu], by simp [sizeOf, typeInfo, hi, h], _, hi, h⟩
  . rename_i hu hi
    simp at h
    exact ⟨by simp [isAgg, run_underlying hu], by simp [sizeOf, typeInfo, hi, h], _, hi, h⟩
  . rename_i d i B5 bC hu hi
    split at h <;> simp at h
  . simp at h
theorem YR{P : Program}{t : TypeId}(h : Oz P t = some none)(w : World) : (isAgg t).run P w = .ok false w /\ (sizeOf t).run P w = .ok 1 w /\ ∃ i, P.info? t = some i /\ i.size = 1 := by
  unfold Oz at h
  split at h
  . simp at h
  . simp at h
  . rename_i d i B5 bC hu hi
    split at h
    . rename_i hs
      refine ⟨?_, by simp [sizeOf, typeInfo, hi, hs], _, hi, hs⟩
      simp only [isAgg, Sem.run_bind, run_underlying hu, Result.andThen_ok]
      cases d <;> first | rfl | (exfalso;first | exact B5 _ _ hu hi | exact bC _ _ _ hu hi)
    . simp at h
  . simp at h
theorem Cr3(op : BinOp)(t : TypeId)(x y : Operand){v : Value}(h : Lw op (s.ev x) (s.ev y) = some v)(hs : HoldsB C U s β a w) :
    (eqGuard op t x y (a.eval x) (a.eval y)).run C.P w = .ok () w /\ (binOp op t (a.eval x) (a.eval y)).run C.P w = .ok v w := by
  have hx := hs.ev x
  have hy := hs.ev y
  unfold Lw at h
  split at h
  . rename_i k p k' q ex ey
    rw [ex] at hx;rw [ey] at hy
    rw [El hx, El hy]
    refine ⟨by unfold eqGuard;split <;> rfl, ?_⟩
    split at h
    . rename_i LM
      unfold nB at h
      split at h
      . cases h
      . rename_i hq
        cases op <;> simp [Nh] at LM <;> simp at h <;> subst h <;> simp [binOp, Op.shift, hq]
    . rename_i LM
      split at h
      . rename_i hk
        subst hk
        cases op <;> simp [Mq, Nh] at h LM <;> first | (subst h;simp [binOp, Op.intArith, Op.intBits, Op.intCmp];done) | (obtain ⟨hq, rfl⟩ := h;simp [binOp, Op.intDiv, hq])
      . cases h
  . rename_i p q ex ey
    rw [ex] at hx;rw [ey] at hy
    rw [El hx, El hy]
    refine ⟨by unfold eqGuard;split <;> rfl, ?_⟩
    cases op <;> simp [eC] at h <;> first | (subst h;simp [binOp, Op.stringOp];done) | (obtain ⟨hq, rfl⟩ := h;simp [binOp, Op.stringOp, IntKind.max, IntKind.bits, IntKind.signed];omega)
  . cases h
theorem xZ{x : Operand}(ho : o.op = .move x \/ o.op = .assign x)(hs : HoldsB C U s β a w) : OpOk C U a w o (s.rv x) s :=
  .same hs (by rcases ho with ho | ho <;> simp [execOp, ho]) (hs.rvw x)
theorem Cj8{c x y : Operand}{t : Bool}(ho : o.op = .pick c x y)(hs : HoldsB C U s β a w)(hc : s.ev c = .v (.bool t)) : OpOk C U a w o (if t then s.rv x else s.rv y) s := by
  have h1 := hs.ev c
  rw [hc] at h1
  refine .same hs (x := if t then a.eval x else a.eval y) ?_ ?_
  . simp [execOp, ho, El h1, asBool]
  . cases t
    . exact hs.rvw y
    . exact hs.rvw x
theorem Cr4{op : BinOp}{t yt : TypeId}{x y : Operand}{v : Value}(ho : o.op = .binOp op t x y yt)(hs : HoldsB C U s β a w)(h : Lw op (s.ev x) (s.ev y) = some v) :
    OpOk C U a w o (.v v) s := by
  obtain ⟨h1, h2⟩ := Cr3 op t x y h hs
  exact .same hs (by simp [execOp, ho, h1, h2]) (WV.v v)
theorem IS{neg : Bool}{op : BinOp}(My : op = if neg then .neq else .eql){t yt : TypeId}{x y : Operand}{p q : Bool}(ho : o.op = .binOp op t x y yt)(ht : C.P.underlying t = some .bool)
    (hs : HoldsB C U s β a w) (hx : s.ev x = .v (.bool p)) (hy : s.ev y = .v (.bool q)) : OpOk C U a w o (.v (.bool (xor neg (p==q)))) s := by
  have h1 := hs.ev x
  have h2 := hs.ev y
  rw [hx] at h1;rw [hy] at h2
  refine .same hs ?_ (WV.v _)
  have he := λd => run_equalIn_bool' w d t p q ht
  subst My
  cases neg <;> simp [execOp, ho, El h1, El h2, eqGuard, binOp, Op.equal, Op.maxDepth, he]
theorem Bq1{P : Program}{al : Nat -> Prop}(d : Nat) : ∀ (fs : List Field) (ks : List Nat) (off : Nat) (xs ys : List Value) (cs ds : List DV) (r : Bool), sI P off fs = some ks -> Qu ks (cs.drop off) (ds.drop off) = some r ->
    xs.length = cs.length -> ys.length = ds.length ->
    (∀ (j : Nat) (u : Value) (d : DV), xs[j]? = some u -> cs[j]? = some d -> Rel P w al β u d) -> (∀ (j : Nat) (u : Value) (d : DV), ys[j]? = some u -> ds[j]? = some d -> Rel P w al β u d) ->
    (Op.eqFields (d + 1) xs.toArray ys.toArray fs).run P w = .ok r w
  | [], ks, off, xs, ys, cs, ds, r, hk, h, _, _, _, _ => by
    simp [sI] at hk
    subst hk
    unfold Qu at h
    split at h <;> simp_all [Op.eqFields]
  | f::fs, ks, off, xs, ys, cs, ds, r, hf, h, hx, hy, rx, ry => by
    simp only [sI] at hf
    split at hf
    rotate_left
    . cases hf
    rename_i MO
    simp only [Bq, bne_iff_ne, ne_eq, Gl] at MO
    obtain ⟨hn, ho⟩ := MO
    obtain ⟨k, hp, hf⟩ := Bg.1 hf
    obtain ⟨ko, Zc, rfl⟩ := Ag.1 hf
    have hc : off<cs.length := by
      rcases Cj off cs.length with h1 | h1
      . exact h1
      . rw [Av h1] at h;simp [Qu] at h
    have hd : off<ds.length := by
      rcases Cj off ds.length with h1 | h1
      . exact h1
      . rw [Av h1] at h;simp [Qu] at h
    have hxo : off<xs.length := by omega
    have KX : off<ys.length := by omega
    rw [As hc, As hd] at h
    have h1 := rx off xs[off] cs[off] (Aa hxo) (Aa hc)
    have h2 := ry off ys[off] ds[off] (Aa KX) (Aa hd)
    have OO : (isAgg f.type).run P w = .ok false w := by
      unfold tI at hp
      simp only [isAgg, Sem.run_bind]
      split at hp <;> first | (rename_i hu;rw [run_underlying hu];rfl) | cases hp
    have px : (part f.type xs.toArray f.offset).run P w = .ok xs[off] w := by
      subst ho
      simp [part, OO, hxo]
    have py : (part f.type ys.toArray f.offset).run P w = .ok ys[off] w := by
      subst ho
      simp [part, OO, KX]
    have step : ∀ b : Bool, iQ k cs[off] ds[off] = some b -> (Op.equalIn (d + 1) f.type xs[off] ys[off]).run P w = .ok b w := by
      intro b hb
      generalize cs[off] = c at *
      generalize ds[off] = e at *
      unfold tI at hp
      unfold iQ at hb
      split at hb
      . rw [El h1, El h2]
        split at hb
        . cases hb
          rename_i hk
          subst hk
          split at hp <;> cases hp
          rename_i hu;exact run_equalIn_int w d _ _ _ _ _ hu
        . cases hb
      . rw [El h1, El h2]
        cases hb
        split at hp <;> cases hp
        rename_i hu;exact run_equalIn_bool' w d _ _ _ hu
      . rw [El h1, El h2]
        cases hb
        split at hp <;> cases hp
        rename_i hu;exact run_equalIn_string w d _ _ _ hu
      . cases hb
    have ih := Bq1 (P := P) (al := al) d fs ko (off + 1) xs ys cs ds
    simp only [Op.eqFields]
    rw [Ah hn]
    simp only [Sem.run_bind, px, py, Result.andThen_ok]
    simp only [Qu] at h
    cases hq : iQ k cs[off] ds[off] with
    | none => rw [hq] at h;cases h
    | some b =>
      rw [hq] at h
      rw [step b hq]
      cases b
      . simp at h;subst h;simp
      . simp only [Result.andThen_ok]
        simpa using ih r Zc h hx hy rx ry
theorem Cr5{neg : Bool}{op : BinOp}(My : op = if neg then .neq else .eql){t yt : TypeId}{x y : Operand}{fs : Array Field}{ks : List Nat}{xs ys : List DV}{r : Bool}(ho : o.op = .binOp op t x y yt)
    (ht : C.P.underlying t = some (.struct fs)) (hg : C.P.eqGuardType C.P.depth t = false) (hh : C.P.stoodInHeld t = false) (hk : sI C.P 0 fs.toList = some ks)
    (hs : HoldsB C U s β a w) (hx : s.ev x = .agg xs) (hy : s.ev y = .agg ys) (hr : Qu ks xs ys = some r) : OpOk C U a w o (.v (.bool (xor neg r))) s := by
  have h1 := hs.ev x
  have h2 := hs.ev y
  rw [hx] at h1;rw [hy] at h2
  obtain ⟨us, e1, l1, _, r1⟩ := SA h1
  obtain ⟨vs, e2, l2, _, r2⟩ := SA h2
  have hf : C.P.fieldsOf t = fs := by simp [Program.fieldsOf, ht]
  have he := Bq1 (w := w) (β := β) (P := C.P) 9998 fs.toList ks 0 us vs xs ys r hk (by simpa using hr) l1 l2 r1 r2
  have nI : (Op.equalIn 10000 t (.agg us.toArray) (.agg vs.toArray)).run C.P w = .ok r w := by
    have h3 := run_equalIn_struct (P := C.P) w 9999 t us.toArray vs.toArray (by rw [hf];exact ht) hh
    rw [hf] at h3
    exact h3.trans he
  refine .same hs ?_ (WV.v _)
  cases neg
  . simp only [Mi, Ph] at My
    subst My
    have C7 := run_eqGuard_agg (P := C.P) w .eql t x y us.toArray vs.toArray hg
    simp [execOp, ho, e1, e2, C7, run_eql_struct, nI]
  . simp only [Ip] at My
    subst My
    have C7 := run_eqGuard_agg (P := C.P) w .neq t x y us.toArray vs.toArray hg
    simp [execOp, ho, e1, e2, C7, run_neq_struct, nI]
def Qn(k : Nat)(x : Value) : Prop :=
  match k with
  | 0 => ∃ n c, x = .slice none n c
  | 1 => x = .pointer none
  | 2 => x = .map none
  | 3 => x = .nilFunc
  | _ => x = .nilIface
def La(k : Nat)(x : Value) : Prop :=
  match k with
  | 0 => ∃ ad n c, x = .slice (some ad) n c
  | 1 => ∃ ad, x = .pointer (some ad)
  | 2 => ∃ r, x = .map (some r)
  | 3 => ∃ f p q, x = .func f p q
  | _ => ∃ T y, x = .iface T y
def uI(P : Program)(k : Nat)(t : TypeId) : Prop :=
  match k with
  | 0 => ∃ e, P.underlying t = some (.slice e)
  | 1 => ∃ e, P.underlying t = some (.pointer e)
  | 2 => ∃ e f, P.underlying t = some (.map e f)
  | 3 => ∃ e f g, P.underlying t = some (.func e f g)
  | _ => ∃ e, P.underlying t = some (.interface e)
theorem Bg3{P : Program}{al : Nat -> Prop}{x : Value}{d : DV}{k : Nat}{b : Bool}(h : Rel P w al β x d)(hn : isNil k d = some b) :
    (b = true -> Qn k x) /\ (b = false -> La k x) := by
  unfold isNil at hn
  split at hn
  . cases hn;have := El h;subst this;simp [Qn]
  . cases hn;have := El h;subst this;simp [La]
  . split at hn <;> cases hn
    rcases DI h with ⟨_, _, _, _, h1⟩ | ⟨ad, cap, us, rfl, _⟩
    . omega
    . simp [La]
  . split at hn <;> cases hn
    rcases I6 h with ⟨_, _, h1⟩ | ⟨b, cap, c, T, rfl, _⟩
    . omega
    . simp [La]
  . cases hn;have := El h;subst this;simp [Qn]
  . cases hn;obtain ⟨ad, us, rfl, _⟩ := DJ h;simp [La]
  . cases hn;obtain ⟨b, rfl, _⟩ := tE h;simp [La]
  . cases hn;have := El h;subst this;simp [Qn]
  . cases hn;obtain ⟨b, rfl, _⟩ := TF h;simp [La]
  . cases hn;have := El h;subst this;simp [Qn]
  . cases hn;obtain ⟨us, vs, rfl, _⟩ := TG h;simp [La]
  . cases hn;have := El h;subst this;simp [Qn]
  . cases hn;obtain ⟨u, rfl, _⟩ := BY h;simp [La]
  . cases hn
theorem B33{k : Nat}{d : DV}{b : Bool}(hn : isNil k d = some b) : k<5 := by
  unfold isNil at hn
  split at hn <;> first | omega | cases hn
theorem Aw7{P : Program}{k : Nat}{t : TypeId}{x y : Value}{b : Bool}(hk : k<5)(ht : uI P k t)(hx : Qn k x)(hy : (b = true -> Qn k y) /\ (b = false -> La k y))(d : Nat) :
    (Op.equalIn (d + 1) t x y).run P w = .ok b w := by
  obtain rfl | rfl | rfl | rfl | rfl : k = 0 \/ k = 1 \/ k = 2 \/ k = 3 \/ k = 4 := by omega
  . obtain ⟨e, ht⟩ := ht
    obtain ⟨n, c, rfl⟩ := hx
    cases b
    . obtain ⟨ad, n', c', rfl⟩ := hy.2 rfl;simp [Op.equalIn, run_underlying ht]
    . obtain ⟨n', c', rfl⟩ := hy.1 rfl;simp [Op.equalIn, run_underlying ht]
  . obtain ⟨e, ht⟩ := ht
    obtain rfl := hx
    cases b
    . obtain ⟨ad, rfl⟩ := hy.2 rfl;simp [Op.equalIn, run_underlying ht]
    . obtain rfl := hy.1 rfl;simp [Op.equalIn, run_underlying ht]
  . obtain ⟨e, f, ht⟩ := ht
    obtain rfl := hx
    cases b
    . obtain ⟨ad, rfl⟩ := hy.2 rfl;simp [Op.equalIn, run_underlying ht]
    . obtain rfl := hy.1 rfl;simp [Op.equalIn, run_underlying ht]
  . obtain ⟨e, f, g, ht⟩ := ht
    obtain rfl := hx
    cases b
    . obtain ⟨ad, _, _, rfl⟩ := hy.2 rfl;simp [Op.equalIn, run_underlying ht]
    . obtain rfl := hy.1 rfl;simp [Op.equalIn, run_underlying ht]
  . obtain ⟨e, ht⟩ := ht
    obtain rfl := hx
    cases b
    . obtain ⟨T, z, rfl⟩ := hy.2 rfl;simp [Op.equalIn, run_underlying ht]
    . obtain rfl := hy.1 rfl;simp [Op.equalIn, run_underlying ht]
theorem Au8{P : Program}{k : Nat}{t : TypeId}{x y : Value}{b : Bool}(hk : k<5)(ht : uI P k t)(hy : Qn k y)(hx : (b = true -> Qn k x) /\ (b = false -> La k x))(d : Nat) :
    (Op.equalIn (d + 1) t x y).run P w = .ok b w := by
  obtain rfl | rfl | rfl | rfl | rfl : k = 0 \/ k = 1 \/ k = 2 \/ k = 3 \/ k = 4 := by omega
  . obtain ⟨e, ht⟩ := ht
    obtain ⟨n, c, rfl⟩ := hy
    cases b
    . obtain ⟨ad, n', c', rfl⟩ := hx.2 rfl;simp [Op.equalIn, run_underlying ht]
    . obtain ⟨n', c', rfl⟩ := hx.1 rfl;simp [Op.equalIn, run_underlying ht]
  . obtain ⟨e, ht⟩ := ht
    obtain rfl := hy
    cases b
    . obtain ⟨ad, rfl⟩ := hx.2 rfl;simp [Op.equalIn, run_underlying ht]
    . obtain rfl := hx.1 rfl;simp [Op.equalIn, run_underlying ht]
  . obtain ⟨e, f, ht⟩ := ht
    obtain rfl := hy
    cases b
    . obtain ⟨ad, rfl⟩ := hx.2 rfl;simp [Op.equalIn, run_underlying ht]
    . obtain rfl := hx.1 rfl;simp [Op.equalIn, run_underlying ht]
  . obtain ⟨e, f, g, ht⟩ := ht
    obtain rfl := hy
    cases b
    . obtain ⟨ad, _, _, rfl⟩ := hx.2 rfl;simp [Op.equalIn, run_underlying ht]
    . obtain rfl := hx.1 rfl;simp [Op.equalIn, run_underlying ht]
  . obtain ⟨e, ht⟩ := ht
    obtain rfl := hy
    cases b
    . obtain ⟨T, z, rfl⟩ := hx.2 rfl;simp [Op.equalIn, run_underlying ht]
    . obtain rfl := hx.1 rfl;simp [Op.equalIn, run_underlying ht]
def ZM(x : Value) : Prop := (∃ a n c, x = .slice a n c) \/ (∃ a, x = .pointer a) \/ (∃ a, x = .map a) \/ x = .nilFunc \/ (∃ f p q, x = .func f p q) \/ x = .nilIface \/ ∃ T y, x = .iface T y
theorem B34{P : Program}(neg : Bool){t : TypeId}{x y : Value}{b : Bool}(X Y : Operand)(hc : Pd X = true \/ Pd Y = true \/ (x ≠ .nilIface /\ y ≠ .nilIface))(he : (Op.equalIn 10000 t x y).run P w = .ok b w)(hx : ZM x)(hy : ZM y) :
    (eqGuard (if neg then .neq else .eql) t X Y x y).run P w = .ok () w /\ (binOp (if neg then .neq else .eql) t x y).run P w = .ok (.bool (xor neg b)) w := by
  rcases hx with ⟨_, _, _, rfl⟩ | ⟨_, rfl⟩ | ⟨_, rfl⟩ | rfl | ⟨_, _, _, rfl⟩ | rfl | ⟨_, _, rfl⟩ <;> rcases hy with ⟨_, _, _, rfl⟩ | ⟨_, rfl⟩ | ⟨_, rfl⟩ | rfl | ⟨_, _, _, rfl⟩ | rfl | ⟨_, _, rfl⟩ <;>
    first
    | (cases neg <;> simp [eqGuard, binOp, Op.equal, Op.maxDepth, he];done)
    | (rcases hc with hc | hc | hc
       . cases X <;> first | (simp [Pd] at hc;done) | (cases neg <;> simp [eqGuard, binOp, Op.equal, Op.maxDepth, he])
       . cases Y <;> first | (simp [Pd] at hc;done) | (cases X <;> cases neg <;> simp [eqGuard, binOp, Op.equal, Op.maxDepth, he])
       . exact absurd rfl hc.1)
theorem A88{k : Nat}{x : Value}(h : Qn k x \/ La k x) : ZM x := by
  unfold ZM
  rcases h with h | h
  . unfold Qn at h
    split at h
    . obtain ⟨n, c, rfl⟩ := h;exact .inl ⟨_, _, _, rfl⟩
    . exact .inr (.inl ⟨_, h⟩)
    . exact .inr (.inr (.inl ⟨_, h⟩))
    . exact .inr (.inr (.inr (.inl h)))
    . exact .inr (.inr (.inr (.inr (.inr (.inl h)))))
  . unfold La at h
    split at h
    . obtain ⟨ad, n, c, rfl⟩ := h;exact .inl ⟨_, _, _, rfl⟩
    . obtain ⟨ad, rfl⟩ := h;exact .inr (.inl ⟨_, rfl⟩)
    . obtain ⟨ad, rfl⟩ := h;exact .inr (.inr (.inl ⟨_, rfl⟩))
    . exact .inr (.inr (.inr (.inr (.inl h))))
    . exact .inr (.inr (.inr (.inr (.inr (.inr h)))))
theorem Bq2{k : Nat}{neg b c : Bool}{op : BinOp}(My : op = if neg then .neq else .eql){t yt : TypeId}{x y : Operand}(ho : o.op = .binOp op t x y yt)(ht : uI C.P k t)(mH : k = 4 -> Pd x = true \/ Pd y = true)
    (hs : HoldsB C U s β a w) (hx : isNil k (s.ev x) = some b) (hy : isNil k (s.ev y) = some c) (hbc : b = true \/ c = true) : OpOk C U a w o (.v (.bool (xor neg (if b then c else b)))) s := by
  have h1 := Bg3 (hs.ev x) hx
  have h2 := Bg3 (hs.ev y) hy
  have hk := B33 hx
  have he : (Op.equalIn 10000 t (a.eval x) (a.eval y)).run C.P w = .ok (if b then c else b) w := by
    rcases hbc with rfl | rfl
    . exact Aw7 hk ht (h1.1 rfl) h2 9999
    . have : (if b = true then true else b) = b := by cases b <;> rfl
      rw [this]
      exact Au8 hk ht (h2.1 rfl) h1 9999
  have hfx : Qn k (a.eval x) \/ La k (a.eval x) := by cases b <;> simp_all
  have hfy : Qn k (a.eval y) \/ La k (a.eval y) := by cases c <;> simp_all
  have Hu : ∀ z, k ≠ 4 -> (Qn k z \/ La k z) -> z ≠ .nilIface := by
    rintro z Ha hz rfl
    obtain rfl | rfl | rfl | rfl : k = 0 \/ k = 1 \/ k = 2 \/ k = 3 := by omega
    all_goals (simp [Qn, La] at hz)
  obtain ⟨g1, g2⟩ := B34 neg x y (by
    by_cases Ha : k = 4
    . rcases mH Ha with h | h
      . exact .inl h
      . exact .inr (.inl h)
    . exact .inr (.inr ⟨Hu _ Ha hfx, Hu _ Ha hfy⟩)) he (A88 hfx) (A88 hfy)
  refine .same hs ?_ (WV.v _)
  subst My
  simp [execOp, ho, g1, g2]
theorem IN{op : UnOp}{t : TypeId}{x : Operand}{v : Value}(ho : o.op = .unOp op t x)(hs : HoldsB C U s β a w)(h : EJ op (s.ev x) = some v) : OpOk C U a w o (.v v) s := by
  have h1 := hs.ev x
  unfold EJ at h
  refine .same hs ?_ (WV.v _)
  split at h
  . rename_i hx
    rw [hx] at h1
    split at h <;> cases h
    . simp [execOp, ho, El h1, Op.unary, Op.intArith]
    . simp [execOp, ho, El h1, Op.unary, Op.intBits]
  . rename_i hx
    rw [hx] at h1
    split at h <;> cases h
    simp [execOp, ho, El h1, Op.unary]
  . cases h
theorem Cr6{k k' kk : IntKind}{n : Int}{src dst : TypeId}{x : Operand}(ho : o.op = .convert src dst x)(h1 : C.P.underlying src = some (.int k'))(h2 : C.P.underlying dst = some (.int k))
    (hs : HoldsB C U s β a w) (hx : s.ev x = .v (.int kk n)) : OpOk C U a w o (.v (.int k (k.wrap n))) s := by
  have h3 := hs.ev x
  rw [hx] at h3
  refine .same hs ?_ (WV.v _)
  simp [execOp, ho, El h3, convert, run_underlying h1, run_underlying h2, Conv.intToInt]
theorem yA{mx : Bool}{k k' : IntKind}{p q : Int}{c : Call}{x y : Operand}(ho : o.op = .call c)(hc : c.callee = .builtin (if mx then .max else .min))(Fh : c.args.toList = [x, y])
    (hs : HoldsB C U s β a w) (hx : s.ev x = .v (.int k p)) (hy : s.ev y = .v (.int k' q)) :
    OpOk C U a w o (.v (.int k (if mx then (if q>p then q else p) else (if q<p then q else p)))) s := by
  have h1 := hs.ev x
  have h2 := hs.ev y
  rw [hx] at h1;rw [hy] at h2
  have hA : c.args = #[x, y] := by apply Gq;simpa using Fh
  refine .same hs ?_ (WV.v _)
  cases mx <;> simp [execOp, ho, resolve, hc, hA, invoke, builtin, El h1, El h2, Builtin.max_, Builtin.min_, Builtin.max2, Builtin.min2]
end ops
end Go.DD

/- Each operation on deep values is what the model's operation does (second part: reads, and addresses). -/
namespace Go.DD
open Go.RowKit (Below)
section ops
variable {C:Ctx} {U:Nat->Prop} {s:DS} {β:Nat->Option Nat} {a:Act} {w:World} {o:Oper} {d:DV} {s':DS} {nid:Nat}
theorem Z3{P:Program}{t:TypeId}(h:P.cellsOf t≠0)(w:World):(sizeOf t).run P w=.ok (P.cellsOf t) w:=by
 unfold Program.cellsOf at *
 cases hi:P.info? t with
 | none=>simp [hi] at h
 | some i=>simp [sizeOf,typeInfo,hi]
theorem Ah9{P:Program}{t:TypeId}{k:Option Nat}(hk:Oz P t=some k)(ad:Addr)(us:List Value)(hc:∀ (j:Nat) (u:Value),us[j]?=some u->w.cell? (ad.add j)=some u) :
  (k=none->∀ u,us[0]?=some u->(loadVar t ad).run P w=.ok u w)/\(∀ n,k=some n->n<=us.length->(loadVar t ad).run P w=.ok (.agg (us.take n).toArray) w):=by
 constructor
 .rintro rfl u hu
  obtain ⟨h1,_,_⟩:=YR hk w
  have:=hc 0 u hu
  simp [Addr.add] at this
  simp [loadVar,h1,this]
 .rintro n rfl hn
  obtain ⟨h1,h2,_⟩:=Ap8 hk w
  have h3:=run_loadCells_list (P:=P) w ad (us.take n) (λj v hv=>hc j v (by
   rw [Cx] at hv
   split at hv
   .exact hv
   .cases hv))
  rw [Ca,Nat.min_eq_left hn] at h3
  simp [loadVar,h1,h2,h3]
theorem Aw8{al:Nat->Prop}{x:Value}{d:DV}(h:RelI w al x d):d.refs=[]:=by
 have hl:∀ cs:List DV,(∀ d∈cs,d.refs=[])->DV.refsL cs=[]:=λcs=>by
  induction cs with
  | nil=>intro _;rfl
  | cons c cs ih=>intro hc;simp only [DV.refsL];rw [hc c (by simp),ih λd hd=>hc d (by simp [hd])];rfl
 induction h with
 | any x=>rfl
 | v x=>rfl
 | agg vs cs jX _ _ ih=>
  rw [DV.refs]
  refine hl cs λd hd=>?_
  obtain ⟨j,hj,rfl⟩:=Bx.1 hd
  exact ih j vs[j] _ (Aa (by omega)) (Aa hj)
 | tup vs cs jX _ ih=>
  rw [DV.refs]
  refine hl cs λd hd=>?_
  obtain ⟨j,hj,rfl⟩:=Bx.1 hd
  exact ih j vs[j] _ (Aa (by omega)) (Aa hj)
 | fn f us vs cs jX _ ih=>
  rw [DV.refs]
  refine hl cs λd hd=>?_
  obtain ⟨j,hj,rfl⟩:=Bx.1 hd
  exact ih j (Value.tuple us.toArray::vs)[j] _ (Aa (by omega)) (Aa hj)
 | ifc T u d _ ih=>rw [DV.refs];exact ih
 | _=>rfl
theorem wE{V:Nat->Option DObj}{x:Value}{d:DV}(h:RelI w (Sc C w β) x d):WV C U V β w x d:=WV.flat (.imm _ _ h) (Aw8 h)
theorem A40{V:Nat->Option DObj}{k:Option Nat}{us:List Value}{cs:List DV}(hl:cs.length<=us.length)(ho:∀ (j:Nat) (u:Value),us[j]?=some u->j<cs.length->u.oneCell'=true)
  (hr:∀ (j:Nat) (u:Value) (d:DV),us[j]?=some u->cs[j]?=some d->WV C U V β w u d) (hp:Jc k cs=some d) :
  (k=none->∃ u,us[0]?=some u/\WV C U V β w u d)/\(∀ n,k=some n->n<=us.length/\WV C U V β w (.agg (us.take n).toArray) d):=by
 cases k with
 | none=>
  refine ⟨λ_=>?_,λn hn=>(by cases hn)⟩
  simp only [Jc] at hp
  split at hp
  .rename_i c tl
   cases hp
   have h0:0<us.length:=by simp at hl;omega
   exact ⟨us[0],Aa h0,hr 0 _ _ (Aa h0) (by simp)⟩
  .cases hp
 | some n=>
  refine ⟨λh=>(by cases h),λn' AJ=>?_⟩
  cases AJ
  simp only [Jc] at hp
  split at hp
  rotate_left
  .cases hp
  rename_i hn
  cases hp
  have Vs:∀ (j:Nat) (u:Value) (d:DV),(us.take n)[j]?=some u->(cs.take n)[j]?=some d->WV C U V β w u d:=λj u d hu hd=>by
   rw [Cx] at hu hd
   split at hu
   .exact hr j u d hu (by simpa [*] using hd)
   .cases hu
  have Fb:(us.take n).length=(cs.take n).length:=by simp;omega
  refine ⟨by omega,λid hi=>?_,λha=>.agg (us.take n) (cs.take n) Fb (λu hu=>?_) λj u d hu hd=>?_,TP.nt λ_ h=>by cases h⟩
  .rw [DV.refs] at hi
   obtain ⟨d,hd,hi⟩:=DV.mem_refsL hi
   obtain ⟨j,hj,rfl⟩:=Bx.1 hd
   exact (Vs j (us.take n)[j] _ (Aa (by omega)) (Aa hj)).1 id hi
  .obtain ⟨j,hj,rfl⟩:=Bx.1 hu
   simp at hj
   refine ho j _ ?_ (by omega)
   rw [Ew]
   exact Aa (by omega)
  .exact (Vs j u d hu hd).2.1 λid hi=>ha id (by rw [DV.refs];exact DV.refsL_mem (Aw hd) hi)
theorem HoldsB.row(hs:HoldsB C U s β a w){id b:Nat}{T:TypeId}{cs:List DV}(hb:β id=some b)(ho:s.ho id=some (.row T cs)) :
  ∃ c:Array Value,w.heap[b]?=some (.cells c T (0,0))/\cs.length<=c.size/\(Sp C.P T=true->c.size=cs.length)/\∀ (j:Nat) (u:Value) (d:DV),c[j]?=some u->cs[j]?=some d->WV C U (s.vw C) β w u d/\u.oneCell'=true:=by
 rcases hs.hh.hp id _ (mV ho) with ⟨h1,_⟩ | ⟨b',c,Kj,hc,hl,hx,hr⟩
 .rw [hb] at h1;cases h1
 .rw [hb] at Kj;cases Kj;exact ⟨c,hc,hl,hx,hr⟩
theorem SJ{b off:Nat}{c:Array Value}{T:TypeId}{f:Nat×Nat}(h:w.heap[b]?=some (.cells c T f))(j:Nat)(u:Value)(hu:(c.toList.drop off)[j]?=some u) :
  w.cell? ((⟨b,off,none⟩:Addr).add j)=some u:=by
 rw [Addr.add_lit,cell_of_row w b (off+j) c T f h]
 simpa using hu
theorem B35{k:Option Nat}{t:TypeId}{x:Operand}{cs:List DV}(ho:o.op=.load t x)(hk:Oz C.P t=some k)(hs:HoldsB C U s β a w)(hx:s.ev x=.ia cs)(hp:Jc k cs=some d):OpOk C U a w o d s:=by
 have h1:=hs.ev x
 rw [hx] at h1
 obtain ⟨ad,us,e1,hl,_,rI,hc,hr⟩:=DJ h1
 obtain ⟨g1,g2⟩:=Ah9 hk ad us hc
 obtain ⟨p1,p2⟩:=A40 (C:=C) (U:=U) (V:=s.vw C) (w:=w) (β:=β) (by omega) (λj u hu _=>rI u (Aw hu)) (λj u d hu hd=>wE (hr j u d hu hd)) hp
 cases k with
 | none=>
  obtain ⟨u,hu,Ct⟩:=p1 rfl
  exact .same hs (by simp [execOp,ho,e1,Instr.loadAt,Instr.sureAddr,g1 rfl u hu]) Ct
 | some n=>
  obtain ⟨hn,Ct⟩:=p2 n rfl
  exact .same hs (by simp [execOp,ho,e1,Instr.loadAt,Instr.sureAddr,g2 n rfl hn]) Ct
theorem B36{k:Option Nat}{t T:TypeId}{x:Operand}{id off:Nat}{cs:List DV}(ho:o.op=.load t x)(hk:Oz C.P t=some k)(hs:HoldsB C U s β a w)(hx:s.ev x=.pt id off)
  (hid:s.ho id=some (.row T cs)) (hp:Jc k (cs.drop off)=some d):OpOk C U a w o d s:=by
 have h1:=hs.ev x
 rw [hx] at h1
 obtain ⟨b,e1,hb⟩:=tE h1
 obtain ⟨c,hw,hl,_,hr⟩:=hs.row hb hid
 obtain ⟨g1,g2⟩:=Ah9 hk ⟨b,off,none⟩ (c.toList.drop off) (SJ hw)
 obtain ⟨p1,p2⟩:=A40 (C:=C) (U:=U) (V:=s.vw C) (w:=w) (β:=β) (us:=c.toList.drop off) (cs:=cs.drop off) (by simp;omega)
  (λj u hu hj=>by
   have eY:off+j<cs.length:=by simp at hj;omega
   exact (hr (off+j) u _ (by simpa using hu) (Aa eY)).2)
  (λj u d hu hd=>(hr (off+j) u d (by simpa using hu) (by simpa using hd)).1) hp
 cases k with
 | none=>
  obtain ⟨u,hu,Ct⟩:=p1 rfl
  exact .same hs (by simp [execOp,ho,e1,Instr.loadAt,Instr.sureAddr,g1 rfl u hu]) Ct
 | some n=>
  obtain ⟨hn,Ct⟩:=p2 n rfl
  exact .same hs (by simp [execOp,ho,e1,Instr.loadAt,Instr.sureAddr,g2 n rfl hn]) Ct
theorem Cr7{x:Operand}(ho:o.op=.nilCheck x)(hs:HoldsB C U s β a w)(hx:(∃ cs,s.ev x=.ia cs)\/(∃ id off,s.ev x=.pt id off)\/(∃ f cs,s.ev x=.fn (.func f) cs)\/∃ T d,s.ev x=.ifc T d):OpOk C U a w o (s.ev x) s:=by
 have h1:=hs.ev x
 refine .same hs (x:=a.eval x) ?_ (hs.evw x)
 rcases hx with ⟨cs,hx⟩ | ⟨id,off,hx⟩ | ⟨f,cs,hx⟩ | ⟨T,d,hx⟩ <;> rw [hx] at h1
 .obtain ⟨ad,us,e1,_⟩:=DJ h1
  simp [execOp,ho,e1]
 .obtain ⟨b,e1,hb⟩:=tE h1
  simp [execOp,ho,e1]
 .obtain ⟨us,vs,e1,_⟩:=TG h1
  simp [execOp,ho,e1]
 .obtain ⟨u,e1,_⟩:=BY h1
  simp [execOp,ho,e1]
theorem Aw9{P:Program}{al:Nat->Prop}{ad:Addr}{us:List Value}{cs:List DV}(m:Nat)(hl:us.length=cs.length)(ha:al ad.block)(h1:∀ u∈us,u.oneCell'=true)
  (hc:∀ (j:Nat) (u:Value),us[j]?=some u->w.cell? (ad.add j)=some u) (h:∀ (j:Nat) (u:Value) (d:DV),us[j]?=some u->cs[j]?=some d->RelI w al u d) :
  Rel P w al β (.pointer (some (ad.add m))) (.ia (cs.drop m)):=
 .imm _ _ (.ia (ad.add m) (us.drop m) (cs.drop m) (by simp [hl]) (by rw [block_add];exact ha) (λu hu=>h1 u (De hu))
  (λj u hu=>by rw [add_add];exact hc _ u (by simpa using hu)) λj u d hu hd=>h (m+j) u d (by simpa using hu) (by simpa using hd))
theorem yD{t:TypeId}{x:Operand}{i:Nat}{fs:Array Field}{f:Field}(ho:o.op=.fieldAddr t x i)(ht:C.P.underlying t=some (.struct fs))(hf:fs[i]?=some f)(hz:C.P.cellsOf f.type≠0)
  (hs:HoldsB C U s β a w):(∀ cs,s.ev x=.ia cs->OpOk C U a w o (.ia (cs.drop f.offset)) s)/\(∀ id off,s.ev x=.pt id off->OpOk C U a w o (.pt id (off+f.offset)) s):=by
 have h1:=hs.ev x
 constructor
 .intro cs hx
  rw [hx] at h1
  obtain ⟨ad,us,e1,hl,ha,rI,hc,hr⟩:=DJ h1
  refine .same hs ?_ (WV.flat (Aw9 f.offset hl ha rI hc hr) rfl)
  simp [execOp,ho,e1,Instr.fieldAt,run_underlying ht,hf,Instr.sureAddr,fieldPlace,Z3 hz,hz]
 .intro id off hx
  rw [hx] at h1
  obtain ⟨b,e1,hb⟩:=tE h1
  refine .same hs ?_ (hs.evp x (.pt id (off+f.offset) b hb) (by rw [hx];simp [DV.refs]))
  simp [execOp,ho,e1,Instr.fieldAt,run_underlying ht,hf,Instr.sureAddr,fieldPlace,Z3 hz,hz,Addr.add_lit]
theorem BX{P:Program}{al:Nat->Prop}{x:Value}{d:DV}{n:Int}(h:Rel P w al β x d)(hd:Mx d=some n):∃ k,x=.int k n:=by
 unfold Mx at hd
 split at hd
 .cases hd;exact ⟨_,El h⟩
 .cases hd
theorem yB{t e:TypeId}{x i:Operand}{j:Int}(ho:o.op=.indexAddr t x i)(ht:C.P.underlying t=some (.slice e))(hz:C.P.cellsOf e≠0)(hs:HoldsB C U s β a w)(hi:Mx (s.ev i)=some j)(h0:0<=j) :
  (∀ cs n,s.ev x=.sl cs n->j<n->OpOk C U a w o (.ia (cs.drop (j.toNat*C.P.cellsOf e))) s)/\(∀ id off n es,s.ev x=.ms id off n es->j<n->OpOk C U a w o (.pt id (off+j.toNat*C.P.cellsOf e)) s):=by
 have h1:=hs.ev x
 obtain ⟨k,hk⟩:=BX (hs.ev i) hi
 constructor
 .intro cs n hx hj
  rw [hx] at h1
  rcases DI h1 with ⟨_,_,_,_,rfl⟩ | ⟨ad,cap,us,e1,hl,hn,ha,rI,hc,hr⟩
  .omega
  .refine .same hs ?_ (WV.flat (Aw9 _ hl ha rI hc hr) rfl)
   simp [execOp,ho,e1,hk,Instr.indexAt,run_underlying ht,asIntOf,h0,hj,Z3 hz]
 .intro id off n es hx hj
  rw [hx] at h1
  rcases I6 h1 with ⟨_,_,rfl⟩ | ⟨b,cap,c,T,e1,hb,hw,hn,hm,Tz⟩
  .omega
  .refine .same hs ?_ (hs.evp x (.pt id _ b hb) (by rw [hx];simp [DV.refs]))
   simp [execOp,ho,e1,hk,Instr.indexAt,run_underlying ht,asIntOf,h0,hj,Z3 hz,Addr.add_lit]
theorem yC{t e:TypeId}{n:Nat}{x i:Operand}{j:Int}(ho:o.op=.indexAddr t x i)(ht:C.P.underlying t=some (.array n e))(hz:C.P.cellsOf e≠0)(hs:HoldsB C U s β a w)(hi:Mx (s.ev i)=some j)(h0:0<=j)(hj:j<n) :
  (∀ cs,s.ev x=.ia cs->OpOk C U a w o (.ia (cs.drop (j.toNat*C.P.cellsOf e))) s)/\(∀ id off,s.ev x=.pt id off->OpOk C U a w o (.pt id (off+j.toNat*C.P.cellsOf e)) s):=by
 have h1:=hs.ev x
 obtain ⟨k,hk⟩:=BX (hs.ev i) hi
 constructor
 .intro cs hx
  rw [hx] at h1
  obtain ⟨ad,us,e1,hl,ha,rI,hc,hr⟩:=DJ h1
  refine .same hs ?_ (WV.flat (Aw9 _ hl ha rI hc hr) rfl)
  simp [execOp,ho,e1,hk,Instr.indexAt,run_underlying ht,asIntOf,h0,hj,Z3 hz,Instr.sureAddr]
 .intro id off hx
  rw [hx] at h1
  obtain ⟨b,e1,hb⟩:=tE h1
  refine .same hs ?_ (hs.evp x (.pt id _ b hb) (by rw [hx];simp [DV.refs]))
  simp [execOp,ho,e1,hk,Instr.indexAt,run_underlying ht,asIntOf,h0,hj,Z3 hz,Addr.add_lit,Instr.sureAddr]
theorem Cr8{t t' e:TypeId}{x:Operand}{b:ByteArray}(ho:o.op=.convert t t' x)(pJ:C.P.underlying t=some .string)(hd:C.P.underlying t'=some (.slice e))(he:C.P.underlying e=some (.int .u8))(hs:HoldsB C U s β a w)(hx:s.ev x=.v (.string b)) :
  OpOk C U a w o (.sl (b.data.toList.map λc=>.v (.int .u8 (c.toNat:Int))) b.size) s:=by
 have h1:=hs.ev x
 rw [hx] at h1
 obtain ⟨w',bU⟩:∃ w',w.drew.alloc (.cells (bytesRow b (grownCap w b.size 0 e)) e ((bytesRow b (grownCap w b.size 0 e)).size,(bytesRow b (grownCap w b.size 0 e)).size+1))=w':=⟨_,rfl⟩
 have Hl:=run_bytes_of_string (P:=C.P) w t t' e b pJ hd he
 rw [bU] at Hl
 have Oh:Below w.heap.size w w':=by rw [<- bU];exact ((Below.refl _ _).drew).alloc (by simp) _
 have Qd:w'.heap[w.heap.size]?=some (.cells (bytesRow b (grownCap w b.size 0 e)) e ((bytesRow b (grownCap w b.size 0 e)).size,(bytesRow b (grownCap w b.size 0 e)).size+1)):=by
  rw [<- bU]
  exact heap_alloc_new w.drew (.cells (bytesRow b (grownCap w b.size 0 e)) e ((bytesRow b (grownCap w b.size 0 e)).size,(bytesRow b (grownCap w b.size 0 e)).size+1))
 have Fb:w.heap.size<w'.heap.size:=(Ck.1 Qd).1
 refine ⟨_,w',β,_,?_,.inl rfl,hs.keep Oh,wE (.sl ⟨w.heap.size,0,none⟩ b.size (grownCap w b.size 0 e) (b.data.toList.map λc=>.int .u8 (c.toNat:Int)) _ (by simp) (grownCap_ge w b.size 0 e) ⟨.inr (.inl hs.hh.bel.size),Fb,λid hid=>by have h9:=hs.hh.lt hid;simp only at h9;omega⟩ (λu hu=>?_) (λj u hu=>?_) (λj u d hu hd=>?_))⟩
 .simp [execOp,ho,El h1,Hl]
 .obtain ⟨c,_,rfl⟩:=Ei.1 hu
  rfl
 .rw [Addr.add_lit,cell_of_row w' _ _ _ _ _ Qd]
  have hj:j<b.data.toList.length:=by have:=(Ar.1 hu).1;simpa using this
  simp only [bytesRow,Er]
  rw [Array.getElem?_append_left (by simpa using hj)]
  rw [<- Cz]
  simpa using hu
 .simp only [Df,Ag] at hu hd
  obtain ⟨c,hc,rfl⟩:=hu
  obtain ⟨c',Jd,rfl⟩:=hd
  rw [hc] at Jd;cases Jd
  exact .v _
theorem Cr9{t:TypeId}{x i:Operand}{j:Int}{b:ByteArray}{c:UInt8}(ho:o.op=.index t x i)(ht:C.P.underlying t=some .string)(hs:HoldsB C U s β a w)(hi:Mx (s.ev i)=some j)(h0:0<=j)
  (hx:s.ev x=.v (.string b)) (hc:b[j.toNat]?=some c):OpOk C U a w o (.v (.int .u8 (c.toNat:Int))) s:=by
 have h1:=hs.ev x
 rw [hx] at h1
 obtain ⟨k,hk⟩:=BX (hs.ev i) hi
 refine .same hs ?_ (WV.v _)
 simp [execOp,ho,El h1,hk,Instr.index,run_underlying ht,asIntOf,h0,hc]
theorem Cj9(hs:HoldsB C U s β a w){x:Option Operand}{Yk n:Int}(h:Kt s Yk x=some n):(x=none/\n=Yk)\/∃ y k,x=some y/\a.eval y=.int k n:=by
 unfold Kt at h
 split at h
 .cases h;exact .inl ⟨rfl,rfl⟩
 .rename_i y
  obtain ⟨k,hk⟩:=BX (hs.ev y) h
  exact .inr ⟨y,k,rfl,hk⟩
theorem SV{P:Program}{isS:Bool}{len cap:Nat}{lo hi:Option Value}{l h:Int}(Hv:(lo=none/\l=0)\/∃ k,lo=some (.int k l))(Tl:(hi=none/\h=len)\/∃ k,hi=some (.int k h))
  (h0:0<=l) (VE:l<=h) (hh:h<=cap) (w:World):(Instr.sliceBounds isS len cap lo hi none).run P w=.ok (l.toNat,h.toNat,cap) w:=by
 have e1:((h.toNat:Nat):Int)=h:=by omega
 rcases Hv with ⟨rfl,rfl⟩ | ⟨k,rfl⟩ <;> rcases Tl with ⟨rfl,rfl⟩ | ⟨k',rfl⟩
 .simp [Instr.sliceBounds]
 .simp [Instr.sliceBounds,Instr.sliceBound,asIntOf,hh,show 0<=h by omega]
 .simp [Instr.sliceBounds,Instr.sliceBound,asIntOf,h0,VE]
 .simp [Instr.sliceBounds,Instr.sliceBound,asIntOf,h0,hh,show 0<=h by omega]
  omega
theorem Yl(hs:HoldsB C U s β a w){x:Option Operand}{Yk n:Int}(h:Kt s Yk x=some n):(x.map a.eval=none/\n=Yk)\/∃ k,x.map a.eval=some (.int k n):=by
 rcases Cj9 hs h with ⟨rfl,rfl⟩ | ⟨y,k,rfl,hk⟩
 .exact .inl ⟨rfl,rfl⟩
 .exact .inr ⟨k,by simp [hk]⟩
theorem Bq3{t e:TypeId}{x:Operand}{lo hi:Option Operand}{l h:Int}(ho:o.op=.slice t x lo hi none)(ht:C.P.underlying t=some (.slice e))(cJ:(C.P.info? e).isSome=true)(hs:HoldsB C U s β a w) :
  (∀ cs n,s.ev x=.sl cs n->Kt s 0 lo=some l->Kt s n hi=some h->0<=l->l<=h->h<=n->OpOk C U a w o (.sl ((cs.drop (l.toNat*C.P.cellsOf e)).take ((h.toNat-l.toNat)*C.P.cellsOf e)) (h.toNat-l.toNat)) s)/\
  (∀ id off n,s.ev x=.ms id off n (C.P.cellsOf e)->Kt s 0 lo=some l->Kt s n hi=some h->0<=l->l<=h->h<=n->OpOk C U a w o (if l<h\/l=0 then .ms id (off+l.toNat*C.P.cellsOf e) (h.toNat-l.toNat) (C.P.cellsOf e) else .sl [] 0) s)/\
  (s.ev x=.v (.slice none 0 0)->Kt s 0 lo=some l->Kt s 0 hi=some h->l=0->h=0->OpOk C U a w o (.v (.slice none 0 0)) s):=by
 have h1:=hs.ev x
 have Hq:(sizeOf e).run C.P w=.ok (C.P.cellsOf e) w:=by
  obtain ⟨i,hi⟩:=Eb.1 cJ
  simp [sizeOf,typeInfo,hi,Program.cellsOf]
 refine ⟨?_,?_,?_⟩
 .intro cs n hx Hv Tl h0 VE hhn
  rw [hx] at h1
  rcases DI h1 with ⟨ad,cap,e1,rfl,rfl⟩ | ⟨ad,cap,us,e1,hl,hn,ha,rI,hc,hr⟩
  .have:l=0:=by omega
   have:h=0:=by omega
   subst l;subst h
   refine .same hs (x:=.slice (if cap=0 then ad else ad.map (·.add (0*C.P.cellsOf e))) 0 cap) ?_ (by simpa using wE (.sl0 _ _))
   have hb:=SV (P:=C.P) (isS:=true) (len:=0) (cap:=cap) (Yl hs Hv) (Yl hs Tl) (Ti _) (Ti _) (by omega) w
   simp [execOp,ho,e1,Instr.sliceAt,Instr.slice,run_underlying ht,hb,Hq]
  .have hb:=SV (P:=C.P) (isS:=true) (len:=n) (cap:=cap) (Yl hs Hv) (Yl hs Tl) h0 VE (by omega) w
   by_cases Up:cap=l.toNat
   .subst Up
    have e2:h.toNat=l.toNat:=by omega
    refine .same hs (x:=.slice (some ad) 0 0) ?_ ?_
    .simp [execOp,ho,e1,Instr.sliceAt,Instr.slice,run_underlying ht,hb,Hq,e2]
    .rw [e2];simpa using wE (.sl0 _ _)
   .refine .same hs (x:=.slice (some (ad.add (l.toNat*C.P.cellsOf e))) (h.toNat-l.toNat) (cap-l.toNat)) ?_ ?_
    .simp [execOp,ho,e1,Instr.sliceAt,Instr.slice,run_underlying ht,hb,Hq,Up]
    .refine wE (.sl _ _ _ ((us.drop (l.toNat*C.P.cellsOf e)).take ((h.toNat-l.toNat)*C.P.cellsOf e)) _ (by simp [hl]) (by omega) (by rw [block_add];exact ha) (λu hu=>rI u (De (Kn hu)))
      (λj u hu=>?_) λj u d hu hd=>?_)
     .rw [Cx] at hu
      split at hu
      .rw [add_add];exact hc _ u (by simpa using hu)
      .cases hu
     .rw [Cx] at hu hd
      split at hu
      .exact hr (l.toNat*C.P.cellsOf e+j) u d (by simpa using hu) (by simpa [*] using hd)
      .cases hu
 .intro id off n hx Hv Tl h0 VE hhn
  rw [hx] at h1
  rcases I6 h1 with ⟨e1,rfl,rfl⟩ | ⟨b,cap,c,T,e1,hb,hw,hn,hm,Tz⟩
  .have h2:l=0:=by omega
   have h3:h=0:=by omega
   subst h2;subst h3
   have cY:=SV (P:=C.P) (isS:=true) (len:=0) (cap:=0) (Yl hs Hv) (Yl hs Tl) (Ti _) (Ti _) (by omega) w
   rw [Ah (.inr rfl)]
   refine .same hs (x:=.slice none 0 0) ?_ (hs.evp x (by simpa using .ms0 id (C.P.cellsOf e)) (by rw [hx];simp [DV.refs]))
   simp [execOp,ho,e1,Instr.sliceAt,Instr.slice,run_underlying ht,cY,Hq]
  .have cY:=SV (P:=C.P) (isS:=true) (len:=n) (cap:=cap) (Yl hs Hv) (Yl hs Tl) h0 (by omega) (by omega) w
   by_cases hc:l<h\/l=0
   .rw [Ah hc]
    by_cases Up:cap=l.toNat
    .have h2:l=0:=by omega
     subst h2
     have h3:cap=0:=by simpa using Up
     subst h3
     have h4:h=0:=by omega
     subst h4
     have Ct:Rel C.P w (Sc C w β) β (.slice (some ⟨b,off,none⟩) 0 0) (.ms id (off+(0:Int).toNat*C.P.cellsOf e) ((0:Int).toNat-(0:Int).toNat) (C.P.cellsOf e)):=by
      simpa using .ms id off 0 (C.P.cellsOf e) b 0 c T hb hw (by omega) (by omega) (by simpa using Tz)
     refine .same hs (x:=.slice (some ⟨b,off,none⟩) 0 0) ?_ (hs.evp x Ct (by rw [hx];simp [DV.refs]))
     simp [execOp,ho,e1,Instr.sliceAt,Instr.slice,run_underlying ht,cY,Hq]
    .refine .same hs (x:=.slice (some ⟨b,off+l.toNat*C.P.cellsOf e,none⟩) (h.toNat-l.toNat) (cap-l.toNat)) ?_ (hs.evp x (.ms _ _ _ _ b _ c T hb hw (by omega) (by omega) ?_) (by rw [hx];simp [DV.refs]))
     .simp [execOp,ho,e1,Instr.sliceAt,Instr.slice,run_underlying ht,cY,Hq,Up,Addr.add_lit]
     .rw [<- Tz,Nat.add_assoc,<- Gg,Nat.add_sub_cancel' (show l.toNat<=cap by omega)]
   .rw [Ae hc]
    have e2:h.toNat=l.toNat:=by omega
    refine .same hs (x:=.slice (if cap=l.toNat then some ⟨b,off,none⟩ else some ((⟨b,off,none⟩:Addr).add (l.toNat*C.P.cellsOf e))) 0 (cap-l.toNat)) ?_ (wE (.sl0 _ _))
    simp [execOp,ho,e1,Instr.sliceAt,Instr.slice,run_underlying ht,cY,Hq,e2]
 .intro hx Hv Tl hl hh
  rw [hx] at h1
  have e1:=El h1
  subst hl hh
  have cY:=SV (P:=C.P) (isS:=true) (len:=0) (cap:=0) (Yl hs Hv) (Yl hs Tl) (Ti _) (Ti _) (by omega) w
  refine .same hs (x:=.slice none 0 0) ?_ (WV.v _)
  simp [execOp,ho,e1,Instr.sliceAt,Instr.slice,run_underlying ht,cY,Hq]
theorem Ca1{t:TypeId}{c:Call}{x:Operand}(ho:o.op=.call c)(hc:c.callee=.builtin .len)(Fh:c.args.toList=[x])(ht:c.argTypes[0]?=some t)(hs:HoldsB C U s β a w) :
  ((∃ e,C.P.underlying t=some (.slice e))->(∀ cs n,s.ev x=.sl cs n->OpOk C U a w o (.v (.int .i64 n)) s)/\(∀ id off n es,s.ev x=.ms id off n es->OpOk C U a w o (.v (.int .i64 n)) s)/\
   (∀ n c',s.ev x=.v (.slice none n c')->OpOk C U a w o (.v (.int .i64 n)) s))/\
  (C.P.underlying t=some .string->∀ b,s.ev x=.v (.string b)->OpOk C U a w o (.v (.int .i64 b.size)) s):=by
 have h1:=hs.ev x
 have hA:c.args = #[x]:=by apply Gq;simpa using Fh
 constructor
 .rintro ⟨e,hu⟩
  have Hl:∀ ad n cap,a.eval x=.slice ad n cap->OpOk C U a w o (.v (.int .i64 n)) s:=λad n cap hv=>by
   refine .same hs (x:=.int .i64 n) ?_ (WV.v _)
   simp [execOp,ho,resolve,hc,hA,invoke,builtin,Builtin.len_,ht,hv,run_underlying hu,goInt]
  refine ⟨λcs n hx=>?_,λid off n es hx=>?_,λn c' hx=>?_⟩ <;> rw [hx] at h1
  .rcases DI h1 with ⟨ad,cap,e1,_,rfl⟩ | ⟨ad,cap,us,e1,_⟩
   .exact Hl _ _ _ e1
   .exact Hl _ _ _ e1
  .rcases I6 h1 with ⟨e1,_,rfl⟩ | ⟨b,cap,cc,T,e1,_⟩
   .exact Hl _ _ _ e1
   .exact Hl _ _ _ e1
  .exact Hl _ _ _ (El h1)
 .intro hu b hx
  rw [hx] at h1
  refine .same hs (x:=.int .i64 b.size) ?_ (WV.v _)
  simp [execOp,ho,resolve,hc,hA,invoke,builtin,Builtin.len_,ht,El h1,run_underlying hu,goInt]
theorem Ca2{f:Fn}{first cap:Array Operand}(ho:o.op=.makeFunc f first cap)(hs:HoldsB C U s β a w):OpOk C U a w o (.fn f (.tup (first.toList.map s.ev)::cap.toList.map s.ev)) s:=by
 have key:∀ l:List Operand,∀ (j:Nat) (u:Value) (d:DV),(l.map a.eval)[j]?=some u->(l.map s.ev)[j]?=some d->Rel C.P w (Sc C w β) β u d:=λl j u d hu hd=>by
  simp only [Df,Ag] at hu hd
  obtain ⟨x,hx,rfl⟩:=hu
  obtain ⟨y,hy,rfl⟩:=hd
  rw [hx] at hy;cases hy
  exact hs.ev x
 refine .same hs (x:=.func f (first.toList.map a.eval).toArray (cap.toList.map a.eval).toArray) ?_ (hs.hh.wv (.fn f _ _ _ (by simp) λj u d hu hd=>?_) λid hi=>?_)
 .have h1:Array.map a.eval cap=(List.map a.eval cap.toList).toArray:=by apply Gq;simp
  have h2:Array.map a.eval first=(List.map a.eval first.toList).toArray:=by apply Gq;simp
  simp [execOp,ho,Instr.makeFunc,h1,h2]
 .cases j with
  | zero=>cases hu;cases hd;exact .tup _ _ (by simp) (key _)
  | succ j=>exact key cap.toList j u d (by simpa using hu) (by simpa using hd)
 .have Qe:∀ l:List Operand,id∈DV.refsL (l.map s.ev)->(s.vw C id).isSome=true:=λl h=>by
   obtain ⟨d,hd,hi⟩:=DV.mem_refsL h
   obtain ⟨x,_,rfl⟩:=Ei.1 hd
   exact sK (HoldsB.eva x id hi)
  simp only [DV.refs,DV.refsL,Bo] at hi
  rcases hi with hi | hi
  .exact Qe _ hi
  .exact Qe _ hi
theorem Ck0{x:Operand}{i:Nat}{ds:List DV}{v:Value}(ho:o.op=.extract x i)(hs:HoldsB C U s β a w)(hx:s.rv x=.tup ds)(hi:ds[i]?=some (.v v)):OpOk C U a w o (.v v) s:=by
 obtain ⟨vs,e1,h1⟩:=(hs.rvw x).2.2 ds hx i v hi
 obtain ⟨Fb,h2⟩:=Ck.1 h1
 refine .same hs (x:=v) ?_ (WV.v v)
 simp [execOp,ho,e1,Instr.extract,Fb,h2]
theorem Cs0{x:Operand}{i:Nat}{ds:List DV}(ho:o.op=.extract x i)(hs:HoldsB C U s β a w)(hx:s.ev x=.tup ds)(hi:ds[i]?=some d):OpOk C U a w o d s:=by
 have h1:=hs.ev x
 rw [hx] at h1
 obtain ⟨vs,e1,hl,hr⟩:=Bc8 h1
 have Fb:i<vs.length:=by rw [hl];exact (Ar.1 hi).1
 refine .same hs (x:=vs[i]) ?_ (hs.evp x (hr i _ _ (Aa Fb) hi) λid hid=>by rw [hx,DV.refs];exact DV.refsL_mem (Aw hi) hid)
 simp [execOp,ho,e1,Instr.extract,Fb]
end ops
end Go.DD
