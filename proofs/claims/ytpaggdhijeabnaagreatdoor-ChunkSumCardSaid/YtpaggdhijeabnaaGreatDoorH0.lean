/- The operations and the code of the deep layer, compiled from the model's. -/
import Derived.Below
import Derived.Laws.Rows
import Derived.Laws.Append
import Derived.Orders
import Derived.Test.YtpaggdhijeabnaaGreatDoorGq
namespace Go.DD
open Go.RowKit (Below)

/-- Keys of a map: of one cell; of several plain ones (0: integers, 1: bools, 2: strings). -/
inductive KD where
  | p (d : TypeDesc)
  | f (ks : List Nat)
  deriving Inhabited

inductive DOp where
  | mv (x : Operand)
  | pick (c a b : Operand)
  | al (T : TypeId) (z : List Value)
  | bx (T : TypeId) (x : Operand)
  | bld (z : List Value) (ps : List (Nat × Nat × Operand))
  | bsl (T : TypeId) (n es : Nat) (z : List Value) (ps : List (Nat × Nat × Operand))
  | ld (k : Option Nat) (x : Operand)
  | st (n : Nat) (a x : Operand)
  | nck (x : Operand)
  | bin (op : BinOp) (x y : Operand)
  | bb (neg : Bool) (x y : Operand)
  | eqs (neg : Bool) (ks : List Nat) (x y : Operand)
  | nilq (k : Nat) (neg : Bool) (x y : Operand)
  | un (op : UnOp) (x : Operand)
  | cvi (k : IntKind) (x : Operand)
  | fa (off : Nat) (x : Operand)
  | fld (off : Nat) (k : Option Nat) (x : Operand)
  | ia (es : Nat) (x i : Operand)
  | ixs (x i : Operand)
  | sli (es : Nat) (x : Operand) (lo hi : Option Operand)
  | sls (x : Operand) (lo hi : Option Operand)
  | len (x : Operand)
  | lns (x : Operand)
  | app (T : TypeId) (es bytes : Nat) (s x : Operand)
  | mks (T : TypeId) (es bytes : Nat) (z : List Value) (l c : Operand)
  | mkf (f : Fn) (fst cap : List Operand)
  | ext (x : Operand) (i : Nat)
  | mm (mx : Bool) (x y : Operand)
  | mkm
  | lkp (kd : KD) (z : Value) (x k : Operand) (ok : Bool)
  | mup (kd : KD) (x k y : Operand)
  | men (kd : KD) (z : Value) (x k : Operand)
  | mes (x st y : Operand)
  | rgm (x : Operand)
  | nxm (k : Bool) (x : Operand)
  | rgs (x : Operand)
  | nxs (x : Operand)
  | mki (T : TypeId) (x : Operand)
  | tas (T : TypeId) (z : Value) (x : Operand) (ok : Bool)
  | sla (T : TypeId) (n es : Nat) (x : Operand)
  | cpy (es : Nat) (x y : Operand)
  | lnm (x : Operand)
  | fx (n es : Nat) (x i : Operand)
  | s2b (x : Operand)
  | b2s (x : Operand)
  | frz (x : Operand)
  | call (f : FuncId) (args : List Operand)
  | cv (tb : Option (List (TypeId × FuncId))) (f : Operand) (args : List Operand)
  | bad
  deriving Inhabited

/-! From the model's operations. -/
/-- One cell (none), or so many. -/
def tkind (P : Program) (t : TypeId) : Option (Option Nat) :=
  match P.underlying t, P.info? t with
  | some (.struct _), some i => some (some i.size)
  | some (.array _ _), some i => some (some i.size)
  | some _, some i => if i.size = 1 then some none else none
  | _, _ => none
def zeroL (P : Program) (t : TypeId) : Option (List Value) :=
  ((P.info? t).bind (·.zero)).bind fun z => if z.cells.toList.all (·.oneCell') then some z.cells.toList else none
def plainEq (P : Program) (t : TypeId) : Option Nat :=
  match P.underlying t with
  | some (.int _) => some 0
  | some .bool => some 1
  | some .string => some 2
  | _ => none
/-- The fields of a struct that '==' compares cell by cell. -/
def flatEq (P : Program) (off : Nat) : List Field → Option (List Nat)
  | [] => some []
  | f :: fs => if f.name != "_" && f.offset == off then (plainEq P f.type).bind fun k => (flatEq P (off + 1) fs).map fun ks => k :: ks else none

/-- Is it an array type? -/
def isArr (P : Program) (t : TypeId) : Bool := match P.underlying t with
  | some (.array _ _) => true
  | _ => false
/-- A type's keys. -/
def keyKd (P : Program) (kt : TypeId) : Option KD := match P.underlying kt with
  | some (.struct fs) => if P.stoodInHeld kt = false then (flatEq P 0 fs.toList).map .f else none
  | some (.array n e) => match tkind P e with
    | some none => (plainEq P e).map fun k => .f (List.replicate n k)
    | _ => none
  | some d => some (.p d)
  | none => none
/-- The kind of a map's keys. -/
def mapKd (P : Program) (t : TypeId) : Option KD :=
  match P.underlying t with
  | some (.map kt _) => keyKd P kt
  | _ => none
/-- A method of a pointer, by its own name. -/
def mthF (P : Program) (name : String) (T : TypeId) : Option FuncId := match P.underlying T with
  | some (.pointer _) => match P.info? T with
    | some i => match i.methods.find? (·.name == name) with
      | some m => if m.path.isEmpty then match m.func with
          | some (f, true) => some f
          | _ => none
        else none
      | none => none
    | none => none
  | _ => none
def mthT (P : Program) (name : String) : List (TypeId × FuncId) := (List.range P.types.size).filterMap fun T => (mthF P name T).map fun f => (T, f)

def isCst : Operand → Bool
  | .const _ => true
  | _ => false

def compOp (P : Program) : Op → Option DOp
  | .move x => some (.mv x)
  | .assign x => some (.mv x)
  | .pick c a b => some (.pick c a b)
  | .alloc T => (zeroL P T).map fun z => .al T z
  | .box T x => some (.bx T x)
  | .build t ps => match P.underlying t, zeroL P t with
    | some (.struct fs), some z => if fs.toList.all (fun f => P.cellsOf f.type != 0) = false then none else (ps.toList.mapM fun p => (fs[p.1]?).map fun f => (f.offset, P.cellsOf f.type, p.2)).map fun l => .bld z l
    | _, _ => none
  | .buildSlice t n ps => match P.underlying t with
    | some (.slice e) => (zeroL P e).bind fun z => if isArr P e = false ∧ n * P.cellsOf e ≤ 65536 ∧ 0 < P.cellsOf e then some (.bsl e n (P.cellsOf e) z (ps.toList.map fun p => (p.1 * P.cellsOf e, P.cellsOf e, p.2))) else none
    | _ => none
  | .load t x => (tkind P t).map fun k => .ld k x
  | .store t a x => (tkind P t).map fun k => .st (k.getD 1) a x
  | .nilCheck x => some (.nck x)
  | .binOp op t x y _ =>
    match P.underlying t with
    | some (.int _) => some (.bin op x y)
    | some .string => some (.bin op x y)
    | some .bool => match op with
      | .eql => some (.bb false x y)
      | .neq => some (.bb true x y)
      | _ => none
    | some (.struct fs) => if P.eqGuardType P.depth t = false ∧ P.stoodInHeld t = false then match op with
      | .eql => (flatEq P 0 fs.toList).map fun ks => .eqs false ks x y
      | .neq => (flatEq P 0 fs.toList).map fun ks => .eqs true ks x y
      | _ => none
      else none
    | some (.slice _) => match op with
      | .eql => some (.nilq 0 false x y)
      | .neq => some (.nilq 0 true x y)
      | _ => none
    | some (.pointer _) => match op with
      | .eql => some (.nilq 1 false x y)
      | .neq => some (.nilq 1 true x y)
      | _ => none
    | some (.map _ _) => match op with
      | .eql => some (.nilq 2 false x y)
      | .neq => some (.nilq 2 true x y)
      | _ => none
    | some (.func _ _ _) => match op with
      | .eql => some (.nilq 3 false x y)
      | .neq => some (.nilq 3 true x y)
      | _ => none
    | some (.interface _) => if isCst x || isCst y then match op with
      | .eql => some (.nilq 4 false x y)
      | .neq => some (.nilq 4 true x y)
      | _ => none
      else none
    | _ => none
  | .unOp op _ x => some (.un op x)
  | .convert src dst x => match P.underlying src, P.underlying dst with
    | some (.int _), some (.int k) => some (.cvi k x)
    | some .string, some (.slice e) => match P.underlying e with
      | some (.int .u8) => some (.s2b x)
      | _ => none
    | some (.slice e), some .string => match P.underlying e with
      | some (.int .u8) => some (.b2s x)
      | _ => none
    | some (.slice e), some (.slice _) => if src = dst then match P.underlying e with
      | some (.int .u8) => some (.frz x)
      | _ => none
      else none
    | _, _ => none
  | .makeFunc f first cap => some (.mkf f first.toList cap.toList)
  | .makeSlice t l c => match P.underlying t with
    | some (.slice e) => if isArr P e = false then (zeroL P e).map fun z => .mks e (P.cellsOf e) (P.bytesOf e) z l c else none
    | _ => none
  | .slice t x lo hi mx => match mx, P.underlying t with
    | none, some (.slice e) => if (P.info? e).isSome then some (.sli (P.cellsOf e) x lo hi) else none
    | none, some .string => some (.sls x lo hi)
    | none, some (.array n e) => match lo, hi with
      | none, none => if 0 < P.cellsOf e ∧ 0 < n ∧ n ≤ 2147483648 then some (.sla t n (P.cellsOf e) x) else none
      | _, _ => none
    | _, _ => none
  | .fieldAddr t x f => match P.underlying t with
    | some (.struct fs) => (fs[f]?).bind fun f => if P.cellsOf f.type = 0 then none else some (.fa f.offset x)
    | _ => none
  | .field t x f => match P.underlying t with
    | some (.struct fs) => (fs[f]?).bind fun f => (tkind P f.type).map fun k => .fld f.offset k x
    | _ => none
  | .indexAddr t x i => match P.underlying t with
    | some (.slice e) => if P.cellsOf e = 0 then none else some (.ia (P.cellsOf e) x i)
    | some (.array n e) => if P.cellsOf e = 0 then none else some (.fx n (P.cellsOf e) x i)
    | _ => none
  | .index t x i => match P.underlying t with
    | some .string => some (.ixs x i)
    | _ => none
  | .extract x i => some (.ext x i)
  | .call c => match c.callee with
    | .value (.func f) => some (.call f c.args.toList)
    | .value f => some (.cv none f c.args.toList)
    | .invoke x name => some (.cv (some (mthT P name)) x c.args.toList)
    | .builtin .len => match c.args.toList, c.argTypes[0]? with
      | [x], some t => match P.underlying t with
        | some (.slice _) => some (.len x)
        | some .string => some (.lns x)
        | some (.map _ _) => some (.lnm x)
        | _ => none
      | _, _ => none
    | .builtin .append => match c.args.toList, c.argTypes.toList with
      | [s, x], [t, t'] => if t = t' then match P.underlying t with
        | some (.slice e) => (zeroL P e).bind fun z => if isArr P e = false ∧ z.length = P.cellsOf e then some (.app e (P.cellsOf e) (P.bytesOf e) s x) else none
        | _ => none
        else none
      | _, _ => none
    | .builtin .copy => match c.args.toList, c.argTypes[0]? with
      | [x, y], some t => match P.underlying t with
        | some (.slice e) => if 0 < P.cellsOf e then some (.cpy (P.cellsOf e) x y) else none
        | _ => none
      | _, _ => none
    | .builtin .min => match c.args.toList with
      | [x, y] => some (.mm false x y)
      | _ => none
    | .builtin .max => match c.args.toList with
      | [x, y] => some (.mm true x y)
      | _ => none
    | _ => none
  | .makeMap _ r => match r with
    | none => some .mkm
    | some _ => none
  | .lookup t x k ok => match P.underlying t with
    | some (.map kt et) => match keyKd P kt, (P.info? et).bind (·.zero) with
      | some kd, some z => some (.lkp kd z x k ok)
      | _, _ => none
    | _ => none
  | .mapEntry t x k => match P.underlying t with
    | some (.map kt et) => match keyKd P kt, (P.info? et).bind (·.zero) with
      | some kd, some z => some (.men kd z x k)
      | _, _ => none
    | _ => none
  | .entryStore _ x st y => some (.mes x st y)
  | .range t x => match P.underlying t with
    | some (.map _ _) => some (.rgm x)
    | some .string => some (.rgs x)
    | _ => none
  | .next x isS => if isS = false then some (.nxm false x) else some (.nxs x)
  | .entry x => some (.nxm true x)
  | .makeInterface t x => match P.underlying t with
    | some (.interface _) => none
    | some _ => some (.mki t x)
    | none => none
  | .typeAssert x _ t ok => match P.underlying t with
    | some (.interface _) => none
    | some _ => match (P.info? t).bind (·.zero) with
      | some z => some (.tas t z x ok)
      | none => none
    | none => none
  | .mapUpdate t x k y => (mapKd P t).map fun kd => .mup kd x k y
  | .insert t x k y => (mapKd P t).map fun kd => .mup kd x k y
  | _ => none

/-- An operation of a region: where its value goes, its guard (a slot), what must come before it. -/
structure DR where
  dst : Option Nat
  g : Option (Nat × Bool)
  op : DOp
  pre : List Nat
  deriving Inhabited

def DOp.opnds : DOp → List Operand
  | .mv x => [x]
  | .pick c a b => [c, a, b]
  | .al _ _ => []
  | .bx _ x => [x]
  | .bld _ ps => ps.map (·.2.2)
  | .bsl _ _ _ _ ps => ps.map (·.2.2)
  | .ld _ x => [x]
  | .st _ a x => [a, x]
  | .nck x => [x]
  | .bin _ x y => [x, y]
  | .bb _ x y => [x, y]
  | .eqs _ _ x y => [x, y]
  | .nilq _ _ x y => [x, y]
  | .un _ x => [x]
  | .cvi _ x => [x]
  | .fa _ x => [x]
  | .fld _ _ x => [x]
  | .ia _ x i => [x, i]
  | .ixs x i => [x, i]
  | .sli _ x lo hi => x :: (lo.toList ++ hi.toList)
  | .sls x lo hi => x :: (lo.toList ++ hi.toList)
  | .len x => [x]
  | .lns x => [x]
  | .app _ _ _ d x => [d, x]
  | .mks _ _ _ _ l c => [l, c]
  | .mkf _ fst cap => fst ++ cap
  | .ext x _ => [x]
  | .mm _ x y => [x, y]
  | .mkm => []
  | .lkp _ _ x k _ => [x, k]
  | .mup _ x k y => [x, k, y]
  | .men _ _ x k => [x, k]
  | .mes x q y => [x, q, y]
  | .rgm x => [x]
  | .nxm _ x => [x]
  | .rgs x => [x]
  | .nxs x => [x]
  | .mki _ x => [x]
  | .tas _ _ x _ => [x]
  | .sla _ _ _ x => [x]
  | .cpy _ x y => [x, y]
  | .lnm x => [x]
  | .fx _ _ x i => [x, i]
  | .s2b x => [x]
  | .b2s x => [x]
  | .frz x => [x]
  | .call _ args => args
  | .cv _ f args => f :: args
  | .bad => []

def DR.tmps (r : DR) : List Nat := r.op.opnds.filterMap (fun | .tmp t => some t | _ => none) ++ (match r.g with | some (t, _) => [t] | none => [])

/-- What must come before each operation, at any remove. -/
def ancs : List DR → List (List Nat) → List (List Nat)
  | [], acc => acc
  | r :: rs, acc => ancs rs (acc ++ [(r.pre ++ r.pre.flatMap fun j => (acc[j]?).getD []).eraseDups])

/-- Of an operation in a region that draws its order: what must come before it; its kind (0: it reads, 1: it makes something new, 2: it writes or calls, 3: it writes what only this region knows); whom it writes then; does one of kind 2 come before or behind it as the draw will have it? -/
structure OI where
  an : List Nat
  cls : Nat
  tgt : Nat
  wide : Bool
  deriving Inhabited
structure RI where
  l : List OI
  ok : Bool
  deriving Inhabited

def DOp.kind : DOp → Nat
  | .al _ _ => 1
  | .bx _ _ => 1
  | .bsl _ _ _ _ _ => 1
  | .mks _ _ _ _ _ _ => 1
  | .mkm => 1
  | .st _ _ _ => 2
  | .app _ _ _ _ _ => 2
  | .mup _ _ _ _ => 2
  | .call _ _ => 2
  | .cv _ _ _ => 2
  | .men _ _ _ _ => 2
  | .mes _ _ _ => 2
  | .rgm _ => 1
  | .nxm _ _ => 2
  | .rgs _ => 1
  | .nxs _ => 2
  | .cpy _ _ _ => 2
  | .frz _ => 2
  | .bad => 2
  | _ => 0
/-- Does it look at what the objects hold that its operands name? -/
def DOp.rdC : DOp → Bool
  | .ld _ _ => true
  | .st _ _ _ => true
  | .app _ _ _ _ _ => true
  | .lkp _ _ _ _ _ => true
  | .mup _ _ _ _ => true
  | .men _ _ _ _ => true
  | .mes _ _ _ => true
  | .rgm _ => true
  | .nxm _ _ => true
  | .nxs _ => true
  | .lnm _ => true
  | .sla _ _ _ _ => true
  | .cpy _ _ _ => true
  | .b2s _ => true
  | .frz _ => true
  | .call _ _ => true
  | .cv _ _ _ => true
  | .bad => true
  | _ => false
def dstIx (rs : List DR) (t : Nat) : Option Nat := rs.findIdx? (fun r => r.dst == some t)
/-- The map that an operation of the region has made, if the one here writes it. -/
def mupTgt (rs : List DR) : DOp → Option Nat
  | .mup _ (.tmp t) _ _ => match dstIx rs t with
    | some j => match rs[j]? with
      | some r => match r.op with
        | .mkm => some j
        | _ => none
      | none => none
    | none => none
  | _ => none

def regInfo (rs : List DR) : RI :=
  let an := ancs rs []
  let ix := List.range rs.length
  let A (i j : Nat) : Bool := ((an[i]?).getD []).contains j
  let kd (i : Nat) : Nat := ((rs[i]?).map fun r => if (mupTgt rs r.op).isSome then 3 else r.op.kind).getD 0
  let ks := ix.map kd
  let K (i : Nat) : Nat := (ks[i]?).getD 0
  let mains := ix.filter fun i => K i == 2
  let l := rs.zipIdx.map fun (r, i) => { an := (an[i]?).getD [], cls := K i, tgt := (mupTgt rs r.op).getD 0, wide := mains.any fun q => !A q i && !A i q : OI }
  let ok :=
    (rs.zipIdx.all fun (r, i) => (r.pre.all fun j => decide (j < i)) &&
      (match r.dst with | some t => dstIx rs t == some i | none => true) &&
      r.tmps.all fun t => match dstIx rs t with | some p => A i p || A p i || p == i | none => true) &&
    (mains.all fun b => mains.all fun a => !(decide (a < b)) || A b a) &&
    (l.zipIdx.all fun (o, w) => o.cls != 3 || (A w o.tgt && ix.all fun i => !A i o.tgt || A i w || A w i || w == i))
  { l := l, ok := ok }

inductive DC where
  | skip
  | ret
  | exit (id : Nat)
  | seq (a b : DC)
  | cond (x : Operand) (a b : DC)
  | blk (id : Nat) (c : DC)
  | loop (c : DC)
  | reg (draw : Bool) (ops : List DR) (info : RI)
  | rng (g : Operand) (ps : List Nat) (assign body : DC)
  | dfq (t : Nat) (g : FuncId) (cap : List Operand)
  | bad
  deriving Inhabited

def callable (P : Program) (f : FuncId) : Bool :=
  match P.funcs[f]? with
  | some fn => fn.body.isSome && fn.name != "runtime.NumGoroutine"
  | none => false

def dstOk (nt : Nat) : Option Nat → Bool
  | some t => decide (t < nt)
  | none => true

def compR (P : Program) (nt : Nat) (draw : Bool) (ops : Array Oper) (o : Oper) : Option DR :=
  if dstOk nt o.dst then
    match (match o.guard with | none => some none | some (j, b) => ((ops[j]?).bind (·.dst)).map fun t => some (t, b) : Option (Option (Nat × Bool))) with
    | some g => some { dst := o.dst, g := g, op := (compOp P o.op).getD .bad, pre := if draw then (o.after.toList.filterMap fun e => if Region.binds .any e then some e.on else none).eraseDups else [] }
    | none => none
  else none

/-- A closure that does nothing where nothing panics, made and deferred. -/
def dfqOf (P : Program) (nt : Nat) (ops : Array Oper) : Option (Nat × FuncId × List Operand) := match ops.toList with
  | [o, p] => match o.op, o.dst, o.guard, p.op, p.dst, p.guard with
    | .makeFunc (.func g) first cap, some t, none, .defer c, none, none => match c.callee with
      | .value (.tmp t') => if t = t' ∧ first.size = 0 ∧ c.args.size = 0 ∧ t < nt ∧ quietF P g = true then some (t, g, cap.toList) else none
      | _ => none
    | _, _, _, _, _, _ => none
  | _ => none
theorem dfqOf_some {P : Program} {nt : Nat} {ops : Array Oper} {t : Nat} {g : FuncId} {cap : List Operand} (h : dfqOf P nt ops = some (t, g, cap)) :
    ∃ o p first c cs, ops = #[o, p] ∧ o.op = .makeFunc (.func g) first cs ∧ cap = cs.toList ∧ o.dst = some t ∧ o.guard = none ∧ p.op = .defer c ∧ p.dst = none ∧ p.guard = none ∧ c.callee = .value (.tmp t) ∧ first.size = 0 ∧ c.args.size = 0 ∧ t < nt ∧ quietF P g = true := by
  unfold dfqOf at h
  split at h
  rotate_left
  · cases h
  rename_i o p ho
  have e : ops = #[o, p] := by apply Array.ext'; simpa using ho
  split at h
  rotate_left
  · cases h
  rename_i g' first cs t' c h1 h2 h3 h4 h5 h6
  split at h
  rotate_left
  · cases h
  rename_i t'' h7
  split at h
  · rename_i h8
    cases h
    obtain ⟨rfl, h8⟩ := h8
    exact ⟨o, p, first, c, cs, e, h1, rfl, h2, h3, h4, h5, h6, h7, h8⟩
  · cases h
def compC (P : Program) (nt : Nat) : Code → Option DC
  | .skip => some .skip
  | .ret => some .ret
  | .exit id => some (.exit id)
  | .seq a b => match compC P nt a, compC P nt b with
    | some x, some y => some (.seq x y)
    | _, _ => none
  | .cond x a b => match compC P nt a, compC P nt b with
    | some y, some z => some (.cond x y z)
    | _, _ => none
  | .block id c => (compC P nt c).map (.blk id)
  | .loop c => (compC P nt c).map .loop
  | .region _ ops draw => match draw, dfqOf P nt ops with
    | false, some (t, g, cap) => some (.dfq t g cap)
    | _, _ => (ops.toList.mapM (compR P nt draw ops)).map fun l => .reg draw l (if draw then regInfo l else ⟨[], true⟩)
  | .rangeFunc g ps a b => match compC P nt a, compC P nt b with
    | some x, some y => if ps.toList.all (· < nt) then some (.rng g ps.toList x y) else none
    | _, _ => none
  | _ => some .bad


theorem compC_reg {P : Program} {nt : Nat} {code : Code} {dr : Bool} {ops : List DR} {info : RI} (h : compC P nt code = some (.reg dr ops info)) : ∃ id os, code = .region id os dr ∧ os.toList.mapM (compR P nt dr os) = some ops ∧ (dr = true → info = regInfo ops) := by
  cases code <;> simp only [compC] at h
  case region id os d =>
    split at h
    · cases h
    · obtain ⟨l, hl, h'⟩ := Option.map_eq_some_iff.1 h
      cases h'
      exact ⟨id, os, rfl, hl, fun hd => by simp [hd]⟩
  all_goals (first | (cases h; done) | (split at h <;> cases h; done) | (split at h <;> (first | (cases h; done) | (obtain ⟨_, _, h'⟩ := Option.map_eq_some_iff.1 h; cases h'; done)); done) | (obtain ⟨_, _, h'⟩ := Option.map_eq_some_iff.1 h; cases h'; done) | (split at h <;> (first | (cases h; done) | (split at h <;> cases h; done))))
theorem compC_dfq {P : Program} {nt : Nat} {code : Code} {t : Nat} {g : FuncId} {cap : List Operand} (h : compC P nt code = some (.dfq t g cap)) : ∃ id os, code = .region id os false ∧ dfqOf P nt os = some (t, g, cap) := by
  cases code <;> simp only [compC] at h
  case region id os d =>
    split at h
    · rename_i hq
      cases h
      exact ⟨id, os, rfl, hq⟩
    · obtain ⟨l, hl, h'⟩ := Option.map_eq_some_iff.1 h
      cases h'
  all_goals (first | (cases h; done) | (split at h <;> cases h; done) | (split at h <;> (first | (cases h; done) | (obtain ⟨_, _, h'⟩ := Option.map_eq_some_iff.1 h; cases h'; done)); done) | (obtain ⟨_, _, h'⟩ := Option.map_eq_some_iff.1 h; cases h'; done) | (split at h <;> (first | (cases h; done) | (split at h <;> cases h; done))))
theorem compC_skip {P : Program} {nt : Nat} {code : Code} (h : compC P nt code = some .skip) : code = .skip := by
  cases code <;> simp only [compC] at h
  case skip => rfl
  all_goals (first | (cases h; done) | (split at h <;> cases h; done) | (split at h <;> (first | (cases h; done) | (obtain ⟨_, _, h'⟩ := Option.map_eq_some_iff.1 h; cases h'; done)); done) | (obtain ⟨_, _, h'⟩ := Option.map_eq_some_iff.1 h; cases h'; done) | (split at h <;> (first | (cases h; done) | (split at h <;> cases h; done))))
theorem compC_ret {P : Program} {nt : Nat} {code : Code} (h : compC P nt code = some .ret) : code = .ret := by
  cases code <;> simp only [compC] at h
  case ret => rfl
  all_goals (first | (cases h; done) | (split at h <;> cases h; done) | (split at h <;> (first | (cases h; done) | (obtain ⟨_, _, h'⟩ := Option.map_eq_some_iff.1 h; cases h'; done)); done) | (obtain ⟨_, _, h'⟩ := Option.map_eq_some_iff.1 h; cases h'; done) | (split at h <;> (first | (cases h; done) | (split at h <;> cases h; done))))
theorem compC_exit {P : Program} {nt : Nat} {code : Code} {id : Nat} (h : compC P nt code = some (.exit id)) : code = .exit id := by
  cases code <;> simp only [compC] at h
  case exit id' => cases h; rfl
  all_goals (first | (cases h; done) | (split at h <;> cases h; done) | (split at h <;> (first | (cases h; done) | (obtain ⟨_, _, h'⟩ := Option.map_eq_some_iff.1 h; cases h'; done)); done) | (obtain ⟨_, _, h'⟩ := Option.map_eq_some_iff.1 h; cases h'; done) | (split at h <;> (first | (cases h; done) | (split at h <;> cases h; done))))
theorem compC_seq {P : Program} {nt : Nat} {code : Code} {x y : DC} (h : compC P nt code = some (.seq x y)) : ∃ a b, code = .seq a b ∧ compC P nt a = some x ∧ compC P nt b = some y := by
  cases code <;> simp only [compC] at h
  case seq a b =>
    split at h
    · rename_i h1 h2; cases h; exact ⟨a, b, rfl, h1, h2⟩
    · cases h
  all_goals (first | (cases h; done) | (split at h <;> cases h; done) | (split at h <;> (first | (cases h; done) | (obtain ⟨_, _, h'⟩ := Option.map_eq_some_iff.1 h; cases h'; done)); done) | (obtain ⟨_, _, h'⟩ := Option.map_eq_some_iff.1 h; cases h'; done) | (split at h <;> (first | (cases h; done) | (split at h <;> cases h; done))))
theorem compC_cond {P : Program} {nt : Nat} {code : Code} {c : Operand} {x y : DC} (h : compC P nt code = some (.cond c x y)) : ∃ a b, code = .cond c a b ∧ compC P nt a = some x ∧ compC P nt b = some y := by
  cases code <;> simp only [compC] at h
  case cond c' a b =>
    split at h
    · rename_i h1 h2; cases h; exact ⟨a, b, rfl, h1, h2⟩
    · cases h
  all_goals (first | (cases h; done) | (split at h <;> cases h; done) | (split at h <;> (first | (cases h; done) | (obtain ⟨_, _, h'⟩ := Option.map_eq_some_iff.1 h; cases h'; done)); done) | (obtain ⟨_, _, h'⟩ := Option.map_eq_some_iff.1 h; cases h'; done) | (split at h <;> (first | (cases h; done) | (split at h <;> cases h; done))))
theorem compC_blk {P : Program} {nt : Nat} {code : Code} {id : Nat} {x : DC} (h : compC P nt code = some (.blk id x)) : ∃ a, code = .block id a ∧ compC P nt a = some x := by
  cases code <;> simp only [compC] at h
  case block id' a =>
    obtain ⟨c', hc', h'⟩ := Option.map_eq_some_iff.1 h
    cases h'
    exact ⟨a, rfl, hc'⟩
  all_goals (first | (cases h; done) | (split at h <;> cases h; done) | (split at h <;> (first | (cases h; done) | (obtain ⟨_, _, h'⟩ := Option.map_eq_some_iff.1 h; cases h'; done)); done) | (obtain ⟨_, _, h'⟩ := Option.map_eq_some_iff.1 h; cases h'; done) | (split at h <;> (first | (cases h; done) | (split at h <;> cases h; done))))
theorem compC_loop {P : Program} {nt : Nat} {code : Code} {x : DC} (h : compC P nt code = some (.loop x)) : ∃ a, code = .loop a ∧ compC P nt a = some x := by
  cases code <;> simp only [compC] at h
  case loop a =>
    obtain ⟨c', hc', h'⟩ := Option.map_eq_some_iff.1 h
    cases h'
    exact ⟨a, rfl, hc'⟩
  all_goals (first | (cases h; done) | (split at h <;> cases h; done) | (split at h <;> (first | (cases h; done) | (obtain ⟨_, _, h'⟩ := Option.map_eq_some_iff.1 h; cases h'; done)); done) | (obtain ⟨_, _, h'⟩ := Option.map_eq_some_iff.1 h; cases h'; done) | (split at h <;> (first | (cases h; done) | (split at h <;> cases h; done))))
theorem compC_rng {P : Program} {nt : Nat} {code : Code} {g : Operand} {ps : List Nat} {x y : DC} (h : compC P nt code = some (.rng g ps x y)) :
    ∃ qs a b, code = .rangeFunc g qs a b ∧ qs.toList = ps ∧ (∀ t ∈ ps, t < nt) ∧ compC P nt a = some x ∧ compC P nt b = some y := by
  cases code <;> simp only [compC] at h
  case rangeFunc g' qs a b =>
    split at h
    · rename_i h1 h2
      split at h
      · rename_i h3
        cases h
        exact ⟨qs, a, b, rfl, rfl, fun t ht => by simpa using List.all_eq_true.1 h3 t ht, h1, h2⟩
      · cases h
    · cases h
  all_goals (first | (cases h; done) | (split at h <;> cases h; done) | (split at h <;> (first | (cases h; done) | (obtain ⟨_, _, h'⟩ := Option.map_eq_some_iff.1 h; cases h'; done)); done) | (obtain ⟨_, _, h'⟩ := Option.map_eq_some_iff.1 h; cases h'; done) | (split at h <;> (first | (cases h; done) | (split at h <;> cases h; done))))

end Go.DD
