/- The operations on deep values: compiled from the model's, and what each leaves. -/
import Derived.Test.YtpaggdhijeabnaaGreatDoorHb
import Derived.Laws.BytesArg
namespace Go.DD
open Go.RowKit (Below)

def ofV : Value → DV
  | .agg cs => if cs.toList.all (·.oneCell') then .agg (cs.toList.map .v) else .any
  | .tuple _ => .any
  | x => .v x

/-- Are all the objects there that it names? -/
def DS.live (s : DS) (d : DV) : Bool := d.refs.all fun id => (s.ho id).isSome
def DS.ev (s : DS) : Operand → DV
  | .tmp t => if s.live (s.sv t) = true then s.sv t else .any
  | .const x => ofV x
  | .func f => .fn (.func f) [.tup []]
  | .global g => gvD g

/-- .. as it stands in its slot. -/
def DS.rv (s : DS) : Operand → DV
  | .tmp t => s.sv t
  | x => s.ev x

def DV.cells : DV → List DV
  | .agg cs => cs
  | d => [d]
/-- Its cells are values of one cell each. -/
def DV.okC : DV → Bool
  | .v x => x.oneCell'
  | .tup _ => false
  | .any => false
  | _ => true

def binI (op : BinOp) (k : IntKind) (a b : Int) : Option Value :=
  match op with
  | .add => some (.int k (k.wrap (a + b)))
  | .sub => some (.int k (k.wrap (a - b)))
  | .mul => some (.int k (k.wrap (a * b)))
  | .quo => if b = 0 then none else some (.int k (k.wrap (a.tdiv b)))
  | .rem => if b = 0 then none else some (.int k (a.tmod b))
  | .and => some (.int k (k.wrap ((BitVec.ofInt k.bits a &&& BitVec.ofInt k.bits b).toNat : Nat)))
  | .or => some (.int k (k.wrap ((BitVec.ofInt k.bits a ||| BitVec.ofInt k.bits b).toNat : Nat)))
  | .xor => some (.int k (k.wrap ((BitVec.ofInt k.bits a ^^^ BitVec.ofInt k.bits b).toNat : Nat)))
  | .andNot => some (.int k (k.wrap ((BitVec.ofInt k.bits a &&& ~~~ BitVec.ofInt k.bits b).toNat : Nat)))
  | .eql => some (.bool (a == b))
  | .neq => some (.bool (a != b))
  | .lss => some (.bool (decide (a < b)))
  | .leq => some (.bool (decide (a ≤ b)))
  | .gtr => some (.bool (decide (b < a)))
  | .geq => some (.bool (decide (b ≤ a)))
  | _ => none

def shI (op : BinOp) (k : IntKind) (a b : Int) : Option Value :=
  if b < 0 then none else
  match op with
  | .shl => some (.int k (k.wrap (a * 2 ^ (min b.toNat k.bits))))
  | .shr => some (.int k (a.fdiv (2 ^ (min b.toNat k.bits))))
  | _ => none

def binS (op : BinOp) (x y : ByteArray) : Option Value :=
  match op with
  | .add => if x.size + y.size ≤ 2147483648 then some (.string (x ++ y)) else none
  | .eql => some (.bool (x.toList == y.toList))
  | .neq => some (.bool !(x.toList == y.toList))
  | .lss => some (.bool (Op.bytesLess x.toList y.toList))
  | .leq => some (.bool (Op.bytesLess x.toList y.toList || x.toList == y.toList))
  | .gtr => some (.bool !(Op.bytesLess x.toList y.toList || x.toList == y.toList))
  | .geq => some (.bool !(Op.bytesLess x.toList y.toList))
  | _ => none

def isSh : BinOp → Bool
  | .shl | .shr => true
  | _ => false

/-- '+ - < ==' and their kin, on integers and strings. -/
def binV (op : BinOp) : DV → DV → Option Value
  | .v (.int k a), .v (.int k' b) => if isSh op then shI op k a b else if k = k' then binI op k a b else none
  | .v (.string a), .v (.string b) => binS op a b
  | _, _ => none

/-- Plain cells that '==' compares (0: integers, 1: bools, 2: strings): are they equal? -/
def eqC : Nat → DV → DV → Option Bool
  | 0, .v (.int k a), .v (.int k' b) => if k = k' then some (a == b) else none
  | 1, .v (.bool a), .v (.bool b) => some (a == b)
  | 2, .v (.string a), .v (.string b) => some (a.toList == b.toList)
  | _, _, _ => none
def eqL : List Nat → List DV → List DV → Option Bool
  | [], [], [] => some true
  | k :: ks, c :: cs, d :: ds => match eqC k c d with
    | some true => eqL ks cs ds
    | some false => some false
    | none => none
  | _, _, _ => none

/-- Is it nil? (0: a slice, 1: a pointer, 2: a map, 3: a function, 4: an interface; of what is known to be or not) -/
def isNil : Nat → DV → Option Bool
  | 0, .v (.slice none _ _) => some true
  | 0, .sl _ n => if 0 < n then some false else none
  | 0, .ms _ _ n _ => if 0 < n then some false else none
  | 1, .v (.pointer none) => some true
  | 1, .ia _ => some false
  | 1, .pt _ _ => some false
  | 2, .v (.map none) => some true
  | 2, .mp _ => some false
  | 3, .v .nilFunc => some true
  | 3, .fn _ _ => some false
  | 4, .v .nilIface => some true
  | 4, .ifc _ _ => some false
  | _, _ => none

def unV (op : UnOp) : DV → Option Value
  | .v (.int k n) => match op with
    | .neg => some (.int k (k.wrap (0 - n)))
    | .xor => some (.int k (k.wrap ((BitVec.ofInt k.bits (if k.signed then -1 else k.max) ^^^ BitVec.ofInt k.bits n).toNat : Nat)))
    | _ => none
  | .v (.bool b) => match op with
    | .not => some (.bool !b)
    | _ => none
  | _ => none

def fillD : List DV → List (Nat × Nat × DV) → Option (List DV)
  | cs, [] => some cs
  | cs, (off, sz, d) :: ps => if d.okC = true ∧ d.cells.length = sz ∧ off + sz ≤ cs.length then fillD (cs.take off ++ d.cells ++ cs.drop (off + sz)) ps else none

/-- A part of 'k' cells, or one. -/
def partD (k : Option Nat) (cs : List DV) : Option DV :=
  match k with
  | none => match cs with
    | c :: _ => some c
    | [] => none
  | some n => if n ≤ cs.length then some (.agg (cs.take n)) else none

def intD : DV → Option Int
  | .v (.int _ n) => some n
  | _ => none

def bndD (s : DS) (dflt : Int) : Option Operand → Option Int
  | none => some dflt
  | some x => intD (s.ev x)

/-- The cells and the length of what is appended. -/
def srcD (s : DS) (T : TypeId) (es : Nat) : DV → Option (List DV × Nat)
  | .sl cs m => some (cs, m)
  | .v (.slice none 0 _) => some ([], 0)
  | .ms id off m es' => match s.ho id with
    | some (.row T' cs) => if T' = T ∧ es' = es ∧ off + m * es ≤ cs.length then some ((cs.drop off).take (m * es), m) else none
    | _ => none
  | _ => none
/-- The own row that is appended to: its number, its cells, its length. -/
def dstD (s : DS) (T : TypeId) (es : Nat) : DV → Option (Option Nat × List DV × Nat)
  | .v (.slice none 0 0) => some (none, [], 0)
  | .ms id 0 n es' => match s.ho id with
    | some (.row T' cs) => if T' = T ∧ es' = es ∧ cs.length = n * es then some (some id, cs, n) else none
    | _ => none
  | _ => none

def isKeyB : TypeDesc → Value → Bool
  | .bool, .bool _ => true
  | .int k, .int k' _ => k' == k
  | .string, .string _ => true
  | _, _ => false
/-- Two keys of one kind. -/
def sameD : TypeDesc → Value → Value → Option Bool
  | .int _, .int k a, .int k' b => if k = k' then some (a == b) else none
  | .string, .string a, .string b => some (a.data.toList == b.data.toList)
  | .bool, .bool a, .bool b => some (a == b)
  | _, _, _ => none
/-- Plain cells of the kinds of a key. -/
def cellsB : List Nat → List Value → Bool
  | [], [] => true
  | 0 :: ks, .int _ _ :: vs => cellsB ks vs
  | 1 :: ks, .bool _ :: vs => cellsB ks vs
  | 2 :: ks, .string _ :: vs => cellsB ks vs
  | _, _ => false
def isKeyK : KD → Value → Bool
  | .p d, v => isKeyB d v
  | .f ks, .agg cs => cellsB ks cs.toList
  | _, _ => false
def sameK : KD → Value → Value → Option Bool
  | .p d, a, b => sameD d a b
  | .f ks, .agg a, .agg b => eqL ks (a.toList.map .v) (b.toList.map .v)
  | _, _, _ => none
/-- A key, as the model has it. -/
def unvL : List DV → Option (List Value)
  | [] => some []
  | .v x :: l => if x.oneCell' then (unvL l).map fun r => x :: r else none
  | _ => none
def kvOf : DV → Option Value
  | .v x => some x
  | .agg cs => (unvL cs).map fun l => .agg l.toArray
  | _ => none
def findD (d : KD) (k : Value) : List ME → Nat → Option (Option (Nat × ME))
  | [], _ => some none
  | p :: ps, i => match sameK d k p.k with
    | some true => some (some (i, p))
    | some false => findD d k ps (i + 1)
    | none => none

def lkRes (ok : Bool) (v : DV) (b : Bool) : DV := if ok then .tup [v, .v (.bool b)] else v
/-- The entries behind a write, and the next stamp. -/
def putD (kd : KD) (kv : Value) (v : DV) (ck : Nat) (es : List ME) : Option (Nat × List ME) :=
  match findD kd kv es 0 with
  | some (some (i, e)) => some (ck, es.set i ⟨kv, v, e.b⟩)
  | some none => some (ck + 1, es ++ [⟨kv, v, ck⟩])
  | none => none
def findB (n : Int) : List ME → Nat → Option Nat
  | [], _ => none
  | p :: ps, i => if (p.b : Int) == n then some i else findB n ps (i + 1)
/-- What a range over a map may come to next. -/
def candD (since : Nat) (seen : List Nat) (es : List ME) : List (Option ME) :=
  let left := es.filter fun e => !seen.contains e.b
  let old := left.filter fun e => decide (e.b < since)
  let new := left.filter fun e => decide (e.b ≥ since)
  (if old.isEmpty then [none] else []) ++ (old ++ new).map some
def nxtD (m : DV) (since : Nat) (seen : List Nat) (ck : Nat) : Option ME → DV × Option DObj
  | some e => (.tup [.v (.bool true), ofV e.k, e.v], some (.miter m since (seen ++ [e.b]) ck))
  | none => (.tup [.v (.bool false)], none)
/-- The cells and the length of what is copied. -/
def srcC (s : DS) (es : Nat) : DV → Option (List DV × Nat)
  | .sl cs m => some (cs, m)
  | .v (.slice none 0 _) => some ([], 0)
  | .ms id off m es' => match s.ho id with
    | some (.row _ cs) => if es' = es ∧ off + m * es ≤ cs.length then some ((cs.drop off).take (m * es), m) else none
    | _ => none
  | _ => none

/-- Bytes as numbers. -/
def numsV : List DV → Option (List Int)
  | [] => some []
  | .v (.int .u8 n) :: cs => (numsV cs).map (n :: ·)
  | _ => none
theorem numsV_get : ∀ {cs : List DV} {ns : List Int}, numsV cs = some ns → ns.length = cs.length ∧ ∀ (j : Nat) (d : DV), cs[j]? = some d → ∃ n, ns[j]? = some n ∧ d = .v (.int .u8 n)
  | [], ns, h => by cases h; simp
  | .v (.int .u8 n) :: cs, ns, h => by
    obtain ⟨l, hl, rfl⟩ := Option.map_eq_some_iff.1 (show (numsV cs).map (n :: ·) = some ns from h)
    obtain ⟨h1, h2⟩ := numsV_get hl
    refine ⟨by simp [h1], fun j d hd => ?_⟩
    cases j with
    | zero => cases hd; exact ⟨n, rfl, rfl⟩
    | succ j => simpa using h2 j d (by simpa using hd)
/-- What an operation does to the own objects: a new one; one written; one made anew out of an old one. -/
inductive Upd where
  | keep
  | lay (o : DObj)
  | wr (id : Nat) (o : DObj)
  | mv (old : Option Nat) (o : DObj)
  deriving Inhabited
def strikeO (ho : Nat → Option DObj) : Option Nat → Nat → Option DObj
  | none => ho
  | some i => setH ho i none
def Upd.app (nid : Nat) (ho : Nat → Option DObj) : Upd → Nat → Option DObj
  | .keep => ho
  | .lay o => setH ho nid (some o)
  | .wr id o => setH ho id (some o)
  | .mv old o => setH (strikeO ho old) nid (some o)
def DS.upd (s : DS) (nid : Nat) (u : Upd) : DS := { s with ho := u.app nid s.ho }
def Upd.new : Upd → Bool
  | .lay _ => true
  | .mv _ _ => true
  | _ => false

/-- A plain part of a tuple. -/
def extV : DV → Nat → Option Value
  | .tup ds, i => match ds[i]? with
    | some (.v v) => some v
    | _ => none
  | _, _ => none
theorem extV_some {d : DV} {i : Nat} {v : Value} (h : extV d i = some v) : ∃ ds, d = .tup ds ∧ ds[i]? = some (.v v) := by
  unfold extV at h
  split at h
  · split at h
    · cases h; exact ⟨_, rfl, by assumption⟩
    · cases h
  · cases h

/-- What an operation leaves: its value, and the state. 'nid': the number for a new object. -/
def execU (nid : Nat) (s : DS) : DOp → Option (DV × Upd)
  | .mv x => some (s.rv x, .keep)
  | .pick c a b => match s.ev c with
    | .v (.bool t) => some (if t then s.rv a else s.rv b, .keep)
    | _ => none
  | .al T z => some (.pt nid 0, .lay (.row T (z.map .v)))
  | .bx T x => if (s.ev x).okC then some (.pt nid 0, .lay (.row T (s.ev x).cells)) else none
  | .bld z ps => match fillD (z.map .v) (ps.map fun p => (p.1, p.2.1, s.ev p.2.2)) with
    | some cs => some (.agg cs, .keep)
    | none => none
  | .bsl T n es z ps => match fillD ((List.replicate n (z.map .v)).flatten) (ps.map fun p => (p.1, p.2.1, s.ev p.2.2)) with
    | some cs => if z.length = es then some (.ms nid 0 n es, .lay (.row T cs)) else none
    | none => none
  | .ld k x => match s.ev x with
    | .ia cs => (partD k cs).map fun d => (d, .keep)
    | .pt id off => match s.ho id with
      | some (.row _ cs) => (partD k (cs.drop off)).map fun d => (d, .keep)
      | _ => none
    | _ => none
  | .st n a x => match s.ev a with
    | .pt id off => match s.ho id with
      | some (.row T cs) => if (s.ev x).okC = true ∧ (s.ev x).cells.length = n ∧ off + n ≤ cs.length then some (.any, .wr id (.row T (cs.take off ++ (s.ev x).cells ++ cs.drop (off + n)))) else none
      | _ => none
    | _ => none
  | .nck x => match s.ev x with
    | .ia cs => some (.ia cs, .keep)
    | .pt id off => some (.pt id off, .keep)
    | .fn (.func f) cs => some (.fn (.func f) cs, .keep)
    | .ifc T d => some (.ifc T d, .keep)
    | _ => none
  | .bin op x y => (binV op (s.ev x) (s.ev y)).map fun v => (.v v, .keep)
  | .bb neg x y => match s.ev x, s.ev y with
    | .v (.bool a), .v (.bool b) => some (.v (.bool (xor neg (a == b))), .keep)
    | _, _ => none
  | .eqs neg ks x y => match s.ev x, s.ev y with
    | .agg xs, .agg ys => (eqL ks xs ys).map fun b => (.v (.bool (xor neg b)), .keep)
    | _, _ => none
  | .nilq k neg x y => match isNil k (s.ev x), isNil k (s.ev y) with
    | some true, some b => some (.v (.bool (xor neg b)), .keep)
    | some b, some true => some (.v (.bool (xor neg b)), .keep)
    | _, _ => none
  | .un op x => (unV op (s.ev x)).map fun v => (.v v, .keep)
  | .cvi k x => match s.ev x with
    | .v (.int _ n) => some (.v (.int k (k.wrap n)), .keep)
    | _ => none
  | .fa off x => match s.ev x with
    | .ia cs => some (.ia (cs.drop off), .keep)
    | .pt id o => some (.pt id (o + off), .keep)
    | _ => none
  | .fld off k x => match s.ev x with
    | .agg cs => (partD k (cs.drop off)).map fun d => (d, .keep)
    | _ => none
  | .ia es x i => match intD (s.ev i), s.ev x with
    | some j, .sl cs n => if 0 ≤ j ∧ j < n then some (.ia (cs.drop (j.toNat * es)), .keep) else none
    | some j, .ms id off n _ => if 0 ≤ j ∧ j < n then some (.pt id (off + j.toNat * es), .keep) else none
    | _, _ => none
  | .ixs x i => match intD (s.ev i), s.ev x with
    | some j, .v (.string b) => if 0 ≤ j then (b[j.toNat]?).map fun c => (.v (.int .u8 (c.toNat : Int)), .keep) else none
    | _, _ => none
  | .sli es x lo hi => match s.ev x with
    | .sl cs n => match bndD s 0 lo, bndD s n hi with
      | some l, some h => if 0 ≤ l ∧ l ≤ h ∧ h ≤ n then some (.sl ((cs.drop (l.toNat * es)).take ((h.toNat - l.toNat) * es)) (h.toNat - l.toNat), .keep) else none
      | _, _ => none
    | .ms id off n es' => match bndD s 0 lo, bndD s n hi with
      | some l, some h => if es' = es ∧ 0 ≤ l ∧ l ≤ h ∧ h ≤ n then some (if l < h ∨ l = 0 then .ms id (off + l.toNat * es) (h.toNat - l.toNat) es else .sl [] 0, .keep) else none
      | _, _ => none
    | .v (.slice none 0 0) => match bndD s 0 lo, bndD s 0 hi with
      | some l, some h => if l = 0 ∧ h = 0 then some (.v (.slice none 0 0), .keep) else none
      | _, _ => none
    | _ => none
  | .sls x lo hi => match s.ev x with
    | .v (.string b) => match bndD s 0 lo, bndD s b.size hi with
      | some l, some h => if 0 ≤ l ∧ l ≤ h ∧ h ≤ b.size then some (.v (.string (b.extract l.toNat h.toNat)), .keep) else none
      | _, _ => none
    | _ => none
  | .len x => match s.ev x with
    | .sl _ n => some (.v (.int .i64 n), .keep)
    | .ms _ _ n _ => some (.v (.int .i64 n), .keep)
    | .v (.slice none n _) => some (.v (.int .i64 n), .keep)
    | _ => none
  | .lns x => match s.ev x with
    | .v (.string b) => some (.v (.int .i64 b.size), .keep)
    | _ => none
  | .app T es bytes d x => match dstD s T es (s.ev d), srcD s T es (s.ev x) with
    | some (old, cs, n), some (news, m) => if news.length = m * es ∧ 0 < es ∧ n + m ≤ 2147483648 ∧ bytes ≤ 65536 then
        some (.ms nid 0 (n + m) es, .mv old (.row T (cs ++ news))) else none
    | _, _ => none
  | .mks T es bytes z l c => match intD (s.ev l), intD (s.ev c) with
    | some l, some c => if 0 ≤ l ∧ l ≤ c ∧ c ≤ 2147483648 ∧ bytes ≤ 65536 ∧ z.length = es ∧ 0 < es then
        some (.ms nid 0 l.toNat es, .lay (.row T ((List.replicate l.toNat (z.map .v)).flatten))) else none
    | _, _ => none
  | .mkf f fst cap => some (.fn f (.tup (fst.map s.ev) :: cap.map s.ev), .keep)
  | .ext x i => match extV (s.rv x) i with
    | some v => some (.v v, .keep)
    | none => match s.ev x with
      | .tup ds => (ds[i]?).map fun d => (d, .keep)
      | _ => none
  | .mm mx x y => match s.ev x, s.ev y with
    | .v (.int k a), .v (.int _ b) => some (.v (.int k (if mx then (if b > a then b else a) else (if b < a then b else a))), .keep)
    | _, _ => none
  | .mkm => some (.mp nid, .lay (.mapo 0 []))
  | .lkp kd z x k ok => match kvOf (s.ev k) with
    | some kv => if isKeyK kd kv = true then (match s.ev x with
        | .v (.map none) => some (lkRes ok (.v z) false, .keep)
        | .mp id => match s.ho id with
          | some (.mapo _ es) => match findD kd kv es 0 with
            | some (some p) => some (lkRes ok p.2.v true, .keep)
            | some none => some (lkRes ok (.v z) false, .keep)
            | none => none
          | _ => none
        | _ => none) else none
    | none => none
  | .mup kd x k y => match kvOf (s.ev k) with
    | some kv => if isKeyK kd kv = true then (match s.ev x with
        | .mp id => match s.ho id with
          | some (.mapo ck es) => match putD kd kv (s.ev y) ck es with
            | some p => some (.any, .wr id (.mapo p.1 p.2))
            | none => none
          | _ => none
        | _ => none) else none
    | none => none
  | .men kd z x k => match kvOf (s.ev k) with
    | some kv => if isKeyK kd kv = true then (match s.ev x with
        | .mp id => match s.ho id with
          | some (.mapo ck es) => match findD kd kv es 0 with
            | some (some p) => some (.tup [p.2.v, .v (.int .i64 p.2.b)], .wr id (.mapo ck es))
            | some none => some (.tup [.v z, .v (.int .i64 ck)], .wr id (.mapo (ck + 1) (es ++ [⟨kv, .v z, ck⟩])))
            | none => none
          | _ => none
        | _ => none) else none
    | none => none
  | .mes x st y => match s.ev x, intD (s.ev st) with
    | .mp id, some n => match s.ho id with
      | some (.mapo ck es) => match findB n es 0 with
        | some i => some (.any, .wr id (.mapo ck (es.modify i fun e => { e with v := s.ev y })))
        | none => none
      | _ => none
    | _, _ => none
  | .rgm x => match s.ev x with
    | .v (.map none) => some (.pt nid 0, .lay (.miter (.v (.map none)) 0 [] 0))
    | .mp id => match s.ho id with
      | some (.mapo ck _) => some (.pt nid 0, .lay (.miter (.mp id) ck [] ck))
      | _ => none
    | _ => none
  | .rgs x => match s.ev x with
    | .v (.string b) => some (.pt nid 0, .lay (.siter b 0))
    | _ => none
  | .nxs x => match s.ev x with
    | .pt id 0 => match s.ho id with
      | some (.siter t pos) => if pos < t.size then some (.tup [.v (.bool true), .v (.int .i64 (pos : Nat)), .v (.int .i32 ((Utf8.decode t pos).1 : Nat))], .wr id (.siter t (pos + (Utf8.decode t pos).2))) else some (.tup [.v (.bool false)], .keep)
      | _ => none
    | _ => none
  | .mki T x => some (.ifc T (s.ev x), .keep)
  | .tas T z x ok => match s.ev x with
    | .ifc T' d => if T' = T then some (lkRes ok d true, .keep) else if ok = true then some (.tup [.v z, .v (.bool false)], .keep) else none
    | .v .nilIface => if ok = true then some (.tup [.v z, .v (.bool false)], .keep) else none
    | _ => none
  | .sla T n es x => match s.ev x with
    | .pt id 0 => match s.ho id with
      | some (.row T' cs) => if T' = T ∧ cs.length = n * es then some (.ms id 0 n es, .keep) else none
      | _ => none
    | _ => none
  | .cpy es x y => match s.ev x, srcC s es (s.ev y) with
    | .ms id off n es', some (news, m) => match s.ho id with
      | some (.row T cs) => if es' = es ∧ 0 < n ∧ off + n * es ≤ cs.length ∧ news.length = m * es then
          some (.v (.int .i64 (min m n : Nat)), .wr id (.row T (cs.take off ++ news.take (min m n * es) ++ cs.drop (off + min m n * es)))) else none
      | _ => none
    | _, _ => none
  | .fx n es x i => match intD (s.ev i), s.ev x with
    | some j, .pt id off => if 0 ≤ j ∧ j < n then some (.pt id (off + j.toNat * es), .keep) else none
    | some j, .ia cs => if 0 ≤ j ∧ j < n then some (.ia (cs.drop (j.toNat * es)), .keep) else none
    | _, _ => none
  | .b2s x => match srcC s 1 (s.ev x) with
    | some (news, m) => if news.length = m then (numsV news).map fun ns => (.v (.string (strOfNums ns)), .keep) else none
    | none => none
  | .frz x => match s.ev x with
    | .ms id 0 n 1 => match s.ho id with
      | some (.row T cs) => if 0 < n ∧ cs.length = n ∧ (numsV cs).isSome = true then some (.sl cs n, .mv (some id) (.row T [])) else none
      | _ => none
    | _ => none
  | .s2b x => match s.ev x with
    | .v (.string b) => some (.sl (b.data.toList.map fun c => .v (.int .u8 (c.toNat : Int))) b.size, .keep)
    | _ => none
  | .lnm x => match s.ev x with
    | .v (.map none) => some (.v (.int .i64 0), .keep)
    | .mp id => match s.ho id with
      | some (.mapo _ es) => some (.v (.int .i64 es.length), .keep)
      | _ => none
    | _ => none
  | _ => none

/-- The outcome of a step of an iterator. -/
def nxtU (id : Nat) (p : DV × Option DObj) : DV × Upd := match p.2 with
  | some o => (p.1, .wr id o)
  | none => (p.1, .keep)
/-- What an iterator came to last. -/
def entL (s : DS) (x : Operand) : Option (List (DV × Upd)) := match s.ev x with
    | .pt id 0 => match s.ho id with
      | some (.miter (.mp im) _ seen last) => match s.ho im with
        | some (.mapo ck es) => if ck = last then match seen.getLast? with
            | some st => match es.find? (fun e => e.b == st) with
              | some e => some [(.tup [ofV e.k, e.v], .keep)]
              | none => none
            | none => none
          else none
        | _ => none
      | _ => none
    | _ => none
/-- A step of an iterator: all that may come. -/
def nxmL (s : DS) (k : Bool) (x : Operand) : Option (List (DV × Upd)) := if k then entL s x else match s.ev x with
    | .pt id 0 => match s.ho id with
      | some (.miter (.v (.map none)) _ _ _) => some [(.tup [.v (.bool false)], .keep)]
      | some (.miter (.mp im) since seen last) => match s.ho im with
        | some (.mapo ck es) => if (!seen.isEmpty && !es.isEmpty && es.all (fun e => decide (e.b ≥ last))) = true then none else
            some ((candD since seen es).map fun c => nxtU id (nxtD (.mp im) since seen ck c))
        | _ => none
      | _ => none
    | _ => none

/-- One operation, in the text's order. -/
def exec (s : DS) (op : DOp) : Option (DV × DS) :=
  match execU s.nx s op with
  | some (d, u) => some (d, { s.upd s.nx u with nx := if u.new then s.nx + 1 else s.nx })
  | none => none

end Go.DD
