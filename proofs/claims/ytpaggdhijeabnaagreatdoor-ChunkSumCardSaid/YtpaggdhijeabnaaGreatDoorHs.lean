/- An evaluator of deep code on closed states, laid out so that the kernel runs it: slots by paths, operations as functions, integers forced. -/
import Derived.Test.YtpaggdhijeabnaaGreatDoorHn
namespace Go.DD

/-! Slots by paths. -/
inductive Pa where
  | o
  | l (p : Pa)
  | r (p : Pa)
def pthF : Nat → Nat → Pa
  | 0, _ => .o
  | f + 1, k => match k with
    | 0 => .o
    | k + 1 => if k % 2 = 0 then .l (pthF f (k / 2)) else .r (pthF f (k / 2))
def pth (k : Nat) : Pa := pthF k k
noncomputable def gP {α : Type} (p : Pa) : Tr α → Option α :=
  Pa.rec (motive := fun _ => Tr α → Option α) (fun t => Tr.rec (motive := fun _ => Option α) none (fun _ v _ _ _ => v) t)
    (fun _ ih t => Tr.rec (motive := fun _ => Option α) none (fun l _ _ _ _ => ih l) t) (fun _ ih t => Tr.rec (motive := fun _ => Option α) none (fun _ _ r _ _ => ih r) t) p
noncomputable def sP {α : Type} (p : Pa) (v : Option α) : Tr α → Tr α :=
  Pa.rec (motive := fun _ => Tr α → Tr α) (fun t => Tr.rec (motive := fun _ => Tr α) (.n .e v .e) (fun l _ r _ _ => .n l v r) t)
    (fun _ ih t => Tr.rec (motive := fun _ => Tr α) (.n (ih .e) none .e) (fun l x r _ _ => .n (ih l) x r) t) (fun _ ih t => Tr.rec (motive := fun _ => Tr α) (.n .e none (ih .e)) (fun l x r _ _ => .n l x (ih r)) t) p

/-- .. objects by numbers. -/
noncomputable def gN {α : Type} (t : Tr α) : Nat → Option α :=
  Tr.rec (motive := fun _ => Nat → Option α) (fun _ => none) (fun _ v _ il ir k => Nat.rec (motive := fun _ => Option α) v (fun j _ => Bool.rec (motive := fun _ => Option α) (ir (Nat.div j 2)) (il (Nat.div j 2)) (Nat.beq (Nat.mod j 2) 0)) k) t
/-- 'f': a bound on the depth. -/
noncomputable def sN {α : Type} (f : Nat) (v : Option α) : Tr α → Nat → Tr α :=
  Nat.rec (motive := fun _ => Tr α → Nat → Tr α) (fun t _ => Tr.rec (motive := fun _ => Tr α) (.n .e v .e) (fun l _ r _ _ => .n l v r) t)
    (fun _ ih t k => Nat.rec (motive := fun _ => Tr α) (Tr.rec (motive := fun _ => Tr α) (.n .e v .e) (fun l _ r _ _ => .n l v r) t)
      (fun j _ => Bool.rec (motive := fun _ => Tr α) (Tr.rec (motive := fun _ => Tr α) (.n .e none (ih .e (Nat.div j 2))) (fun l x r _ _ => .n l x (ih r (Nat.div j 2))) t)
        (Tr.rec (motive := fun _ => Tr α) (.n (ih .e (Nat.div j 2)) none .e) (fun l x r _ _ => .n (ih l (Nat.div j 2)) x r) t) (Nat.beq (Nat.mod j 2) 0)) k) f
noncomputable def setN {α : Type} (t : Tr α) (k : Nat) (v : Option α) : Tr α := sN k v t k

/-- A state: slots, objects, the next number. -/
structure ES where
  sl : Tr DV
  hp : Tr DObj
  nx : Nat
  deriving Inhabited
def ES.ds (es : ES) : DS := ⟨fun t => (es.sl.get t).getD .any, es.hp.get, es.nx⟩

/-- An operand: a slot, by its path; or a value. -/
inductive EO where
  | t (p : Pa)
  | c (d : DV)
def EO.of : Operand → EO
  | .tmp u => .t (pth u)
  | .const x => .c (ofV x)
  | .func f => .c (.fn (.func f) [.tup []])
  | .global g => .c (gvD g)
noncomputable def rawE (es : ES) (x : EO) : DV := EO.rec (motive := fun _ => DV) (fun p => Option.rec (motive := fun _ => DV) .any (fun d => d) (gP p es.sl)) (fun d => d) x

noncomputable def someB {α : Type} (x : Option α) : Bool := Option.rec (motive := fun _ => Bool) false (fun _ => true) x
/-- What a value names. -/
noncomputable def refsE (d : DV) : List Nat := DV.casesOn (motive_1 := fun _ => List Nat) d [] (fun _ => []) (fun cs => DV.refsL cs) (fun cs => DV.refsL cs) (fun _ _ => []) (fun _ => []) (fun _ cs => DV.refsL cs) (fun _ d => DV.refs d)
  (fun id _ _ _ => [id]) (fun id _ => [id]) (fun id => [id]) (fun id => [id])
noncomputable def allL {α : Type} (l : List α) (f : α → Bool) : Bool := List.rec (motive := fun _ => Bool) true (fun a _ ih => Bool.rec (motive := fun _ => Bool) false ih (f a)) l
noncomputable def iteB {α : Type} (b : Bool) (x y : α) : α := Bool.rec (motive := fun _ => α) y x b
noncomputable def liveE (hp : Tr DObj) (d : DV) : DV := iteB (allL (refsE d) fun id => someB (gN hp id)) d .any
noncomputable def evE (es : ES) (x : EO) : DV := EO.rec (motive := fun _ => DV) (fun p => liveE es.hp (Option.rec (motive := fun _ => DV) .any (fun d => d) (gP p es.sl))) (fun d => d) x

/-! Integers, forced. -/
noncomputable def forceN {α : Type} (n : Nat) (k : Nat → α) : α := Nat.rec (motive := fun _ => α) (k 0) (fun m _ => k (m + 1)) n
noncomputable def forceI {α : Type} (n : Int) (k : Int → α) : α := Int.rec (motive := fun _ => α) (fun m => forceN m fun m => k (.ofNat m)) (fun m => forceN m fun m => k (.negSucc m)) n

noncomputable def cV {α : Type} (d : DV) (f : Value → α) (e : α) : α := DV.casesOn (motive_1 := fun _ => α) d e f (fun _ => e) (fun _ => e) (fun _ _ => e) (fun _ => e) (fun _ _ => e) (fun _ _ => e) (fun _ _ _ _ => e) (fun _ _ => e) (fun _ => e) (fun _ => e)
noncomputable def cVal {α : Type} (x : Value) (fb : Bool → α) (fi : IntKind → Int → α) (fs : ByteArray → α) (e : α) : α :=
  Value.casesOn (motive_1 := fun _ => α) x fb fi (fun _ _ => e) (fun _ _ _ => e) fs (fun _ => e) (fun _ _ _ => e) (fun _ => e) (fun _ => e) (fun _ _ _ => e) e (fun _ _ => e) e (fun _ => e) (fun _ => e)

/-- A value whose integer is a numeral. -/
noncomputable def outV (x : Option Value) : Option DV := Option.rec (motive := fun _ => Option DV) none (fun v => cVal v (fun b => Bool.rec (motive := fun _ => Option DV) (some (.v (.bool false))) (some (.v (.bool true))) b) (fun k n => forceI n fun n => some (.v (.int k n))) (fun s => some (.v (.string s))) (some (.v v))) x

abbrev XP : Type := ES → Option DV
abbrev XU : Type := ES → Nat → Option (DV × Upd)

noncomputable def xBin (op : BinOp) (x y : EO) : XP := fun es => cV (rawE es x) (fun v => cV (rawE es y) (fun w =>
  cVal v (fun _ => none) (fun k a => cVal w (fun _ => none) (fun k' b => outV (iteB (isSh op) (shI op k a b) (iteB (Nat.beq k.ctorIdx k'.ctorIdx) (binI op k a b) none))) (fun _ => none) none) (fun s => cVal w (fun _ => none) (fun _ _ => none) (fun s' => outV (binS op s s')) none) none) none) none
noncomputable def xPick (c x y : EO) : XP := fun es => cV (rawE es c) (fun v => cVal v (fun b => some (iteB b (rawE es x) (rawE es y))) (fun _ _ => none) (fun _ => none) none) none
noncomputable def xUn (op : UnOp) (x : EO) : XP := fun es => cV (rawE es x) (fun v => outV (unV op (.v v))) none

/-- An own row's cells. -/
noncomputable def cRow {α : Type} (hp : Tr DObj) (id : Nat) (f : TypeId → List DV → α) (e : α) : α :=
  Option.rec (motive := fun _ => α) e (fun o => DObj.casesOn (motive := fun _ => α) o f (fun _ _ => e) (fun _ => e) (fun _ _ => e) (fun _ _ _ _ => e)) (gN hp id)
noncomputable def dropL {α : Type} (n : Nat) (l : List α) : List α := Nat.rec (motive := fun _ => List α → List α) (fun l => l) (fun _ ih l => List.rec (motive := fun _ => List α) [] (fun _ t _ => ih t) l) n l
noncomputable def takeL {α : Type} (n : Nat) (l : List α) : List α := Nat.rec (motive := fun _ => List α → List α) (fun _ => []) (fun _ ih l => List.rec (motive := fun _ => List α) [] (fun a t _ => a :: ih t) l) n l
noncomputable def partE (k : Option Nat) (cs : List DV) : Option DV := Option.rec (motive := fun _ => Option DV) (List.rec (motive := fun _ => Option DV) none (fun c _ _ => some c) cs) (fun n => iteB (Nat.ble n cs.length) (some (.agg (takeL n cs))) none) k
/-- An address: into content; into an own object. -/
noncomputable def cAdr {α : Type} (d : DV) (fi : List DV → α) (fp : Nat → Nat → α) (e : α) : α := DV.casesOn (motive_1 := fun _ => α) d e (fun _ => e) (fun _ => e) (fun _ => e) (fun _ _ => e) fi (fun _ _ => e) (fun _ _ => e) (fun _ _ _ _ => e) fp (fun _ => e) (fun _ => e)
noncomputable def xLd (k : Option Nat) (x : EO) : XP := fun es => cAdr (rawE es x) (fun cs => partE k cs) (fun id off => cRow es.hp id (fun _ cs => partE k (dropL off cs)) none) none
noncomputable def xFa (off : Nat) (x : EO) : XP := fun es => cAdr (rawE es x) (fun cs => some (.ia (dropL off cs))) (fun id o => iteB (someB (gN es.hp id)) (forceN (o + off) fun n => some (.pt id n)) none) none
/-- A slice: nil; content; own cells. -/
noncomputable def cSl {α : Type} (d : DV) (fv : Value → α) (fs : List DV → Nat → α) (fm : Nat → Nat → Nat → Nat → α) (e : α) : α := DV.casesOn (motive_1 := fun _ => α) d e fv (fun _ => e) (fun _ => e) fs (fun _ => e) (fun _ _ => e) (fun _ _ => e) fm (fun _ _ => e) (fun _ => e) (fun _ => e)
noncomputable def cI {α : Type} (d : DV) (f : Int → α) (e : α) : α := cV d (fun v => cVal v (fun _ => e) (fun _ n => f n) (fun _ => e) e) e
/-- An index below a length. -/
noncomputable def cIx {α : Type} (j : Int) (n : Nat) (f : Nat → α) (e : α) : α := Int.rec (motive := fun _ => α) (fun m => iteB (Nat.blt m n) (f m) e) (fun _ => e) j
noncomputable def xIa (es' : Nat) (x i : EO) : XP := fun es => cI (rawE es i) (fun j => cSl (rawE es x) (fun _ => none) (fun cs n => cIx j n (fun m => some (.ia (dropL (m * es') cs))) none)
  (fun id off n _ => iteB (someB (gN es.hp id)) (cIx j n (fun m => forceN (off + m * es') fun o => some (.pt id o)) none) none) none) none
noncomputable def xFx (n es' : Nat) (x i : EO) : XP := fun es => cI (rawE es i) (fun j => cAdr (rawE es x) (fun cs => cIx j n (fun m => some (.ia (dropL (m * es') cs))) none)
  (fun id off => iteB (someB (gN es.hp id)) (cIx j n (fun m => forceN (off + m * es') fun o => some (.pt id o)) none) none) none) none
noncomputable def lenV (v : Value) : Option DV := Value.casesOn (motive_1 := fun _ => Option DV) v (fun _ => none) (fun _ _ => none) (fun _ _ => none) (fun _ _ _ => none) (fun _ => none) (fun _ => none)
  (fun a n _ => Option.rec (motive := fun _ => Option DV) (some (.v (.int .i64 n))) (fun _ => none) a) (fun _ => none) (fun _ => none) (fun _ _ _ => none) none (fun _ _ => none) none (fun _ => none) (fun _ => none)
noncomputable def xLen (x : EO) : XP := fun es => cSl (rawE es x) lenV (fun _ n => forceN n fun n => some (.v (.int .i64 (.ofNat n)))) (fun id _ n _ => iteB (someB (gN es.hp id)) (forceN n fun n => some (.v (.int .i64 (.ofNat n)))) none) none
noncomputable def cTup {α : Type} (d : DV) (f : List DV → α) (e : α) : α := DV.casesOn (motive_1 := fun _ => α) d e (fun _ => e) (fun _ => e) f (fun _ _ => e) (fun _ => e) (fun _ _ => e) (fun _ _ => e) (fun _ _ _ _ => e) (fun _ _ => e) (fun _ => e) (fun _ => e)
noncomputable def nthL {α : Type} (n : Nat) (l : List α) : Option α := List.rec (motive := fun _ => Option α) none (fun a _ _ => some a) (dropL n l)
noncomputable def vD {α : Type} (d : DV) (f : Value → α) (e : α) : α := DV.casesOn (motive_1 := fun _ => α) d e f (fun _ => e) (fun _ => e) (fun _ _ => e) (fun _ => e) (fun _ _ => e) (fun _ _ => e) (fun _ _ _ _ => e) (fun _ _ => e) (fun _ => e) (fun _ => e)
noncomputable def xExt (x : EO) (i : Nat) : XP := fun es => cTup (rawE es x) (fun ds => Option.rec (motive := fun _ => Option DV) none (fun d => vD d (fun v => some (.v v)) (cTup (evE es x) (fun ds => nthL i ds) none)) (nthL i ds)) none
/-- All others, as they are. -/
noncomputable def xAny (o : DOp) : XU := fun es nid => execU nid es.ds o
/-- A list whose spine is laid. -/
noncomputable def forceL {β α : Type} (l : List β) (k : List β → α) : α := List.rec (motive := fun _ => (List β → α) → α) (fun k => k []) (fun a _ ih k => ih fun t => k (a :: t)) l k
noncomputable def appL {α : Type} (a b : List α) : List α := List.rec (motive := fun _ => List α) b (fun x _ ih => x :: ih) a
noncomputable def cellsE (d : DV) : List DV := DV.casesOn (motive_1 := fun _ => List DV) d [d] (fun _ => [d]) (fun cs => cs) (fun _ => [d]) (fun _ _ => [d]) (fun _ => [d]) (fun _ _ => [d]) (fun _ _ => [d]) (fun _ _ _ _ => [d]) (fun _ _ => [d]) (fun _ => [d]) (fun _ => [d])
noncomputable def okE (d : DV) : Bool := DV.casesOn (motive_1 := fun _ => Bool) d false (fun x => x.oneCell') (fun _ => true) (fun _ => false) (fun _ _ => true) (fun _ => true) (fun _ _ => true) (fun _ _ => true) (fun _ _ _ _ => true) (fun _ _ => true) (fun _ => true) (fun _ => true)
noncomputable def xSt (n : Nat) (a x : EO) : XU := fun es _ => cAdr (rawE es a) (fun _ => none) (fun id off => cRow es.hp id (fun T cs =>
  iteB (okE (evE es x)) (iteB (Nat.beq (cellsE (evE es x)).length n) (iteB (Nat.ble (off + n) cs.length) (forceL (appL (takeL off cs) (appL (cellsE (evE es x)) (dropL (off + n) cs))) fun l => some (.any, .wr id (.row T l))) none) none) none) none) none
noncomputable def xBx (T : TypeId) (x : EO) : XU := fun es nid => iteB (okE (evE es x)) (some (.pt nid 0, .lay (.row T (cellsE (evE es x))))) none
noncomputable def mapL {α β : Type} (f : α → β) (l : List α) : List β := List.rec (motive := fun _ => List β) [] (fun a _ ih => f a :: ih) l
noncomputable def xAl (T : TypeId) (z : List DV) : XU := fun _ nid => some (.pt nid 0, .lay (.row T z))

/-- What is called: a function, or a loop's round. -/
inductive Tg where
  | fn (f : Nat)
  | yl (id : Nat)
def CallT : Type := Tg → List DV → Tr DObj → Nat → Option (DV × Tr DObj × Nat)
/-! Steps. -/
noncomputable def ES.cs {α : Type} (es : ES) (f : Tr DV → Tr DObj → Nat → α) : α := ES.rec (motive := fun _ => α) f es
noncomputable def ES.putE (es : ES) (dst : Option Pa) (d : DV) : ES := ES.rec (motive := fun _ => ES) (fun sl hp nx => Option.rec (motive := fun _ => ES) ⟨sl, hp, nx⟩ (fun p => ⟨sP p (some d) sl, hp, nx⟩) dst) es
noncomputable def updE (hp : Tr DObj) (nid : Nat) (u : Upd) : Tr DObj := Upd.casesOn (motive := fun _ => Tr DObj) u hp (fun o => setN hp nid (some o)) (fun id o => setN hp id (some o))
  (fun old o => Option.rec (motive := fun _ => Tr DObj) (setN hp nid (some o)) (fun i => setN (setN hp i none) nid (some o)) old)
abbrev Stp : Type := CallT → ES → Option ES
noncomputable def sM (dst : Option Pa) (x : EO) : Stp := fun _ es => some (es.putE dst (rawE es x))
noncomputable def sX (dst : Option Pa) (x : XP) : Stp := fun _ es => Option.rec (motive := fun _ => Option ES) none (fun d => some (es.putE dst d)) (x es)
noncomputable def sU (dst : Option Pa) (x : XU) : Stp := fun _ es => Option.rec (motive := fun _ => Option ES) none (fun p => Prod.rec (motive := fun _ => Option ES) (fun d u =>
  es.cs fun sl hp nx => iteB u.new (forceN (nx + 1) fun n => some ((ES.mk sl (updE hp nx u) n).putE dst d)) (some ((ES.mk sl (updE hp nx u) nx).putE dst d))) p) (x es es.nx)

noncomputable def doCall (tg : Tg) (ds : List DV) (dst : Option Pa) : Stp := fun call es => Option.rec (motive := fun _ => Option ES) none (fun p => Prod.rec (motive := fun _ => Option ES) (fun d q => Prod.rec (motive := fun _ => Option ES) (fun hp nx => es.cs fun sl _ _ => some ((ES.mk sl hp nx).putE dst d)) q) p) (call tg ds es.hp es.nx)
noncomputable def evL (es : ES) (args : List EO) : List DV := mapL (rawE es) args
noncomputable def sCall (f : Nat) (args : List EO) (dst : Option Pa) : Stp := fun call es => doCall (.fn f) (evL es args) dst call es
noncomputable def sCv (tb : Option (List (TypeId × FuncId))) (x : EO) (args : List EO) (dst : Option Pa) : Stp := fun call es =>
  Option.rec (motive := fun _ => Option ES) (Option.rec (motive := fun _ => Option ES) none (fun i => doCall (.yl i) (evL es args) dst call es) ((evE es x).tgY tb)) (fun p => doCall (.fn p.1) (appL p.2.1 (appL (evL es args) p.2.2)) dst call es) ((evE es x).tgt tb)
/-- A step of an iterator that has one way to go. -/
noncomputable def sNx (k : Bool) (x : Operand) (dst : Option Pa) : Stp := fun _ es => match nxmL es.ds k x with
  | some [p] => if p.2.new then none else some ((ES.mk es.sl (updE es.hp es.nx p.2) es.nx).putE dst p.1)
  | _ => none

/-- An operation, out of its text. -/
noncomputable def xopP : DOp → Option XP
  | .bin op x y => some (xBin op (.of x) (.of y))
  | .pick c x y => some (xPick (.of c) (.of x) (.of y))
  | .un op x => some (xUn op (.of x))
  | .ld k x => some (xLd k (.of x))
  | .fa off x => some (xFa off (.of x))
  | .ia es x i => some (xIa es (.of x) (.of i))
  | .fx n es x i => some (xFx n es (.of x) (.of i))
  | .len x => some (xLen (.of x))
  | .ext x i => some (xExt (.of x) i)
  | _ => none
noncomputable def xopU : DOp → XU
  | .st n a x => xSt n (.of a) (.of x)
  | .bx T x => xBx T (.of x)
  | .al T z => xAl T (z.map .v)
  | o => xAny o
noncomputable def stepE (dst : Option Pa) (o : DOp) : Stp := match o with
  | .mv x => sM dst (.of x)
  | .call f args => sCall f (args.map EO.of) dst
  | .cv tb x args => sCv tb (.of x) (args.map EO.of) dst
  | .nxm k x => sNx k x dst
  | o => match xopP o with
    | some x => sX dst x
    | none => sU dst (xopU o)
/-- .. of a function, and of no loop. -/
noncomputable def sCf (tb : Option (List (TypeId × FuncId))) (x : EO) (args : List EO) (dst : Option Pa) : Stp := fun call es =>
  Option.rec (motive := fun _ => Option ES) none (fun p => doCall (.fn p.1) (appL p.2.1 (appL (evL es args) p.2.2)) dst call es) ((evE es x).tgt tb)
noncomputable def stepF (dst : Option Pa) (o : DOp) : Stp := match o with
  | .cv tb x args => sCf tb (.of x) (args.map EO.of) dst
  | .nxm _ _ => fun _ _ => none
  | o => stepE dst o
/-- A guard: is the operation wanted? -/
noncomputable def wantE (es : ES) (p : Pa) (b : Bool) : Option Bool := cV (rawE es (.t p)) (fun v => Value.casesOn (motive_1 := fun _ => Option Bool) v (fun c => some (c == b)) (fun _ _ => none) (fun _ _ => none) (fun _ _ _ => none) (fun _ => none) (fun _ => none) (fun _ _ _ => none) (fun _ => none) (fun _ => none) (fun _ _ _ => none) none (fun _ _ => none) none (fun _ => none) (fun _ => some false)) none
noncomputable def sG (p : Pa) (b : Bool) (dst : Option Pa) (s : Stp) : Stp := fun call es => Option.rec (motive := fun _ => Option ES) none (fun c => Bool.rec (motive := fun _ => Option ES) (some (es.putE dst (.v undef))) (s call es) c) (wantE es p b)
noncomputable def sq (s k : Stp) : Stp := fun call es => Option.rec (motive := fun _ => Option ES) none (fun es' => es'.cs fun sl hp nx => k call ⟨sl, hp, nx⟩) (s call es)
noncomputable def sEnd : Stp := fun _ es => some es
def pthO : Option Nat → Option Pa
  | some t => some (pth t)
  | none => none
noncomputable def stpR (r : DR) : Stp := match r.g with
  | none => stepE (pthO r.dst) r.op
  | some (t, b) => sG (pth t) b (pthO r.dst) (stepE (pthO r.dst) r.op)
noncomputable def runE : List DR → Stp
  | [] => sEnd
  | r :: rest => sq (stpR r) (runE rest)

/-! Regions that draw their order. -/
def sameV : Value → Value → Bool
  | .bool a, .bool b => a == b
  | .int k a, .int k' b => k == k' && a == b
  | .string a, .string b => a.data.toList == b.data.toList
  | .pointer none, .pointer none => true
  | .slice none a b, .slice none c d => a == c && b == d
  | .map none, .map none => true
  | .nilFunc, .nilFunc => true
  | .nilIface, .nilIface => true
  | _, _ => false
def sameL (f : DV → DV → Bool) : List DV → List DV → Bool
  | [], [] => true
  | a :: as, b :: bs => f a b && sameL f as bs
  | _, _ => false
def sameFn : Fn → Fn → Bool
  | .func f, .func g => f == g
  | _, _ => false
def sameDV : Nat → DV → DV → Bool
  | 0, _, _ => false
  | n + 1, a, b => match a, b with
    | .any, .any => true
    | .v x, .v y => sameV x y
    | .agg a, .agg b => sameL (sameDV n) a b
    | .tup a, .tup b => sameL (sameDV n) a b
    | .sl a m, .sl b m' => m == m' && sameL (sameDV n) a b
    | .ia a, .ia b => sameL (sameDV n) a b
    | .fn f a, .fn g b => sameFn f g && sameL (sameDV n) a b
    | .ifc T a, .ifc T' b => T == T' && sameDV n a b
    | .ms i o k e, .ms i' o' k' e' => i == i' && o == o' && k == k' && e == e'
    | .pt i o, .pt i' o' => i == i' && o == o'
    | .mp i, .mp j => i == j
    | .yl i, .yl j => i == j
    | _, _ => false
/-- .. and keys of several cells. -/
def sameK' : Value → Value → Bool
  | .agg a, .agg b => sameL (fun x y => match x, y with | .v x, .v y => sameV x y | _, _ => false) (a.toList.map .v) (b.toList.map .v)
  | a, b => sameV a b
def sameM (n : Nat) : List ME → List ME → Bool
  | [], [] => true
  | a :: as, b :: bs => sameK' a.k b.k && sameDV n a.v b.v && a.b == b.b && sameM n as bs
  | _, _ => false
def sameNs : List Nat → List Nat → Bool
  | [], [] => true
  | a :: as, b :: bs => a == b && sameNs as bs
  | _, _ => false
def sameO : DObj → DObj → Bool
  | .row T a, .row T' b => T == T' && sameL (sameDV 6) a b
  | .mapo c a, .mapo d b => c == d && sameM 6 a b
  | .miter m c s l, .miter m' c' s' l' => sameDV 2 m m' && c == c' && sameNs s s' && l == l'
  | _, _ => false

/-- What a wide operation has looked at. -/
structure Look where
  i : Nat
  an : List Nat
  id : Nat
  own : Bool
  c : Bool
/-- One of the ordered operations: its number, its forerunners, the objects before and behind it. -/
structure Past where
  q : Nat
  an : List Nat
  a : Tr DObj
  b : Tr DObj
def sameAt (a b : Tr DObj) (id : Nat) : Bool := match a.get id, b.get id with
  | some x, some y => sameO x y
  | _, _ => false
def bothAt (a b : Tr DObj) (id : Nat) : Bool := (a.get id).isSome == (b.get id).isSome
def okLook (n0 m : Nat) (ws : List Look) (ps : List Past) : Bool := ws.all fun w => ps.all fun p => w.an.contains p.q || p.an.contains w.i ||
  (if Nat.blt w.id n0 || Nat.ble (n0 + m) w.id then (if w.c then sameAt p.a p.b w.id else bothAt p.a p.b w.id) else w.own && !p.an.contains (w.id - n0))
/-- What an operation's operands name: it is there, and not of this region but by forerunners. -/
noncomputable def okRef (n0 m : Nat) (an : List Nat) (hp : Tr DObj) (id : Nat) : Bool := iteB (someB (gN hp id)) (iteB (Nat.blt id n0) true (iteB (Nat.ble (n0 + m) id) true (an.contains (id - n0)))) false
noncomputable def refsL (es : ES) (ps : List Pa) : List Nat := List.rec (motive := fun _ => List Nat) [] (fun p _ ih => appL (refsE (rawE es (.t p))) ih) ps

structure DSt where
  es : ES
  lo : List Nat
  ws : List Look
  ps : List Past
def strikeL (n0 : Nat) (hp : Tr DObj) : List Nat → Tr DObj
  | [] => hp
  | j :: js => strikeL n0 (hp.set (n0 + j) none) js
def backL (n0 : Nat) (old hp : Tr DObj) : List Nat → Tr DObj
  | [] => hp
  | j :: js => backL n0 old (hp.set (n0 + j) (old.get (n0 + j))) js
abbrev DStp : Type := CallT → Nat → Nat → DSt → Option DSt
/-- An operation of the ordered ones. -/
noncomputable def DSt.cs {α : Type} (d : DSt) (f : ES → List Nat → List Look → List Past → α) : α := DSt.rec (motive := fun _ => α) f d
noncomputable def dMain (i : Nat) (an : List Nat) (s : Stp) : DStp := fun call n0 _ d =>
  d.cs fun es lo ws ps => es.cs fun sl hp nx => forceL (lo.filter fun j => !an.contains j) fun hid =>
  Option.rec (motive := fun _ => Option DSt) none (fun es' => es'.cs fun sl' hp' nx' => iteB (Nat.ble nx nx') (some ⟨⟨sl', backL n0 hp hp' hid, nx'⟩, hid, ws, ⟨i, an, hp, backL n0 hp hp' hid⟩ :: ps⟩) none) (s call ⟨sl, strikeL n0 hp hid, nx⟩)
noncomputable def lookE (i : Nat) (an : List Nat) (wide c : Bool) (refs : List Nat) (n0 : Nat) (lo : List Nat) (ws : List Look) : List Look := iteB wide (appL (mapL (fun id => ⟨i, an, id, lo.contains (id - n0), c⟩) refs) ws) ws
/-- One that reads. -/
noncomputable def dRead (i : Nat) (an : List Nat) (wide c : Bool) (dst : Option Pa) (x : Nat → XP) (ps : List Pa) : DStp := fun _ n0 _ d =>
  d.cs fun es lo ws pp => Option.rec (motive := fun _ => Option DSt) none (fun v => some ⟨es.putE dst v, lo, lookE i an wide c (refsL es ps) n0 lo ws, pp⟩) (x (n0 + i) es)
noncomputable def xKeep (x : XU) : Nat → XP := fun nid es => Option.rec (motive := fun _ => Option DV) none (fun p => Upd.casesOn (motive := fun _ => Option DV) p.2 (some p.1) (fun _ => none) (fun _ _ => none) (fun _ _ => none)) (x es nid)
/-- One that makes something new. -/
noncomputable def dLay (i : Nat) (an : List Nat) (wide c : Bool) (dst : Option Pa) (x : XU) (ps : List Pa) : DStp := fun _ n0 _ d =>
  d.cs fun es lo ws pp => es.cs fun sl hp nx => forceN (n0 + i) fun nid => Option.rec (motive := fun _ => Option DSt) none (fun p => Upd.casesOn (motive := fun _ => Option DSt) p.2 none
    (fun o => some ⟨(ES.mk sl (setN hp nid (some o)) nx).putE dst p.1, i :: lo, lookE i an wide c (refsL es ps) n0 lo ws, pp⟩) (fun _ _ => none) (fun _ _ => none)) (x es nid)
/-- One that writes what only this region knows. -/
noncomputable def dWr (i : Nat) (an : List Nat) (tgt : Nat) (dst : Option Pa) (x : XU) (ps : List Pa) : DStp := fun _ n0 _ d =>
  d.cs fun es lo ws pp => es.cs fun sl hp nx => Option.rec (motive := fun _ => Option DSt) none (fun p => Upd.casesOn (motive := fun _ => Option DSt) p.2 none (fun _ => none)
    (fun id o => iteB (Nat.beq id (n0 + tgt) && lo.contains tgt && an.contains tgt && allL (refsL es ps) (fun r => Nat.beq r (n0 + tgt))) (some ⟨(ES.mk sl (setN hp id (some o)) nx).putE dst p.1, lo, ws, pp⟩) none) (fun _ _ => none)) (x es (n0 + i))
noncomputable def dChk (an : List Nat) (ps : List Pa) (s : DStp) : DStp := fun call n0 m d => iteB (allL (refsL d.es ps) fun id => okRef n0 m an d.es.hp id) (s call n0 m d) none
noncomputable def dG (p : Pa) (b : Bool) (dst : Option Pa) (s : DStp) : DStp := fun call n0 m d => Option.rec (motive := fun _ => Option DSt) none (fun c => Bool.rec (motive := fun _ => Option DSt) (d.cs fun es lo ws pp => some ⟨es.putE dst (.v undef), lo, ws, pp⟩) (s call n0 m d) c) (wantE d.es p b)
noncomputable def dq (s k : DStp) : DStp := fun call n0 m d => Option.rec (motive := fun _ => Option DSt) none (fun d' => d'.cs fun es lo ws pp => es.cs fun sl hp nx => k call n0 m ⟨⟨sl, hp, nx⟩, lo, ws, pp⟩) (s call n0 m d)
noncomputable def dEnd : DStp := fun _ _ _ d => some d

def opTmps (o : DOp) : List Nat := o.opnds.filterMap fun | .tmp t => some t | _ => none
noncomputable def dstp (i : Nat) (r : DR) (o : OI) : DStp :=
  dChk o.an ((opTmps r.op).map pth) (match o.cls with
    | 2 => dMain i o.an (stepF (pthO r.dst) r.op)
    | 0 => dRead i o.an o.wide r.op.rdC (pthO r.dst) (match r.op with
      | .mv x => fun _ es => some (rawE es (.of x))
      | op => match xopP op with
        | some x => fun _ => x
        | none => xKeep (xopU op)) ((opTmps r.op).map pth)
    | 1 => dLay i o.an o.wide r.op.rdC (pthO r.dst) (xopU r.op) ((opTmps r.op).map pth)
    | _ => dWr i o.an o.tgt (pthO r.dst) (xopU r.op) ((opTmps r.op).map pth))
noncomputable def dstpG (i : Nat) (r : DR) (o : OI) : DStp := match r.g with
  | none => dstp i r o
  | some (t, b) => dG (pth t) b (pthO r.dst) (dstp i r o)
noncomputable def rundE : List DR → List OI → Nat → DStp
  | r :: rs, o :: os, i => dq (dstpG i r o) (rundE rs os (i + 1))
  | _, _, _ => dEnd
noncomputable def regE (m : Nat) (s : DStp) : Stp := fun call es => Option.rec (motive := fun _ => Option ES) none (fun d => iteB (okLook es.nx m d.ws d.ps) (some d.es) none) (es.cs fun sl hp nx => forceN (nx + m) fun n => s call nx m ⟨⟨sl, hp, n⟩, [], [], []⟩)

/-! Code. -/
abbrev CE : Type := CallT → ES → Option (Exit × ES)
noncomputable def cN (s : Stp) : CE := fun call es => Option.rec (motive := fun _ => Option (Exit × ES)) none (fun es' => some (.normal, es')) (s call es)
noncomputable def cE (e : Exit) : CE := fun _ es =>
  some (e, es)
noncomputable def cS (a b : CE) : CE := fun call es => Option.rec (motive := fun _ => Option (Exit × ES)) none (fun p => Prod.rec (motive := fun _ => Option (Exit × ES)) (fun e es' => Exit.casesOn (motive := fun _ => Option (Exit × ES)) e (b call es') (fun _ => some (e, es')) (fun _ => some (e, es')) (some (e, es')) (fun _ => some (e, es')) (some (e, es'))) p) (a call es)
noncomputable def cC (x : EO) (a b : CE) : CE := fun call es => cV (rawE es x) (fun v => cVal v (fun t => Bool.rec (motive := fun _ => Option (Exit × ES)) (b call es) (a call es) t) (fun _ _ => none) (fun _ => none) none) none
noncomputable def cB (id : Nat) (c : CE) : CE := fun call es => Option.rec (motive := fun _ => Option (Exit × ES)) none (fun p => Prod.rec (motive := fun _ => Option (Exit × ES)) (fun e es' => Exit.casesOn (motive := fun _ => Option (Exit × ES)) e (some (e, es')) (fun i => iteB (Nat.beq i id) (some (.normal, es')) (some (e, es'))) (fun _ => some (e, es')) (some (e, es')) (fun _ => some (e, es')) (some (e, es'))) p) (c call es)
noncomputable def cL (n : Nat) (c : CE) : CE := Nat.rec (motive := fun _ => CE) (fun _ _ => none) (fun _ ih => cS c ih) n
noncomputable def cR (nt : Nat) (rd : Bool) (g : EO) (ps : List Nat) (a b : DC) : CE := fun call es => if rd then none else match (evE es g).asFn with
  | some (f, cs) => match call (.fn f) (.yl es.nx :: cs) (es.hp.set es.nx (some (.loop ⟨nt, .t es.sl, ps, a, b, .ready, none⟩))) (es.nx + 1) with
    | some (_, hp, nx) => match hp.get es.nx with
      | some (.loop lp) => match lp.st with
        | .busy => none
        | _ => match lp.pend with
          | none => some (.normal, ⟨es.sl, hp.set es.nx none, nx⟩)
          | some .ret => some (.ret, ⟨es.sl, hp.set es.nx none, nx⟩)
          | some (.exit i) => some (.exit i, ⟨es.sl, hp.set es.nx none, nx⟩)
          | _ => none
      | _ => none
    | none => none
  | none => none

noncomputable def evalE (n nt : Nat) (rd : Bool) : DC → CE
  | .skip => cE .normal
  | .ret => cE .ret
  | .exit id => cE (.exit id)
  | .seq a b => cS (evalE n nt rd a) (evalE n nt rd b)
  | .cond x a b => cC (.of x) (evalE n nt rd a) (evalE n nt rd b)
  | .blk id c => cB id (evalE n nt rd c)
  | .loop c => cL n (evalE n nt rd c)
  | .reg draw ops info => match draw with
    | false => cN (runE ops)
    | true => match info.ok with
      | true => cN (regE ops.length (rundE ops info.l 0))
      | false => fun _ _ => none
  | .rng g ps a b => cR nt rd (.of g) ps a b
  | .dfq t g cap => match rd with
    | true => fun _ _ => none
    | false => cN (stepE (some (pth t)) (.mkf (.func g) [] cap))
  | .bad => fun _ _ => none

noncomputable def argT (ds : List DV) : Tr DV := List.rec (motive := fun _ => Nat → Tr DV → Tr DV) (fun _ t => t) (fun d _ ih i t => ih (i + 1) (sP (pth i) (some d) t)) ds 0 .e
noncomputable def zipT (ps : List Nat) (ds : List DV) : Tr DV → Tr DV := List.rec (motive := fun _ => List DV → Tr DV → Tr DV) (fun _ t => t) (fun p _ ih ds t => List.rec (motive := fun _ => Tr DV) t (fun d ds' _ => ih ds' (sP (pth p) (some d) t)) ds) ps ds

/-- A function as it is run. -/
structure FE where
  run : CE
  res : List (Nat × Option (Option Nat))
  nt : Nat

/-- A result's cell is read. -/
noncomputable def xLp (k : Option Nat) (x : EO) : XP := fun es => cAdr (rawE es x) (fun _ => none) (fun id off => cRow es.hp id (fun _ cs => partE k (dropL off cs)) none) none
noncomputable def resE (es : ES) (q : Nat × Option (Option Nat)) : Option DV := Prod.rec (motive := fun _ => Option DV) (fun t k => Option.rec (motive := fun _ => Option DV) (some (evE es (.t (pth t)))) (fun k => xLp k (.t (pth t)) es) k) q
def resVE (ds : Option (List DV)) : Option DV := match ds with
  | some [d] => some d
  | some ds => some (.tup ds)
  | none => none
noncomputable def finE (res : List (Nat × Option (Option Nat))) (es : ES) : Option (DV × Tr DObj × Nat) := match resVE (res.mapM (resE es)) with
  | some d => some (d, es.hp, es.nx)
  | none => none

noncomputable def stepC (tb : Nat → Option FE) (n : Nat) (call : CallT) : CallT := fun tg ds hp nx => match tg with
    | .fn f => match tb f with
      | some fe => if ds.length ≤ fe.nt then match fe.run (call) ⟨argT ds, hp, nx⟩ with
          | some (.normal, es) => finE fe.res es
          | some (.ret, es) => finE fe.res es
          | _ => none
        else none
      | none => none
    | .yl id => match hp.get id with
      | some (.loop lp) => match lp.st, lp.sl with
        | .ready, .t sl => if ds.length = lp.ps.length ∧ lp.ps.all (fun t => Nat.blt t lp.nt) = true then
            match evalE n lp.nt true lp.asg (call) ⟨zipT lp.ps ds sl, hp, nx⟩ with
            | some (.normal, es1) => match es1.hp.get id with
              | some (.loop lp1) => match lp1.st with
                | .ready => match evalE n lp.nt true lp.body (call) { es1 with hp := es1.hp.set id (some (.loop { lp1 with st := .busy })) } with
                  | some (e, es2) => match es2.hp.get id with
                    | some (.loop lp2) => match e with
                      | .normal => some (.v (.bool true), es2.hp.set id (some (.loop { lp2 with st := .ready, pend := none })), es2.nx)
                      | .ret => some (.v (.bool false), es2.hp.set id (some (.loop { lp2 with st := .done, pend := some .ret })), es2.nx)
                      | .exit i => some (.v (.bool false), es2.hp.set id (some (.loop { lp2 with st := .done, pend := some (.exit i) })), es2.nx)
                      | _ => none
                    | _ => none
                  | none => none
                | _ => none
              | _ => none
            | _ => none
          else none
        | _, _ => none
      | _ => none

noncomputable def callE (tb : Nat → Option FE) (n : Nat) : Nat → CallT
  | 0 => fun _ _ _ _ => none
  | k + 1 => stepC tb n (callE tb n k)

def okBE : Option (DV × Tr DObj × Nat) → Bool
  | some (.v (.bool b), _, _) => b
  | _ => false
def bs (l : List UInt8) : ByteArray := ⟨l.toArray⟩
end Go.DD
