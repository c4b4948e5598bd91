/- Deep values: immutable memory read as content, the call's own objects by number; what is stored may name objects that are gone. -/
import Derived.Test.YtpaggdhijeabnaaGreatDoorH0
import Derived.Test.YtpaggdhijeabnaaGreatDoorGv
namespace Go.DD
open Go.RowKit (Below)

/-- A deep value. 'sl', 'ia': immutable rows as what they hold (a slice; an address in front of cells). 'ms', 'pt', 'mp', 'yl': own objects, by number. -/
inductive DV where
  | any
  | v (x : Value)
  | agg (cs : List DV)
  | tup (cs : List DV)
  | sl (cs : List DV) (n : Nat)
  | ia (cs : List DV)
  | fn (f : Fn) (cs : List DV)
  | ifc (T : TypeId) (d : DV)
  | ms (id off n es : Nat)
  | pt (id off : Nat)
  | mp (id : Nat)
  | yl (id : Nat)
  deriving Inhabited

mutual
def DV.refs : DV → List Nat
  | .agg cs => DV.refsL cs
  | .tup cs => DV.refsL cs
  | .fn _ cs => DV.refsL cs
  | .ifc _ d => DV.refs d
  | .ms id _ _ _ => [id]
  | .pt id _ => [id]
  | .mp id => [id]
  | .yl id => [id]
  | _ => []
def DV.refsL : List DV → List Nat
  | [] => []
  | c :: cs => DV.refs c ++ DV.refsL cs
end

/-- A function of the program, with the arguments that are bound already and what it has captured. -/
def DV.asFnB : DV → Option (FuncId × List DV × List DV)
  | .fn (.func f) (.tup fs :: cs) => some (f, fs, cs)
  | _ => none
theorem asFnB_some {d : DV} {p : FuncId × List DV × List DV} (h : d.asFnB = some p) : d = .fn (.func p.1) (.tup p.2.1 :: p.2.2) := by
  unfold DV.asFnB at h
  split at h
  · cases h; rfl
  · cases h
/-- .. with what it has captured; no argument is bound. -/
def DV.asFn : DV → Option (FuncId × List DV)
  | .fn (.func f) (.tup [] :: cs) => some (f, cs)
  | _ => none
theorem asFn_some {d : DV} {p : FuncId × List DV} (h : d.asFn = some p) : d = .fn (.func p.1) (.tup [] :: p.2) := by
  unfold DV.asFn at h
  split at h
  · cases h; rfl
  · cases h
/-- A loop's yield. -/
def DV.asYl : DV → Option Nat
  | .yl id => some id
  | _ => none
theorem asYl_some {d : DV} {id : Nat} (h : d.asYl = some id) : d = .yl id := by
  cases d with
  | yl i => simp [DV.asYl] at h; subst h; rfl
  | _ => simp [DV.asYl] at h

theorem DV.refsL_mem {cs : List DV} {d : DV} (h : d ∈ cs) {id : Nat} (hi : id ∈ d.refs) : id ∈ DV.refsL cs := by
  induction cs with
  | nil => cases h
  | cons c cs ih =>
    simp only [DV.refsL, List.mem_append]
    rcases List.mem_cons.1 h with rfl | h
    · exact .inl hi
    · exact .inr (ih h)
theorem DV.mem_refsL {cs : List DV} {id : Nat} (h : id ∈ DV.refsL cs) : ∃ d ∈ cs, id ∈ d.refs := by
  induction cs with
  | nil => cases h
  | cons c cs ih =>
    simp only [DV.refsL, List.mem_append] at h
    rcases h with h | h
    · exact ⟨c, by simp, h⟩
    · obtain ⟨d, h1, h2⟩ := ih h; exact ⟨d, by simp [h1], h2⟩

/-- What is called: the function, what comes ahead of the arguments, and behind them. 'tb': the method of each type, where the call is one through an interface. -/
def lkT : List (TypeId × FuncId) → TypeId → Option FuncId
  | [], _ => none
  | p :: l, T => if p.1 = T then some p.2 else lkT l T
def DV.tgt (tb : Option (List (TypeId × FuncId))) (d : DV) : Option (FuncId × List DV × List DV) := match tb with
  | none => d.asFnB
  | some l => match d with
    | .ifc T e => (lkT l T).map fun f => (f, [e], [])
    | _ => none
def DV.tgY (tb : Option (List (TypeId × FuncId))) (d : DV) : Option Nat := match tb with
  | none => d.asYl
  | some _ => none
theorem tgY_some {tb : Option (List (TypeId × FuncId))} {d : DV} {id : Nat} (h : d.tgY tb = some id) : tb = none ∧ d = .yl id := by
  cases tb with
  | none => exact ⟨rfl, asYl_some h⟩
  | some l => cases h

/-- A variable of the package, and what it holds. -/
def gvD (g : Nat) : DV := match glv g with
  | some cs => .ia (cs.map .v)
  | none => .any
def GLV (x : Value) (d : DV) : Prop := ∃ g cs, glv g = some cs ∧ x = .pointer (some ⟨g, 0, none⟩) ∧ d = .ia (cs.map .v)
/-- What reads as immutable content: every cell lies in an allowed block. -/
inductive RelI (w : World) (al : Nat → Prop) : Value → DV → Prop
  | any (x : Value) : RelI w al x .any
  | v (x : Value) : RelI w al x (.v x)
  | agg (vs : List Value) (cs : List DV) (hl : vs.length = cs.length) (ho : ∀ u ∈ vs, u.oneCell' = true)
      (h : ∀ (j : Nat) (u : Value) (d : DV), vs[j]? = some u → cs[j]? = some d → RelI w al u d) : RelI w al (.agg vs.toArray) (.agg cs)
  | tup (vs : List Value) (cs : List DV) (hl : vs.length = cs.length)
      (h : ∀ (j : Nat) (u : Value) (d : DV), vs[j]? = some u → cs[j]? = some d → RelI w al u d) : RelI w al (.tuple vs.toArray) (.tup cs)
  | sl0 (a : Option Addr) (cap : Nat) : RelI w al (.slice a 0 cap) (.sl [] 0)
  | sl (ad : Addr) (n cap : Nat) (us : List Value) (cs : List DV) (hl : us.length = cs.length) (hn : n ≤ cap) (ha : al ad.block) (ho : ∀ u ∈ us, u.oneCell' = true)
      (hc : ∀ (j : Nat) (u : Value), us[j]? = some u → w.cell? (ad.add j) = some u)
      (h : ∀ (j : Nat) (u : Value) (d : DV), us[j]? = some u → cs[j]? = some d → RelI w al u d) : RelI w al (.slice (some ad) n cap) (.sl cs n)
  | ia (ad : Addr) (us : List Value) (cs : List DV) (hl : us.length = cs.length) (ha : al ad.block) (ho : ∀ u ∈ us, u.oneCell' = true)
      (hc : ∀ (j : Nat) (u : Value), us[j]? = some u → w.cell? (ad.add j) = some u)
      (h : ∀ (j : Nat) (u : Value) (d : DV), us[j]? = some u → cs[j]? = some d → RelI w al u d) : RelI w al (.pointer (some ad)) (.ia cs)
  | fn (f : Fn) (us vs : List Value) (cs : List DV) (hl : (Value.tuple us.toArray :: vs).length = cs.length)
      (h : ∀ (j : Nat) (u : Value) (d : DV), (Value.tuple us.toArray :: vs)[j]? = some u → cs[j]? = some d → RelI w al u d) : RelI w al (.func f us.toArray vs.toArray) (.fn f cs)
  | ifc (T : TypeId) (u : Value) (d : DV) (h : RelI w al u d) : RelI w al (.iface T u) (.ifc T d)

theorem block_add (a : Addr) (n : Nat) : (a.add n).block = a.block := by unfold Addr.add; split <;> rfl
theorem add_add (a : Addr) (i j : Nat) : (a.add i).add j = a.add (i + j) := by
  unfold Addr.add
  by_cases hi : i = 0 <;> by_cases hj : j = 0 <;> simp [hi, hj, Nat.add_assoc]

/-- Of blocks that hold no cells nothing is read. -/
theorem cells_of_cell {w : World} {a : Addr} {v : Value} (h : w.cell? a = some v) : ∃ c T r, w.heap[a.block]? = some (.cells c T r) := by
  unfold World.cell? at h
  split at h
  · rename_i c T r hc; exact ⟨c, T, r, hc⟩
  · cases h
theorem RelI.monoC {w w' : World} {al al' : Nat → Prop} (hb : ∀ b, al b → al' b ∧ ((∃ c T r, w.heap[b]? = some (.cells c T r)) → w'.heap[b]? = w.heap[b]?)) {x : Value} {d : DV} (h : RelI w al x d) : RelI w' al' x d := by
  induction h with
  | any x => exact .any x
  | v x => exact .v x
  | agg vs cs hl ho _ ih => exact .agg vs cs hl ho ih
  | tup vs cs hl _ ih => exact .tup vs cs hl ih
  | sl0 a cap => exact .sl0 a cap
  | sl ad n cap us cs hl hn ha ho hc _ ih =>
    refine .sl ad n cap us cs hl hn (hb _ ha).1 ho (fun j u hu => ?_) ih
    have h1 := cells_of_cell (hc j u hu)
    rw [block_add] at h1
    exact (World.cell?_of_block (by rw [block_add]; exact (hb _ ha).2 h1)).trans (hc j u hu)
  | ia ad us cs hl ha ho hc _ ih =>
    refine .ia ad us cs hl (hb _ ha).1 ho (fun j u hu => ?_) ih
    have h1 := cells_of_cell (hc j u hu)
    rw [block_add] at h1
    exact (World.cell?_of_block (by rw [block_add]; exact (hb _ ha).2 h1)).trans (hc j u hu)
  | fn f us vs cs hl _ ih => exact .fn f us vs cs hl ih
  | ifc T u d _ ih => exact .ifc T u d ih
theorem RelI.mono {w w' : World} {al al' : Nat → Prop} (hb : ∀ b, al b → al' b ∧ w'.heap[b]? = w.heap[b]?) {x : Value} {d : DV} (h : RelI w al x d) : RelI w' al' x d :=
  h.monoC fun b hb' => ⟨(hb b hb').1, fun _ => (hb b hb').2⟩

/-- The relation at a moment of a call: immutable content, or own objects under 'β'. -/
inductive Rel (P : Program) (w : World) (al : Nat → Prop) (β : Nat → Option Nat) : Value → DV → Prop
  | imm (x : Value) (d : DV) (h : RelI w al x d) : Rel P w al β x d
  | agg (vs : List Value) (cs : List DV) (hl : vs.length = cs.length) (ho : ∀ u ∈ vs, u.oneCell' = true)
      (h : ∀ (j : Nat) (u : Value) (d : DV), vs[j]? = some u → cs[j]? = some d → Rel P w al β u d) : Rel P w al β (.agg vs.toArray) (.agg cs)
  | tup (vs : List Value) (cs : List DV) (hl : vs.length = cs.length)
      (h : ∀ (j : Nat) (u : Value) (d : DV), vs[j]? = some u → cs[j]? = some d → Rel P w al β u d) : Rel P w al β (.tuple vs.toArray) (.tup cs)
  | fn (f : Fn) (us vs : List Value) (cs : List DV) (hl : (Value.tuple us.toArray :: vs).length = cs.length)
      (h : ∀ (j : Nat) (u : Value) (d : DV), (Value.tuple us.toArray :: vs)[j]? = some u → cs[j]? = some d → Rel P w al β u d) : Rel P w al β (.func f us.toArray vs.toArray) (.fn f cs)
  | ifc (T : TypeId) (u : Value) (d : DV) (h : Rel P w al β u d) : Rel P w al β (.iface T u) (.ifc T d)
  | ms0 (id es : Nat) : Rel P w al β (.slice none 0 0) (.ms id 0 0 es)
  | ms (id off n es b cap : Nat) (c : Array Value) (T : TypeId) (hβ : β id = some b) (hw : w.heap[b]? = some (.cells c T (0, 0))) (hn : n ≤ cap) (hm : cap ≤ maxLen) (hcap : off + cap * es = c.size) :
      Rel P w al β (.slice (some ⟨b, off, none⟩) n cap) (.ms id off n es)
  | pt (id off b : Nat) (hβ : β id = some b) : Rel P w al β (.pointer (some ⟨b, off, none⟩)) (.pt id off)
  | mp (id b : Nat) (hβ : β id = some b) : Rel P w al β (.map (some b)) (.mp id)
  | yl (id b : Nat) (hβ : β id = some b) : Rel P w al β (.func (.yield b) #[] #[]) (.yl id)

/-- Kept, where allowed blocks hold what they held, and the own blocks that are named keep their shape. -/
theorem Rel.mono {P : Program} {w w' : World} {al al' : Nat → Prop} {β β' : Nat → Option Nat} (hb : ∀ b, al b → al' b ∧ ((∃ c T r, w.heap[b]? = some (.cells c T r)) → w'.heap[b]? = w.heap[b]?))
    {x : Value} {d : DV} (h : Rel P w al β x d)
    (hr : ∀ id ∈ d.refs, ∀ b, β id = some b → β' id = some b ∧ ∀ (c : Array Value) (T : TypeId), w.heap[b]? = some (.cells c T (0, 0)) → ∃ c', w'.heap[b]? = some (.cells c' T (0, 0)) ∧ c'.size = c.size) :
    Rel P w' al' β' x d := by
  induction h with
  | imm x d h => exact .imm x d (h.monoC hb)
  | agg vs cs hl ho _ ih =>
    exact .agg vs cs hl ho fun j u d hu hd => ih j u d hu hd fun id hi => hr id (by rw [DV.refs]; exact DV.refsL_mem (List.mem_of_getElem? hd) hi)
  | tup vs cs hl _ ih =>
    exact .tup vs cs hl fun j u d hu hd => ih j u d hu hd fun id hi => hr id (by rw [DV.refs]; exact DV.refsL_mem (List.mem_of_getElem? hd) hi)
  | fn f us vs cs hl _ ih =>
    exact .fn f us vs cs hl fun j u d hu hd => ih j u d hu hd fun id hi => hr id (by rw [DV.refs]; exact DV.refsL_mem (List.mem_of_getElem? hd) hi)
  | ifc T u d _ ih => exact .ifc T u d (ih fun id hi => hr id (by rw [DV.refs]; exact hi))
  | ms0 id es => exact .ms0 id es
  | ms id off n es b cap c T hβ hw hn hm hcap =>
    obtain ⟨h1, h2⟩ := hr id (by simp [DV.refs]) b hβ
    obtain ⟨c', hc', hs⟩ := h2 c T hw
    exact .ms id off n es b cap c' T h1 hc' hn hm (by omega)
  | pt id off b hβ => exact .pt id off b (hr id (by simp [DV.refs]) b hβ).1
  | mp id b hβ => exact .mp id b (hr id (by simp [DV.refs]) b hβ).1
  | yl id b hβ => exact .yl id b (hr id (by simp [DV.refs]) b hβ).1

/-! A frame's slots: a list, or a tree. -/
inductive Tr (α : Type) where
  | e
  | n (l : Tr α) (v : Option α) (r : Tr α)
  deriving Inhabited
def Tr.get {α : Type} : Tr α → Nat → Option α
  | .e, _ => none
  | .n l v r, k => match k with
    | 0 => v
    | k + 1 => if k % 2 = 0 then l.get (k / 2) else r.get (k / 2)
def Tr.setF {α : Type} : Nat → Tr α → Nat → Option α → Tr α
  | 0, t, _, v => match t with
    | .e => .n .e v .e
    | .n l _ r => .n l v r
  | f + 1, t, k, v => match k with
    | 0 => match t with
      | .e => .n .e v .e
      | .n l _ r => .n l v r
    | k + 1 => match t with
      | .e => if k % 2 = 0 then .n (Tr.setF f .e (k / 2) v) none .e else .n .e none (Tr.setF f .e (k / 2) v)
      | .n l x r => if k % 2 = 0 then .n (Tr.setF f l (k / 2) v) x r else .n l x (Tr.setF f r (k / 2) v)
def Tr.set {α : Type} (t : Tr α) (k : Nat) (v : Option α) : Tr α := Tr.setF k t k v
theorem Tr.get_setF {α : Type} : ∀ (f : Nat) (t : Tr α) (k j : Nat) (v : Option α), k ≤ f → (Tr.setF f t k v).get j = if k = j then v else t.get j
  | 0, t, k, j, v, h => by
    obtain rfl : k = 0 := by omega
    cases t <;> cases j <;> simp [Tr.setF, Tr.get]
  | f + 1, t, 0, j, v, h => by
    cases t <;> cases j <;> simp [Tr.setF, Tr.get]
  | f + 1, t, k + 1, j, v, h => by
    have ih := fun t j => Tr.get_setF f t (k / 2) j v (by omega)
    cases t with
    | e =>
      simp only [Tr.setF]
      by_cases hk : k % 2 = 0
      · rw [if_pos hk]
        cases j with
        | zero => simp [Tr.get]
        | succ j =>
          simp only [Tr.get]
          by_cases hj : j % 2 = 0
          · rw [if_pos hj, ih]
            by_cases he : k = j
            · subst he; simp
            · rw [if_neg (by omega), if_neg (by omega)]; simp [Tr.get]
          · rw [if_neg hj, if_neg (by omega)]
      · rw [if_neg hk]
        cases j with
        | zero => simp [Tr.get]
        | succ j =>
          simp only [Tr.get]
          by_cases hj : j % 2 = 0
          · rw [if_pos hj, if_neg (by omega)]
          · rw [if_neg hj, ih]
            by_cases he : k = j
            · subst he; simp
            · rw [if_neg (by omega), if_neg (by omega)]; simp [Tr.get]
    | n l x r =>
      simp only [Tr.setF]
      by_cases hk : k % 2 = 0
      · rw [if_pos hk]
        cases j with
        | zero => simp [Tr.get]
        | succ j =>
          simp only [Tr.get]
          by_cases hj : j % 2 = 0
          · rw [if_pos hj, if_pos hj, ih]
            by_cases he : k = j
            · subst he; simp
            · rw [if_neg (by omega), if_neg (by omega)]
          · rw [if_neg hj, if_neg hj, if_neg (by omega)]
      · rw [if_neg hk]
        cases j with
        | zero => simp [Tr.get]
        | succ j =>
          simp only [Tr.get]
          by_cases hj : j % 2 = 0
          · rw [if_pos hj, if_pos hj, if_neg (by omega)]
          · rw [if_neg hj, if_neg hj, ih]
            by_cases he : k = j
            · subst he; simp
            · rw [if_neg (by omega), if_neg (by omega)]
theorem Tr.get_set {α : Type} (t : Tr α) (k j : Nat) (v : Option α) : (t.set k v).get j = if k = j then v else t.get j := Tr.get_setF k t k j v (Nat.le_refl _)

def lkS : List (Nat × DV) → Nat → DV
  | [], _ => .any
  | (i, d) :: r, t => if i = t then d else lkS r t
def lkH {α : Type} : List (Nat × Option α) → Nat → Option α
  | [], _ => none
  | (i, o) :: r, t => if i = t then o else lkH r t

inductive Sl where
  | l (l : List (Nat × DV))
  | t (t : Tr DV)
  | f (f : Nat → DV)
  deriving Inhabited
def Sl.get : Sl → Nat → DV
  | .l x, u => lkS x u
  | .t x, u => (x.get u).getD .any
  | .f x, u => x u

/-- The record of a range over a function: the frame that it stands in, and its code. -/
structure DLoop where
  nt : Nat
  sl : Sl
  ps : List Nat
  asg : DC
  body : DC
  st : LoopState
  pend : Option Code
  deriving Inhabited

/-- An entry of a map: its key, its value, its stamp. -/
structure ME where
  k : Value
  v : DV
  b : Nat
  deriving Inhabited

/-- An own object: a row of cells of an element type, a map (with the next stamp), a loop's record, the iterators of a string, of a map. -/
inductive DObj where
  | row (T : TypeId) (cs : List DV)
  | mapo (ck : Nat) (es : List ME)
  | loop (lp : DLoop)
  | siter (t : ByteArray) (pos : Nat)
  | miter (m : DV) (since : Nat) (seen : List Nat) (last : Nat)
  deriving Inhabited

/-- Two objects' blocks of one shape. -/
def SameShape (w w' : World) (b : Nat) : Prop :=
  ∀ (c : Array Value) (T : TypeId), w.heap[b]? = some (.cells c T (0, 0)) → ∃ c', w'.heap[b]? = some (.cells c' T (0, 0)) ∧ c'.size = c.size
theorem SameShape.of_eq {w w' : World} {b : Nat} (h : w'.heap[b]? = w.heap[b]?) : SameShape w w' b := fun c _ hc => ⟨c, h.trans hc, rfl⟩

/-- The deep state: the slots, the own objects, the next number of an object. -/
structure DS where
  sv : Nat → DV
  ho : Nat → Option DObj
  nx : Nat
  deriving Inhabited

/-- What stands around one call: the program, the old blocks that may be read, the old blocks that are lent to be written, the world at the call's beginning, the number of slots; what others hold; their marks; the round that it is part of; others' objects; numbers that are kept back. -/
structure Ctx where
  P : Program
  S : Nat → Prop
  G : Nat → Prop
  w0 : World
  nt : Nat
  X : Value → DV → Prop
  M : Nat → Prop
  rd : Option Nat
  Y : Nat → Option DObj
  R : Nat → Prop

def alw (C : Ctx) (w : World) (β : Nat → Option Nat) (b : Nat) : Prop := (C.S b ∨ C.w0.heap.size ≤ b ∨ C.G b) ∧ b < w.heap.size ∧ ∀ id, β id ≠ some b

/-- The plain parts of a tuple: they stay known, whatever becomes of the objects that other parts name. -/
def TP (x : Value) (d : DV) : Prop := ∀ ds, d = .tup ds → ∀ (i : Nat) (v : Value), ds[i]? = some (.v v) → ∃ vs : Array Value, x = .tuple vs ∧ vs[i]? = some v
/-- What is stored: it reads so as long as all the objects that it names are there. -/
def WV (C : Ctx) (U : Nat → Prop) (V : Nat → Option DObj) (β : Nat → Option Nat) (w : World) (x : Value) (d : DV) : Prop :=
  (∀ id ∈ d.refs, U id) ∧ ((∀ id ∈ d.refs, (V id).isSome = true) → Rel C.P w (alw C w β) β x d) ∧ TP x d

/-- How an own object lies in memory. -/
def RelO (C : Ctx) (U : Nat → Prop) (V : Nat → Option DObj) (β : Nat → Option Nat) (w : World) (id : Nat) : DObj → Prop
  | .row T cs => (β id = none ∧ cs = []) ∨ ∃ b c, β id = some b ∧ w.heap[b]? = some (.cells c T (0, 0)) ∧ cs.length ≤ c.size ∧ (isArr C.P T = true → c.size = cs.length) ∧
      ∀ (j : Nat) (u : Value) (d : DV), c[j]? = some u → cs[j]? = some d → WV C U V β w u d ∧ u.oneCell' = true
  | .mapo ck es => ∃ b ms, β id = some b ∧ w.heap[b]? = some (.map ms ck) ∧ ms.size = es.length ∧
      ∀ (j : Nat) (e : MapEntry) (p : ME), ms[j]? = some e → es[j]? = some p → e.key = p.k ∧ e.born = p.b ∧ WV C U V β w e.val p.v
  | .loop lp => ∃ b r, β id = some b ∧ w.heap[b]? = some (.loop r) ∧ r.params.toList = lp.ps ∧ r.tmps.size = lp.nt ∧ compC C.P lp.nt r.assign = some lp.asg ∧ compC C.P lp.nt r.body = some lp.body ∧
      r.state = lp.st ∧ r.pending = lp.pend ∧ ∀ t, WV C U V β w (r.tmps.getD t undef) (lp.sl.get t)
  | .siter t pos => ∃ b, β id = some b ∧ w.heap[b]? = some (.stringIter t pos)
  | .miter m since seen last => ∃ b mv, β id = some b ∧ w.heap[b]? = some (.mapIter mv since seen.toArray last) ∧ WV C U V β w (.map mv) m

/-- What was there is as it was, but for the blocks that are lent. -/
structure BelG (C : Ctx) (w : World) : Prop where
  os : w.os = C.w0.os
  tape : w.tape = C.w0.tape
  output : w.output = C.w0.output
  size : C.w0.heap.size ≤ w.heap.size
  block : ∀ k, k < C.w0.heap.size → ¬ C.G k → w.heap[k]? = C.w0.heap[k]?

/-- The heap's part of the relation. 'U': the numbers that were given; 'V': the objects. -/
structure HH (C : Ctx) (U : Nat → Prop) (V : Nat → Option DObj) (β : Nat → Option Nat) (w : World) : Prop where
  ok : ∀ b, C.S b → b < C.w0.heap.size
  bel : BelG C w
  bge : ∀ id b, β id = some b → (C.w0.heap.size ≤ b ∨ C.G b) ∧ b < w.heap.size
  inj : ∀ i j b, β i = some b → β j = some b → i = j
  fr : ∀ id, ¬ U id → V id = none
  hp : ∀ id o, V id = some o → RelO C U V β w id o

/-- A mark among the deferred calls: its block lies by itself. -/
def Mark (C : Ctx) (β : Nat → Option Nat) (w : World) (d : Deferred) : Prop :=
  ∃ D, d = { target := .collected D, args := #[] } ∧ w.heap[D]? = some (.deferred (some [])) ∧ C.w0.heap.size ≤ D ∧ ∀ id, β id ≠ some D

/-- A deferred closure that does nothing where nothing panics. -/
def Quiet (P : Program) (d : Deferred) : Prop := ∃ g caps, quietF P g = true ∧ d = { target := .fn (.func g) caps, args := #[] }
def isColl (d : Deferred) : Bool := match d.target with
  | .collected _ => true
  | _ => false
/-- The marks of this frame, and those of the frames around. -/
structure Marks (C : Ctx) (β : Nat → Option Nat) (w : World) (l : List Deferred) : Prop where
  nodup : (l.filter isColl).Nodup
  own : ∀ d ∈ l, Mark C β w d ∨ Quiet C.P d
  out : ∀ D, C.M D → Mark C β w { target := .collected D, args := #[] }
  apart : ∀ D, ({ target := .collected D, args := #[] } : Deferred) ∈ l → ¬ C.M D

/-- Blocks that are not own rows lie as they lay. -/
def KeepO (w : World) (β : Nat → Option Nat) (w' : World) (β' : Nat → Option Nat) : Prop :=
  ∀ b, b < w.heap.size → (∀ id, β id ≠ some b) → w'.heap[b]? = w.heap[b]? ∧ ∀ id, β' id ≠ some b
theorem KeepO.mark1 {C : Ctx} {β β' : Nat → Option Nat} {w w' : World} (h : KeepO w β w' β') {d : Deferred} (hd : Mark C β w d) : Mark C β' w' d :=
  let ⟨D, h1, h2, h3, h4⟩ := hd; let ⟨k1, k2⟩ := h D (Array.getElem?_eq_some_iff.1 h2).1 h4; ⟨D, h1, k1.trans h2, h3, k2⟩
theorem KeepO.mark {C : Ctx} {β β' : Nat → Option Nat} {w w' : World} (h : KeepO w β w' β') {l : List Deferred} (hl : Marks C β w l) : Marks C β' w' l :=
  ⟨hl.nodup, fun d hd => (hl.own d hd).imp h.mark1 fun h => h, fun D hD => h.mark1 (hl.out D hD), hl.apart⟩
theorem Marks.ownC {C : Ctx} {β : Nat → Option Nat} {w : World} {l : List Deferred} (h : Marks C β w l) {D : Nat} (hd : ({ target := .collected D, args := #[] } : Deferred) ∈ l) : Mark C β w { target := .collected D, args := #[] } := by
  rcases h.own _ hd with h1 | ⟨g, caps, _, h1⟩
  · exact h1
  · simp at h1
/-- One more that does nothing. -/
theorem Marks.quiet {C : Ctx} {β : Nat → Option Nat} {w : World} {l : List Deferred} (h : Marks C β w l) {d : Deferred} (hd : Quiet C.P d) : Marks C β w (d :: l) := by
  obtain ⟨g, caps, hq, rfl⟩ := hd
  refine ⟨?_, fun d hd => ?_, h.out, fun D hD => ?_⟩
  · rw [List.filter_cons_of_neg (by simp [isColl])]; exact h.nodup
  · rcases List.mem_cons.1 hd with rfl | hd
    · exact .inr ⟨g, caps, hq, rfl⟩
    · exact h.own d hd
  · rcases List.mem_cons.1 hD with e | hD
    · simp at e
    · exact h.apart D hD
theorem Marks.tail {C : Ctx} {β : Nat → Option Nat} {w : World} {l : List Deferred} {d : Deferred} (h : Marks C β w (d :: l)) (hd : isColl d = false) : Marks C β w l := by
  refine ⟨?_, fun e he => h.own e (List.mem_cons_of_mem _ he), h.out, fun D hD => h.apart D (List.mem_cons_of_mem _ hD)⟩
  have := h.nodup
  rwa [List.filter_cons_of_neg (by simp [hd])] at this

/-- All objects: one's own, and the others'. -/
def vwF (Y ho : Nat → Option DObj) (id : Nat) : Option DObj := match ho id with
  | some o => some o
  | none => Y id
def DS.vw (C : Ctx) (s : DS) : Nat → Option DObj := vwF C.Y s.ho

structure HoldsB (C : Ctx) (U : Nat → Prop) (s : DS) (β : Nat → Option Nat) (a : Act) (w : World) : Prop where
  hh : HH C U (s.vw C) β w
  df : Marks C β w a.defers
  sz : a.tmps.size = C.nt
  sl : ∀ t, WV C U (s.vw C) β w (a.tmps.getD t undef) (s.sv t)
  gh : ∀ x d, C.X x d ∨ GLV x d → WV C U (s.vw C) β w x d
  yd : ∀ id o, C.Y id = some o → s.ho id = none

/-- The numbers that a frame has given. -/
def Us (C : Ctx) (nx : Nat) (id : Nat) : Prop := id < nx ∧ ¬ C.R id
def Holds (C : Ctx) (s : DS) (a : Act) (w : World) : Prop := (∀ id, C.R id → id < s.nx) ∧ ∃ β, HoldsB C (Us C s.nx) s β a w

end Go.DD
