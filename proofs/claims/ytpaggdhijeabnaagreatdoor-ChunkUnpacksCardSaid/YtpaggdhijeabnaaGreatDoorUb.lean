/- Each operation on deep values is what the model's operation does (first part: no memory is made). -/
import Derived.Test.YtpaggdhijeabnaaGreatDoorUa
import Derived.Laws.StructEq
import Derived.Laws.CopyRow
import Derived.Laws.Slices
import Derived.Laws.IdiomStrings
import Derived.Laws.OwnMore
import Derived.Laws.MakeOwn
import Derived.Maps.AppendAt
namespace Go.DD
open Go.RowKit (Below)

section inv
variable {P : Program} {w : World} {al : Nat → Prop} {β : Nat → Option Nat} {x : Value}
theorem rel_v {y : Value} (h : Rel P w al β x (.v y)) : x = y := by
  cases h with
  | imm _ _ h => cases h; rfl
theorem rel_agg {cs : List DV} (h : Rel P w al β x (.agg cs)) : ∃ vs : List Value, x = .agg vs.toArray ∧ vs.length = cs.length ∧ (∀ u ∈ vs, u.oneCell' = true) ∧
    ∀ (j : Nat) (u : Value) (d : DV), vs[j]? = some u → cs[j]? = some d → Rel P w al β u d := by
  cases h with
  | imm _ _ h => cases h with
    | agg vs cs hl ho h => exact ⟨vs, rfl, hl, ho, fun j u d hu hd => .imm _ _ (h j u d hu hd)⟩
  | agg vs cs hl ho h => exact ⟨vs, rfl, hl, ho, h⟩
theorem rel_tup {cs : List DV} (h : Rel P w al β x (.tup cs)) : ∃ vs : List Value, x = .tuple vs.toArray ∧ vs.length = cs.length ∧
    ∀ (j : Nat) (u : Value) (d : DV), vs[j]? = some u → cs[j]? = some d → Rel P w al β u d := by
  cases h with
  | imm _ _ h => cases h with
    | tup vs cs hl h => exact ⟨vs, rfl, hl, fun j u d hu hd => .imm _ _ (h j u d hu hd)⟩
  | tup vs cs hl h => exact ⟨vs, rfl, hl, h⟩
theorem rel_fn {f : Fn} {cs : List DV} (h : Rel P w al β x (.fn f cs)) : ∃ us vs : List Value, x = .func f us.toArray vs.toArray ∧ (Value.tuple us.toArray :: vs).length = cs.length ∧
    ∀ (j : Nat) (u : Value) (d : DV), (Value.tuple us.toArray :: vs)[j]? = some u → cs[j]? = some d → Rel P w al β u d := by
  cases h with
  | imm _ _ h => cases h with
    | fn _ us vs cs hl h => exact ⟨us, vs, rfl, hl, fun j u d hu hd => .imm _ _ (h j u d hu hd)⟩
  | fn _ us vs cs hl h => exact ⟨us, vs, rfl, hl, h⟩
theorem rel_fnB {f : Fn} {fs cs : List DV} (h : Rel P w al β x (.fn f (.tup fs :: cs))) : ∃ us vs : List Value, x = .func f us.toArray vs.toArray ∧ us.length = fs.length ∧ vs.length = cs.length ∧
    (∀ (j : Nat) (u : Value) (d : DV), us[j]? = some u → fs[j]? = some d → Rel P w al β u d) ∧ ∀ (j : Nat) (u : Value) (d : DV), vs[j]? = some u → cs[j]? = some d → Rel P w al β u d := by
  obtain ⟨us, vs, rfl, hl, hr⟩ := rel_fn h
  obtain ⟨us', e, hl2, hr2⟩ := rel_tup (hr 0 _ _ rfl rfl)
  simp only [Value.tuple.injEq] at e
  have e' : us = us' := by simpa using congrArg Array.toList e
  subst e'
  exact ⟨us, vs, rfl, hl2, by simpa using hl, hr2, fun j u d hu hd => hr (j + 1) u d (by simpa using hu) (by simpa using hd)⟩
theorem pw_app {W : Value → DV → Prop} {a b : List Value} {c d : List DV} (hl : a.length = c.length) (h1 : ∀ (j : Nat) (v : Value) (e : DV), a[j]? = some v → c[j]? = some e → W v e)
    (h2 : ∀ (j : Nat) (v : Value) (e : DV), b[j]? = some v → d[j]? = some e → W v e) (j : Nat) (v : Value) (e : DV) (hv : (a ++ b)[j]? = some v) (he : (c ++ d)[j]? = some e) : W v e := by
  rw [List.getElem?_append] at hv he
  by_cases hj : j < a.length
  · rw [if_pos hj] at hv; rw [if_pos (by omega)] at he; exact h1 j v e hv he
  · rw [if_neg hj] at hv; rw [if_neg (by omega)] at he; rw [hl] at hv; exact h2 _ v e hv he
theorem rel_ifc {T : TypeId} {d : DV} (h : Rel P w al β x (.ifc T d)) : ∃ u, x = .iface T u ∧ Rel P w al β u d := by
  cases h with
  | imm _ _ h => cases h with
    | ifc _ u _ h => exact ⟨u, rfl, .imm _ _ h⟩
  | ifc _ u _ h => exact ⟨u, rfl, h⟩
theorem rel_ia {cs : List DV} (h : Rel P w al β x (.ia cs)) : ∃ (ad : Addr) (us : List Value), x = .pointer (some ad) ∧ us.length = cs.length ∧ al ad.block ∧ (∀ u ∈ us, u.oneCell' = true) ∧
    (∀ (j : Nat) (u : Value), us[j]? = some u → w.cell? (ad.add j) = some u) ∧ ∀ (j : Nat) (u : Value) (d : DV), us[j]? = some u → cs[j]? = some d → RelI w al u d := by
  cases h with
  | imm _ _ h => cases h with
    | ia ad us cs hl ha ho hc h => exact ⟨ad, us, rfl, hl, ha, ho, hc, h⟩
theorem rel_sl {cs : List DV} {n : Nat} (h : Rel P w al β x (.sl cs n)) : (∃ a cap, x = .slice a 0 cap ∧ cs = [] ∧ n = 0) ∨
    ∃ (ad : Addr) (cap : Nat) (us : List Value), x = .slice (some ad) n cap ∧ us.length = cs.length ∧ n ≤ cap ∧ al ad.block ∧ (∀ u ∈ us, u.oneCell' = true) ∧
    (∀ (j : Nat) (u : Value), us[j]? = some u → w.cell? (ad.add j) = some u) ∧ ∀ (j : Nat) (u : Value) (d : DV), us[j]? = some u → cs[j]? = some d → RelI w al u d := by
  cases h with
  | imm _ _ h => cases h with
    | sl0 a cap => exact .inl ⟨a, cap, rfl, rfl, rfl⟩
    | sl ad n cap us cs hl hn ha ho hc h => exact .inr ⟨ad, cap, us, rfl, hl, hn, ha, ho, hc, h⟩
theorem rel_ms {id off n es : Nat} (h : Rel P w al β x (.ms id off n es)) : (x = .slice none 0 0 ∧ off = 0 ∧ n = 0) ∨
    ∃ (b cap : Nat) (c : Array Value) (T : TypeId), x = .slice (some ⟨b, off, none⟩) n cap ∧ β id = some b ∧ w.heap[b]? = some (.cells c T (0, 0)) ∧ n ≤ cap ∧ cap ≤ maxLen ∧ off + cap * es = c.size := by
  cases h with
  | imm _ _ h => cases h
  | ms0 id es => exact .inl ⟨rfl, rfl, rfl⟩
  | ms id off n es b cap c T hβ hw hn hm hcap => exact .inr ⟨b, cap, c, T, rfl, hβ, hw, hn, hm, hcap⟩
theorem rel_pt {id off : Nat} (h : Rel P w al β x (.pt id off)) : ∃ b, x = .pointer (some ⟨b, off, none⟩) ∧ β id = some b := by
  cases h with
  | imm _ _ h => cases h
  | pt id off b hβ => exact ⟨b, rfl, hβ⟩
theorem rel_mp {id : Nat} (h : Rel P w al β x (.mp id)) : ∃ b, x = .map (some b) ∧ β id = some b := by
  cases h with
  | imm _ _ h => cases h
  | mp id b hβ => exact ⟨b, rfl, hβ⟩
theorem rel_yl {id : Nat} (h : Rel P w al β x (.yl id)) : ∃ b, x = .func (.yield b) #[] #[] ∧ β id = some b := by
  cases h with
  | imm _ _ h => cases h
  | yl id b hβ => exact ⟨b, rfl, hβ⟩
theorem rel_any : Rel P w al β x .any := .imm _ _ (.any x)
end inv

theorem rel_ofV {P : Program} {w : World} {al : Nat → Prop} {β : Nat → Option Nat} (x : Value) : Rel P w al β x (ofV x) := by
  cases x with
  | agg cs =>
    simp only [ofV]
    split
    · rename_i h
      obtain ⟨l⟩ := cs
      refine .imm _ _ (.agg l (l.map .v) (by simp) (by simpa using h) fun j u d hu hd => ?_)
      simp only [List.getElem?_map, hu, Option.map_some, Option.some.injEq] at hd
      subst hd
      exact .v u
    · exact rel_any
  | tuple vs => exact rel_any
  | _ => exact .imm _ _ (.v _)

theorem refsL_v (l : List Value) : DV.refsL (l.map .v) = [] := by induction l <;> simp_all [DV.refsL, DV.refs]
theorem gvD_refs (g : Nat) : (gvD g).refs = [] := by
  unfold gvD
  split <;> simp [DV.refs]
theorem refs_ofV (x : Value) : (ofV x).refs = [] := by
  cases x with
  | agg cs => simp only [ofV]; split <;> simp [DV.refs, refsL_v]
  | _ => simp [ofV, DV.refs]

theorem HoldsB.eva {s : DS} (x : Operand) : ∀ id ∈ (s.ev x).refs, (s.ho id).isSome = true := by
  cases x with
  | tmp t =>
    simp only [DS.ev]
    split
    · rename_i h; exact fun id hi => List.all_eq_true.1 h id hi
    · intro id hi; simp [DV.refs] at hi
  | const x => intro id hi; simp only [DS.ev] at hi; rw [refs_ofV] at hi; cases hi
  | func f => intro id hi; simp [DS.ev, DV.refs, DV.refsL] at hi
  | global g => intro id hi; simp only [DS.ev] at hi; rw [gvD_refs] at hi; cases hi
theorem HoldsB.ev {C : Ctx} {U : Nat → Prop} {s : DS} {β : Nat → Option Nat} {a : Act} {w : World} (h : HoldsB C U s β a w) (x : Operand) : Rel C.P w (alw C w β) β (a.eval x) (s.ev x) := by
  cases x with
  | tmp t =>
    simp only [DS.ev]
    split
    · rename_i hl; exact (h.sl t).2.1 fun id hi => vw_alive (List.all_eq_true.1 hl id hi)
    · exact rel_any
  | const x => exact rel_ofV x
  | func f =>
    refine .imm _ _ (.fn (.func f) [] [] [.tup []] rfl fun j u d hu hd => ?_)
    cases j with
    | zero => cases hu; cases hd; exact .tup [] [] rfl fun j u d hu _ => by simp at hu
    | succ j => simp at hu
  | global g =>
    show Rel _ _ _ _ _ (gvD g)
    unfold gvD
    split
    · rename_i cs hg
      exact (h.gh (.pointer (some ⟨g, 0, none⟩)) (.ia (cs.map .v)) (.inr ⟨g, cs, hg, rfl, rfl⟩)).2.1 fun id hi => (by simp [DV.refs] at hi)
    · exact rel_any
theorem HoldsB.evw {C : Ctx} {U : Nat → Prop} {s : DS} {β : Nat → Option Nat} {a : Act} {w : World} (h : HoldsB C U s β a w) (x : Operand) : WV C U (s.vw C) β w (a.eval x) (s.ev x) :=
  h.hh.wv (h.ev x) fun id hi => vw_alive (HoldsB.eva x id hi)
theorem HoldsB.rvw {C : Ctx} {U : Nat → Prop} {s : DS} {β : Nat → Option Nat} {a : Act} {w : World} (h : HoldsB C U s β a w) (x : Operand) : WV C U (s.vw C) β w (a.eval x) (s.rv x) := by
  cases x with
  | tmp t => exact h.sl t
  | _ => exact h.evw _
/-- A part of what an operand reads as. -/
theorem HoldsB.evp {C : Ctx} {U : Nat → Prop} {s : DS} {β : Nat → Option Nat} {a : Act} {w : World} (h : HoldsB C U s β a w) (x : Operand) {u : Value} {d : DV} (hr : Rel C.P w (alw C w β) β u d) (hd : ∀ id ∈ d.refs, id ∈ (s.ev x).refs) : WV C U (s.vw C) β w u d :=
  h.hh.wv hr fun id hi => vw_alive (HoldsB.eva x id (hd id hi))

def Un (U : Nat → Prop) (nid id : Nat) : Prop := U id ∨ id = nid
/-- What an operation that is no call must do. -/
def OpOk (C : Ctx) (U : Nat → Prop) (a : Act) (w : World) (o : Oper) (d : DV) (s' : DS) : Prop :=
  ∃ nx w' β' x, (execOp a.eval o).run C.P w = .ok nx w' ∧ (nx = .value x ∨ (nx = .skip ∧ x = undef)) ∧ HoldsB C U s' β' a w' ∧ WV C U (s'.vw C) β' w' x d

theorem WV.grow {C : Ctx} {U U' : Nat → Prop} {V : Nat → Option DObj} {β : Nat → Option Nat} {w : World} {x : Value} {d : DV} (h : WV C U V β w x d) (hU : ∀ id, U id → U' id) : WV C U' V β w x d := ⟨fun id hi => hU id (h.1 id hi), h.2⟩

theorem OpOk.same {C : Ctx} {U : Nat → Prop} {s : DS} {β : Nat → Option Nat} {a : Act} {w : World} {o : Oper} {d : DV} (h : HoldsB C U s β a w) {x : Value}
    (hr : (execOp a.eval o).run C.P w = .ok (.value x) w) (hx : WV C U (s.vw C) β w x d) : OpOk C U a w o d s :=
  ⟨_, w, β, x, hr, .inl rfl, h, hx⟩

/-- The numbers that are given behind an operation. -/
def Ux (U : Nat → Prop) (nid : Nat) : Upd → Nat → Prop
  | .lay _ => Un U nid
  | .mv _ _ => Un U nid
  | _ => U

section ops
variable {C : Ctx} {U : Nat → Prop} {s : DS} {β : Nat → Option Nat} {a : Act} {w : World} {o : Oper} {d : DV} {s' : DS} {nid : Nat}

theorem cells_one {P : Program} {al : Nat → Prop} {x : Value} {d : DV} (h : Rel P w al β x d) (ho : d.okC = true) :
    x.cells.size = d.cells.length ∧ (∀ u ∈ x.cells.toList, u.oneCell' = true) ∧ ∀ (j : Nat) (u : Value) (e : DV), x.cells[j]? = some u → d.cells[j]? = some e → Rel P w al β u e := by
  have one : ∀ (x : Value) (d : DV), x.oneCell' = true → d.cells = [d] → Rel P w al β x d → x.cells.size = d.cells.length ∧ (∀ u ∈ x.cells.toList, u.oneCell' = true) ∧ ∀ (j : Nat) (u : Value) (e : DV), x.cells[j]? = some u → d.cells[j]? = some e → Rel P w al β u e := by
    intro x d hx hd hr
    have hc : x.cells = #[x] := by cases x <;> first | rfl | (simp [Value.oneCell'] at hx)
    rw [hc, hd]
    refine ⟨rfl, by simpa using hx, fun j u e hu he => ?_⟩
    cases j with
    | zero => simp at hu he; subst hu he; exact hr
    | succ j => simp at hu
  cases d with
  | agg cs =>
    obtain ⟨vs, rfl, hl, h1, h2⟩ := rel_agg h
    refine ⟨by simpa [Value.cells, DV.cells] using hl, by simpa [Value.cells] using h1, fun j u e hu he => h2 j u e (by simpa [Value.cells] using hu) he⟩
  | v y => have := rel_v h; subst this; exact one _ _ ho rfl h
  | tup cs => cases ho
  | any => cases ho
  | sl cs n => rcases rel_sl h with ⟨a, cap, rfl, _, _⟩ | ⟨ad, cap, us, rfl, _⟩ <;> exact one _ _ rfl rfl h
  | ia cs => obtain ⟨ad, us, rfl, _⟩ := rel_ia h; exact one _ _ rfl rfl h
  | fn f cs => obtain ⟨us, vs, rfl, _⟩ := rel_fn h; exact one _ _ rfl rfl h
  | ms id off n es => rcases rel_ms h with ⟨rfl, _⟩ | ⟨b, cap, c, T, rfl, _⟩ <;> exact one _ _ rfl rfl h
  | pt id off => obtain ⟨b, rfl, _⟩ := rel_pt h; exact one _ _ rfl rfl h
  | mp id => obtain ⟨b, rfl, _⟩ := rel_mp h; exact one _ _ rfl rfl h
  | yl id => obtain ⟨b, rfl, _⟩ := rel_yl h; exact one _ _ rfl rfl h
  | ifc T d => obtain ⟨u, rfl, _⟩ := rel_ifc h; exact one _ _ rfl rfl h

theorem cells_refs {d e : DV} (h : e ∈ d.cells) : ∀ id ∈ e.refs, id ∈ d.refs := by
  intro id hi
  cases d <;> simp only [DV.cells, List.mem_singleton] at h <;> first | (subst h; exact hi) | (rw [DV.refs]; exact DV.refsL_mem h hi)
/-- The cells of what an operand reads as. -/
theorem HoldsB.cells (hs : HoldsB C U s β a w) (x : Operand) (ho : (s.ev x).okC = true) :
    (a.eval x).cells.size = (s.ev x).cells.length ∧ (∀ u ∈ (a.eval x).cells.toList, u.oneCell' = true) ∧ ∀ (j : Nat) (u : Value) (e : DV), (a.eval x).cells[j]? = some u → (s.ev x).cells[j]? = some e → WV C U (s.vw C) β w u e := by
  obtain ⟨h1, h2, h3⟩ := cells_one (hs.ev x) ho
  exact ⟨h1, h2, fun j u e hu he => hs.evp x (h3 j u e hu he) (cells_refs (List.mem_of_getElem? he))⟩

theorem run_tkind_agg {P : Program} {t : TypeId} {n : Nat} (h : tkind P t = some (some n)) (w : World) : (isAgg t).run P w = .ok true w ∧ (sizeOf t).run P w = .ok n w ∧ ∃ i, P.info? t = some i ∧ i.size = n := by
  unfold tkind at h
  split at h
  · rename_i hu hi
    simp at h
    exact ⟨by simp [isAgg, run_underlying hu], by simp [sizeOf, typeInfo, hi, h], _, hi, h⟩
  · rename_i hu hi
    simp at h
    exact ⟨by simp [isAgg, run_underlying hu], by simp [sizeOf, typeInfo, hi, h], _, hi, h⟩
  · rename_i d i hn1 hn2 hu hi
    split at h <;> simp at h
  · simp at h

theorem run_tkind_one {P : Program} {t : TypeId} (h : tkind P t = some none) (w : World) : (isAgg t).run P w = .ok false w ∧ (sizeOf t).run P w = .ok 1 w ∧ ∃ i, P.info? t = some i ∧ i.size = 1 := by
  unfold tkind at h
  split at h
  · simp at h
  · simp at h
  · rename_i d i hn1 hn2 hu hi
    split at h
    · rename_i hs
      refine ⟨?_, by simp [sizeOf, typeInfo, hi, hs], _, hi, hs⟩
      simp only [isAgg, Sem.run_bind, run_underlying hu, Result.andThen_ok]
      cases d <;> first | rfl | (exfalso; first | exact hn1 _ _ hu hi | exact hn2 _ _ _ hu hi)
    · simp at h
  · simp at h

theorem bin_ok (op : BinOp) (t : TypeId) (x y : Operand) {v : Value} (h : binV op (s.ev x) (s.ev y) = some v) (hs : HoldsB C U s β a w) :
    (eqGuard op t x y (a.eval x) (a.eval y)).run C.P w = .ok () w ∧ (binOp op t (a.eval x) (a.eval y)).run C.P w = .ok v w := by
  have hx := hs.ev x
  have hy := hs.ev y
  unfold binV at h
  split at h
  · rename_i k p k' q ex ey
    rw [ex] at hx; rw [ey] at hy
    rw [rel_v hx, rel_v hy]
    refine ⟨by unfold eqGuard; split <;> rfl, ?_⟩
    split at h
    · rename_i hsh
      unfold shI at h
      split at h
      · cases h
      · rename_i hq
        cases op <;> simp [isSh] at hsh <;> simp at h <;> subst h <;> simp [binOp, Op.shift, hq]
    · rename_i hsh
      split at h
      · rename_i hk
        subst hk
        cases op <;> simp [binI, isSh] at h hsh <;> first | (subst h; simp [binOp, Op.intArith, Op.intBits, Op.intCmp]; done) | (obtain ⟨hq, rfl⟩ := h; simp [binOp, Op.intDiv, hq])
      · cases h
  · rename_i p q ex ey
    rw [ex] at hx; rw [ey] at hy
    rw [rel_v hx, rel_v hy]
    refine ⟨by unfold eqGuard; split <;> rfl, ?_⟩
    cases op <;> simp [binS] at h <;> first | (subst h; simp [binOp, Op.stringOp]; done) | (obtain ⟨hq, rfl⟩ := h; simp [binOp, Op.stringOp, IntKind.max, IntKind.bits, IntKind.signed]; omega)
  · cases h


theorem ok_mv {x : Operand} (ho : o.op = .move x ∨ o.op = .assign x) (hs : HoldsB C U s β a w) : OpOk C U a w o (s.rv x) s :=
  .same hs (by rcases ho with ho | ho <;> simp [execOp, ho]) (hs.rvw x)

theorem ok_pick {c x y : Operand} {t : Bool} (ho : o.op = .pick c x y) (hs : HoldsB C U s β a w) (hc : s.ev c = .v (.bool t)) : OpOk C U a w o (if t then s.rv x else s.rv y) s := by
  have h1 := hs.ev c
  rw [hc] at h1
  refine .same hs (x := if t then a.eval x else a.eval y) ?_ ?_
  · simp [execOp, ho, rel_v h1, asBool]
  · cases t
    · exact hs.rvw y
    · exact hs.rvw x

theorem ok_bin {op : BinOp} {t yt : TypeId} {x y : Operand} {v : Value} (ho : o.op = .binOp op t x y yt) (hs : HoldsB C U s β a w) (h : binV op (s.ev x) (s.ev y) = some v) :
    OpOk C U a w o (.v v) s := by
  obtain ⟨h1, h2⟩ := bin_ok op t x y h hs
  exact .same hs (by simp [execOp, ho, h1, h2]) (WV.v v)

theorem ok_bb {neg : Bool} {op : BinOp} (hop : op = if neg then .neq else .eql) {t yt : TypeId} {x y : Operand} {p q : Bool} (ho : o.op = .binOp op t x y yt) (ht : C.P.underlying t = some .bool)
    (hs : HoldsB C U s β a w) (hx : s.ev x = .v (.bool p)) (hy : s.ev y = .v (.bool q)) : OpOk C U a w o (.v (.bool (xor neg (p == q)))) s := by
  have h1 := hs.ev x
  have h2 := hs.ev y
  rw [hx] at h1; rw [hy] at h2
  refine .same hs ?_ (WV.v _)
  have he := fun d => run_equalIn_bool' w d t p q ht
  subst hop
  cases neg <;> simp [execOp, ho, rel_v h1, rel_v h2, eqGuard, binOp, Op.equal, Op.maxDepth, he]

theorem eqL_ok {P : Program} {al : Nat → Prop} (d : Nat) : ∀ (fs : List Field) (ks : List Nat) (off : Nat) (xs ys : List Value) (cs ds : List DV) (r : Bool), flatEq P off fs = some ks → eqL ks (cs.drop off) (ds.drop off) = some r →
    xs.length = cs.length → ys.length = ds.length →
    (∀ (j : Nat) (u : Value) (d : DV), xs[j]? = some u → cs[j]? = some d → Rel P w al β u d) → (∀ (j : Nat) (u : Value) (d : DV), ys[j]? = some u → ds[j]? = some d → Rel P w al β u d) →
    (Op.eqFields (d + 1) xs.toArray ys.toArray fs).run P w = .ok r w
  | [], ks, off, xs, ys, cs, ds, r, hk, h, _, _, _, _ => by
    simp [flatEq] at hk
    subst hk
    unfold eqL at h
    split at h <;> simp_all [Op.eqFields]
  | f :: fs, ks, off, xs, ys, cs, ds, r, hf, h, hx, hy, rx, ry => by
    simp only [flatEq] at hf
    split at hf
    rotate_left
    · cases hf
    rename_i hno
    simp only [Bool.and_eq_true, bne_iff_ne, ne_eq, beq_iff_eq] at hno
    obtain ⟨hn, ho⟩ := hno
    obtain ⟨k, hp, hf⟩ := Option.bind_eq_some_iff.1 hf
    obtain ⟨ks', hrest, rfl⟩ := Option.map_eq_some_iff.1 hf
    have hc : off < cs.length := by
      rcases Nat.lt_or_ge off cs.length with h1 | h1
      · exact h1
      · rw [List.drop_eq_nil_of_le h1] at h; simp [eqL] at h
    have hd : off < ds.length := by
      rcases Nat.lt_or_ge off ds.length with h1 | h1
      · exact h1
      · rw [List.drop_eq_nil_of_le h1] at h; simp [eqL] at h
    have hxo : off < xs.length := by omega
    have hyo : off < ys.length := by omega
    rw [List.drop_eq_getElem_cons hc, List.drop_eq_getElem_cons hd] at h
    have h1 := rx off xs[off] cs[off] (List.getElem?_eq_getElem hxo) (List.getElem?_eq_getElem hc)
    have h2 := ry off ys[off] ds[off] (List.getElem?_eq_getElem hyo) (List.getElem?_eq_getElem hd)
    have hagg : (isAgg f.type).run P w = .ok false w := by
      unfold plainEq at hp
      simp only [isAgg, Sem.run_bind]
      split at hp <;> first | (rename_i hu; rw [run_underlying hu]; rfl) | cases hp
    have px : (part f.type xs.toArray f.offset).run P w = .ok xs[off] w := by
      subst ho
      simp [part, hagg, hxo]
    have py : (part f.type ys.toArray f.offset).run P w = .ok ys[off] w := by
      subst ho
      simp [part, hagg, hyo]
    have step : ∀ b : Bool, eqC k cs[off] ds[off] = some b → (Op.equalIn (d + 1) f.type xs[off] ys[off]).run P w = .ok b w := by
      intro b hb
      generalize cs[off] = c at *
      generalize ds[off] = e at *
      unfold plainEq at hp
      unfold eqC at hb
      split at hb
      · rw [rel_v h1, rel_v h2]
        split at hb
        · cases hb
          rename_i hk
          subst hk
          split at hp <;> cases hp
          rename_i hu; exact run_equalIn_int w d _ _ _ _ _ hu
        · cases hb
      · rw [rel_v h1, rel_v h2]
        cases hb
        split at hp <;> cases hp
        rename_i hu; exact run_equalIn_bool' w d _ _ _ hu
      · rw [rel_v h1, rel_v h2]
        cases hb
        split at hp <;> cases hp
        rename_i hu; exact run_equalIn_string w d _ _ _ hu
      · cases hb
    have ih := eqL_ok (P := P) (al := al) d fs ks' (off + 1) xs ys cs ds
    simp only [Op.eqFields]
    rw [if_pos hn]
    simp only [Sem.run_bind, px, py, Result.andThen_ok]
    simp only [eqL] at h
    cases hq : eqC k cs[off] ds[off] with
    | none => rw [hq] at h; cases h
    | some b =>
      rw [hq] at h
      rw [step b hq]
      cases b
      · simp at h; subst h; simp
      · simp only [Result.andThen_ok]
        simpa using ih r hrest h hx hy rx ry

theorem ok_eqs {neg : Bool} {op : BinOp} (hop : op = if neg then .neq else .eql) {t yt : TypeId} {x y : Operand} {fs : Array Field} {ks : List Nat} {xs ys : List DV} {r : Bool} (ho : o.op = .binOp op t x y yt)
    (ht : C.P.underlying t = some (.struct fs)) (hg : C.P.eqGuardType C.P.depth t = false) (hh : C.P.stoodInHeld t = false) (hk : flatEq C.P 0 fs.toList = some ks)
    (hs : HoldsB C U s β a w) (hx : s.ev x = .agg xs) (hy : s.ev y = .agg ys) (hr : eqL ks xs ys = some r) : OpOk C U a w o (.v (.bool (xor neg r))) s := by
  have h1 := hs.ev x
  have h2 := hs.ev y
  rw [hx] at h1; rw [hy] at h2
  obtain ⟨us, e1, l1, _, r1⟩ := rel_agg h1
  obtain ⟨vs, e2, l2, _, r2⟩ := rel_agg h2
  have hf : C.P.fieldsOf t = fs := by simp [Program.fieldsOf, ht]
  have he := eqL_ok (w := w) (β := β) (P := C.P) 9998 fs.toList ks 0 us vs xs ys r hk (by simpa using hr) l1 l2 r1 r2
  have he2 : (Op.equalIn 10000 t (.agg us.toArray) (.agg vs.toArray)).run C.P w = .ok r w := by
    have h3 := run_equalIn_struct (P := C.P) w 9999 t us.toArray vs.toArray (by rw [hf]; exact ht) hh
    rw [hf] at h3
    exact h3.trans he
  refine .same hs ?_ (WV.v _)
  cases neg
  · simp only [Bool.false_eq_true, if_false] at hop
    subst hop
    have hgd := run_eqGuard_agg (P := C.P) w .eql t x y us.toArray vs.toArray hg
    simp [execOp, ho, e1, e2, hgd, run_eql_struct, he2]
  · simp only [if_true] at hop
    subst hop
    have hgd := run_eqGuard_agg (P := C.P) w .neq t x y us.toArray vs.toArray hg
    simp [execOp, ho, e1, e2, hgd, run_neq_struct, he2]

def nilV (k : Nat) (x : Value) : Prop :=
  match k with
  | 0 => ∃ n c, x = .slice none n c
  | 1 => x = .pointer none
  | 2 => x = .map none
  | 3 => x = .nilFunc
  | _ => x = .nilIface
def someV (k : Nat) (x : Value) : Prop :=
  match k with
  | 0 => ∃ ad n c, x = .slice (some ad) n c
  | 1 => ∃ ad, x = .pointer (some ad)
  | 2 => ∃ r, x = .map (some r)
  | 3 => ∃ f p q, x = .func f p q
  | _ => ∃ T y, x = .iface T y
def nilT (P : Program) (k : Nat) (t : TypeId) : Prop :=
  match k with
  | 0 => ∃ e, P.underlying t = some (.slice e)
  | 1 => ∃ e, P.underlying t = some (.pointer e)
  | 2 => ∃ e f, P.underlying t = some (.map e f)
  | 3 => ∃ e f g, P.underlying t = some (.func e f g)
  | _ => ∃ e, P.underlying t = some (.interface e)

theorem isNil_ok {P : Program} {al : Nat → Prop} {x : Value} {d : DV} {k : Nat} {b : Bool} (h : Rel P w al β x d) (hn : isNil k d = some b) :
    (b = true → nilV k x) ∧ (b = false → someV k x) := by
  unfold isNil at hn
  split at hn
  · cases hn; have := rel_v h; subst this; simp [nilV]
  · cases hn; have := rel_v h; subst this; simp [someV]
  · split at hn <;> cases hn
    rcases rel_sl h with ⟨_, _, _, _, h1⟩ | ⟨ad, cap, us, rfl, _⟩
    · omega
    · simp [someV]
  · split at hn <;> cases hn
    rcases rel_ms h with ⟨_, _, h1⟩ | ⟨b, cap, c, T, rfl, _⟩
    · omega
    · simp [someV]
  · cases hn; have := rel_v h; subst this; simp [nilV]
  · cases hn; obtain ⟨ad, us, rfl, _⟩ := rel_ia h; simp [someV]
  · cases hn; obtain ⟨b, rfl, _⟩ := rel_pt h; simp [someV]
  · cases hn; have := rel_v h; subst this; simp [nilV]
  · cases hn; obtain ⟨b, rfl, _⟩ := rel_mp h; simp [someV]
  · cases hn; have := rel_v h; subst this; simp [nilV]
  · cases hn; obtain ⟨us, vs, rfl, _⟩ := rel_fn h; simp [someV]
  · cases hn; have := rel_v h; subst this; simp [nilV]
  · cases hn; obtain ⟨u, rfl, _⟩ := rel_ifc h; simp [someV]
  · cases hn

theorem isNil_lt {k : Nat} {d : DV} {b : Bool} (hn : isNil k d = some b) : k < 5 := by
  unfold isNil at hn
  split at hn <;> first | omega | cases hn

theorem run_equalIn_nil {P : Program} {k : Nat} {t : TypeId} {x y : Value} {b : Bool} (hk : k < 5) (ht : nilT P k t) (hx : nilV k x) (hy : (b = true → nilV k y) ∧ (b = false → someV k y)) (d : Nat) :
    (Op.equalIn (d + 1) t x y).run P w = .ok b w := by
  obtain rfl | rfl | rfl | rfl | rfl : k = 0 ∨ k = 1 ∨ k = 2 ∨ k = 3 ∨ k = 4 := by omega
  · obtain ⟨e, ht⟩ := ht
    obtain ⟨n, c, rfl⟩ := hx
    cases b
    · obtain ⟨ad, n', c', rfl⟩ := hy.2 rfl; simp [Op.equalIn, run_underlying ht]
    · obtain ⟨n', c', rfl⟩ := hy.1 rfl; simp [Op.equalIn, run_underlying ht]
  · obtain ⟨e, ht⟩ := ht
    obtain rfl := hx
    cases b
    · obtain ⟨ad, rfl⟩ := hy.2 rfl; simp [Op.equalIn, run_underlying ht]
    · obtain rfl := hy.1 rfl; simp [Op.equalIn, run_underlying ht]
  · obtain ⟨e, f, ht⟩ := ht
    obtain rfl := hx
    cases b
    · obtain ⟨ad, rfl⟩ := hy.2 rfl; simp [Op.equalIn, run_underlying ht]
    · obtain rfl := hy.1 rfl; simp [Op.equalIn, run_underlying ht]
  · obtain ⟨e, f, g, ht⟩ := ht
    obtain rfl := hx
    cases b
    · obtain ⟨ad, _, _, rfl⟩ := hy.2 rfl; simp [Op.equalIn, run_underlying ht]
    · obtain rfl := hy.1 rfl; simp [Op.equalIn, run_underlying ht]
  · obtain ⟨e, ht⟩ := ht
    obtain rfl := hx
    cases b
    · obtain ⟨T, z, rfl⟩ := hy.2 rfl; simp [Op.equalIn, run_underlying ht]
    · obtain rfl := hy.1 rfl; simp [Op.equalIn, run_underlying ht]

theorem run_equalIn_nil' {P : Program} {k : Nat} {t : TypeId} {x y : Value} {b : Bool} (hk : k < 5) (ht : nilT P k t) (hy : nilV k y) (hx : (b = true → nilV k x) ∧ (b = false → someV k x)) (d : Nat) :
    (Op.equalIn (d + 1) t x y).run P w = .ok b w := by
  obtain rfl | rfl | rfl | rfl | rfl : k = 0 ∨ k = 1 ∨ k = 2 ∨ k = 3 ∨ k = 4 := by omega
  · obtain ⟨e, ht⟩ := ht
    obtain ⟨n, c, rfl⟩ := hy
    cases b
    · obtain ⟨ad, n', c', rfl⟩ := hx.2 rfl; simp [Op.equalIn, run_underlying ht]
    · obtain ⟨n', c', rfl⟩ := hx.1 rfl; simp [Op.equalIn, run_underlying ht]
  · obtain ⟨e, ht⟩ := ht
    obtain rfl := hy
    cases b
    · obtain ⟨ad, rfl⟩ := hx.2 rfl; simp [Op.equalIn, run_underlying ht]
    · obtain rfl := hx.1 rfl; simp [Op.equalIn, run_underlying ht]
  · obtain ⟨e, f, ht⟩ := ht
    obtain rfl := hy
    cases b
    · obtain ⟨ad, rfl⟩ := hx.2 rfl; simp [Op.equalIn, run_underlying ht]
    · obtain rfl := hx.1 rfl; simp [Op.equalIn, run_underlying ht]
  · obtain ⟨e, f, g, ht⟩ := ht
    obtain rfl := hy
    cases b
    · obtain ⟨ad, _, _, rfl⟩ := hx.2 rfl; simp [Op.equalIn, run_underlying ht]
    · obtain rfl := hx.1 rfl; simp [Op.equalIn, run_underlying ht]
  · obtain ⟨e, ht⟩ := ht
    obtain rfl := hy
    cases b
    · obtain ⟨T, z, rfl⟩ := hx.2 rfl; simp [Op.equalIn, run_underlying ht]
    · obtain rfl := hx.1 rfl; simp [Op.equalIn, run_underlying ht]

/-- The forms that a nil comparison may meet. -/
def nilForm (x : Value) : Prop := (∃ a n c, x = .slice a n c) ∨ (∃ a, x = .pointer a) ∨ (∃ a, x = .map a) ∨ x = .nilFunc ∨ (∃ f p q, x = .func f p q) ∨ x = .nilIface ∨ ∃ T y, x = .iface T y
theorem run_nilq {P : Program} (neg : Bool) {t : TypeId} {x y : Value} {b : Bool} (X Y : Operand) (hc : isCst X = true ∨ isCst Y = true ∨ (x ≠ .nilIface ∧ y ≠ .nilIface)) (he : (Op.equalIn 10000 t x y).run P w = .ok b w) (hx : nilForm x) (hy : nilForm y) :
    (eqGuard (if neg then .neq else .eql) t X Y x y).run P w = .ok () w ∧ (binOp (if neg then .neq else .eql) t x y).run P w = .ok (.bool (xor neg b)) w := by
  rcases hx with ⟨_, _, _, rfl⟩ | ⟨_, rfl⟩ | ⟨_, rfl⟩ | rfl | ⟨_, _, _, rfl⟩ | rfl | ⟨_, _, rfl⟩ <;> rcases hy with ⟨_, _, _, rfl⟩ | ⟨_, rfl⟩ | ⟨_, rfl⟩ | rfl | ⟨_, _, _, rfl⟩ | rfl | ⟨_, _, rfl⟩ <;>
    first
    | (cases neg <;> simp [eqGuard, binOp, Op.equal, Op.maxDepth, he]; done)
    | (rcases hc with hc | hc | hc
       · cases X <;> first | (simp [isCst] at hc; done) | (cases neg <;> simp [eqGuard, binOp, Op.equal, Op.maxDepth, he])
       · cases Y <;> first | (simp [isCst] at hc; done) | (cases X <;> cases neg <;> simp [eqGuard, binOp, Op.equal, Op.maxDepth, he])
       · exact absurd rfl hc.1)

theorem nilV_form {k : Nat} {x : Value} (h : nilV k x ∨ someV k x) : nilForm x := by
  unfold nilForm
  rcases h with h | h
  · unfold nilV at h
    split at h
    · obtain ⟨n, c, rfl⟩ := h; exact .inl ⟨_, _, _, rfl⟩
    · exact .inr (.inl ⟨_, h⟩)
    · exact .inr (.inr (.inl ⟨_, h⟩))
    · exact .inr (.inr (.inr (.inl h)))
    · exact .inr (.inr (.inr (.inr (.inr (.inl h)))))
  · unfold someV at h
    split at h
    · obtain ⟨ad, n, c, rfl⟩ := h; exact .inl ⟨_, _, _, rfl⟩
    · obtain ⟨ad, rfl⟩ := h; exact .inr (.inl ⟨_, rfl⟩)
    · obtain ⟨ad, rfl⟩ := h; exact .inr (.inr (.inl ⟨_, rfl⟩))
    · exact .inr (.inr (.inr (.inr (.inl h))))
    · exact .inr (.inr (.inr (.inr (.inr (.inr h)))))

theorem ok_nilq {k : Nat} {neg b c : Bool} {op : BinOp} (hop : op = if neg then .neq else .eql) {t yt : TypeId} {x y : Operand} (ho : o.op = .binOp op t x y yt) (ht : nilT C.P k t) (hcst : k = 4 → isCst x = true ∨ isCst y = true)
    (hs : HoldsB C U s β a w) (hx : isNil k (s.ev x) = some b) (hy : isNil k (s.ev y) = some c) (hbc : b = true ∨ c = true) : OpOk C U a w o (.v (.bool (xor neg (if b then c else b)))) s := by
  have h1 := isNil_ok (hs.ev x) hx
  have h2 := isNil_ok (hs.ev y) hy
  have hk := isNil_lt hx
  have he : (Op.equalIn 10000 t (a.eval x) (a.eval y)).run C.P w = .ok (if b then c else b) w := by
    rcases hbc with rfl | rfl
    · exact run_equalIn_nil hk ht (h1.1 rfl) h2 9999
    · have : (if b = true then true else b) = b := by cases b <;> rfl
      rw [this]
      exact run_equalIn_nil' hk ht (h2.1 rfl) h1 9999
  have hfx : nilV k (a.eval x) ∨ someV k (a.eval x) := by cases b <;> simp_all
  have hfy : nilV k (a.eval y) ∨ someV k (a.eval y) := by cases c <;> simp_all
  have hne : ∀ z, k ≠ 4 → (nilV k z ∨ someV k z) → z ≠ .nilIface := by
    rintro z hk4 hz rfl
    obtain rfl | rfl | rfl | rfl : k = 0 ∨ k = 1 ∨ k = 2 ∨ k = 3 := by omega
    all_goals (simp [nilV, someV] at hz)
  obtain ⟨g1, g2⟩ := run_nilq neg x y (by
    by_cases hk4 : k = 4
    · rcases hcst hk4 with h | h
      · exact .inl h
      · exact .inr (.inl h)
    · exact .inr (.inr ⟨hne _ hk4 hfx, hne _ hk4 hfy⟩)) he (nilV_form hfx) (nilV_form hfy)
  refine .same hs ?_ (WV.v _)
  subst hop
  simp [execOp, ho, g1, g2]

theorem ok_un {op : UnOp} {t : TypeId} {x : Operand} {v : Value} (ho : o.op = .unOp op t x) (hs : HoldsB C U s β a w) (h : unV op (s.ev x) = some v) : OpOk C U a w o (.v v) s := by
  have h1 := hs.ev x
  unfold unV at h
  refine .same hs ?_ (WV.v _)
  split at h
  · rename_i hx
    rw [hx] at h1
    split at h <;> cases h
    · simp [execOp, ho, rel_v h1, Op.unary, Op.intArith]
    · simp [execOp, ho, rel_v h1, Op.unary, Op.intBits]
  · rename_i hx
    rw [hx] at h1
    split at h <;> cases h
    simp [execOp, ho, rel_v h1, Op.unary]
  · cases h

theorem ok_cvi {k k' kk : IntKind} {n : Int} {src dst : TypeId} {x : Operand} (ho : o.op = .convert src dst x) (h1 : C.P.underlying src = some (.int k')) (h2 : C.P.underlying dst = some (.int k))
    (hs : HoldsB C U s β a w) (hx : s.ev x = .v (.int kk n)) : OpOk C U a w o (.v (.int k (k.wrap n))) s := by
  have h3 := hs.ev x
  rw [hx] at h3
  refine .same hs ?_ (WV.v _)
  simp [execOp, ho, rel_v h3, convert, run_underlying h1, run_underlying h2, Conv.intToInt]

theorem ok_mm {mx : Bool} {k k' : IntKind} {p q : Int} {c : Call} {x y : Operand} (ho : o.op = .call c) (hc : c.callee = .builtin (if mx then .max else .min)) (hargs : c.args.toList = [x, y])
    (hs : HoldsB C U s β a w) (hx : s.ev x = .v (.int k p)) (hy : s.ev y = .v (.int k' q)) :
    OpOk C U a w o (.v (.int k (if mx then (if q > p then q else p) else (if q < p then q else p)))) s := by
  have h1 := hs.ev x
  have h2 := hs.ev y
  rw [hx] at h1; rw [hy] at h2
  have hA : c.args = #[x, y] := by apply Array.ext'; simpa using hargs
  refine .same hs ?_ (WV.v _)
  cases mx <;> simp [execOp, ho, resolve, hc, hA, invoke, builtin, rel_v h1, rel_v h2, Builtin.max_, Builtin.min_, Builtin.max2, Builtin.min2]

end ops
end Go.DD

/- Each operation on deep values is what the model's operation does (second part: reads, and addresses). -/
namespace Go.DD
open Go.RowKit (Below)

section ops
variable {C : Ctx} {U : Nat → Prop} {s : DS} {β : Nat → Option Nat} {a : Act} {w : World} {o : Oper} {d : DV} {s' : DS} {nid : Nat}

theorem run_sizeOf_pos {P : Program} {t : TypeId} (h : P.cellsOf t ≠ 0) (w : World) : (sizeOf t).run P w = .ok (P.cellsOf t) w := by
  unfold Program.cellsOf at *
  cases hi : P.info? t with
  | none => simp [hi] at h
  | some i => simp [sizeOf, typeInfo, hi]

theorem run_loadVar_list {P : Program} {t : TypeId} {k : Option Nat} (hk : tkind P t = some k) (ad : Addr) (us : List Value) (hc : ∀ (j : Nat) (u : Value), us[j]? = some u → w.cell? (ad.add j) = some u) :
    (k = none → ∀ u, us[0]? = some u → (loadVar t ad).run P w = .ok u w) ∧ (∀ n, k = some n → n ≤ us.length → (loadVar t ad).run P w = .ok (.agg (us.take n).toArray) w) := by
  constructor
  · rintro rfl u hu
    obtain ⟨h1, _, _⟩ := run_tkind_one hk w
    have := hc 0 u hu
    simp [Addr.add] at this
    simp [loadVar, h1, this]
  · rintro n rfl hn
    obtain ⟨h1, h2, _⟩ := run_tkind_agg hk w
    have h3 := run_loadCells_list (P := P) w ad (us.take n) (fun j v hv => hc j v (by
      rw [List.getElem?_take] at hv
      split at hv
      · exact hv
      · cases hv))
    rw [List.length_take, Nat.min_eq_left hn] at h3
    simp [loadVar, h1, h2, h3]

theorem relI_refs {al : Nat → Prop} {x : Value} {d : DV} (h : RelI w al x d) : d.refs = [] := by
  have hl : ∀ cs : List DV, (∀ d ∈ cs, d.refs = []) → DV.refsL cs = [] := fun cs => by
    induction cs with
    | nil => intro _; rfl
    | cons c cs ih => intro hc; simp only [DV.refsL]; rw [hc c (by simp), ih fun d hd => hc d (by simp [hd])]; rfl
  induction h with
  | any x => rfl
  | v x => rfl
  | agg vs cs hl' _ _ ih =>
    rw [DV.refs]
    refine hl cs fun d hd => ?_
    obtain ⟨j, hj, rfl⟩ := List.mem_iff_getElem.1 hd
    exact ih j vs[j] _ (List.getElem?_eq_getElem (by omega)) (List.getElem?_eq_getElem hj)
  | tup vs cs hl' _ ih =>
    rw [DV.refs]
    refine hl cs fun d hd => ?_
    obtain ⟨j, hj, rfl⟩ := List.mem_iff_getElem.1 hd
    exact ih j vs[j] _ (List.getElem?_eq_getElem (by omega)) (List.getElem?_eq_getElem hj)
  | fn f us vs cs hl' _ ih =>
    rw [DV.refs]
    refine hl cs fun d hd => ?_
    obtain ⟨j, hj, rfl⟩ := List.mem_iff_getElem.1 hd
    exact ih j (Value.tuple us.toArray :: vs)[j] _ (List.getElem?_eq_getElem (by omega)) (List.getElem?_eq_getElem hj)
  | ifc T u d _ ih => rw [DV.refs]; exact ih
  | _ => rfl

theorem wv_imm {V : Nat → Option DObj} {x : Value} {d : DV} (h : RelI w (alw C w β) x d) : WV C U V β w x d := WV.flat (.imm _ _ h) (relI_refs h)

theorem part_rel {V : Nat → Option DObj} {k : Option Nat} {us : List Value} {cs : List DV} (hl : cs.length ≤ us.length) (ho : ∀ (j : Nat) (u : Value), us[j]? = some u → j < cs.length → u.oneCell' = true)
    (hr : ∀ (j : Nat) (u : Value) (d : DV), us[j]? = some u → cs[j]? = some d → WV C U V β w u d) (hp : partD k cs = some d) :
    (k = none → ∃ u, us[0]? = some u ∧ WV C U V β w u d) ∧ (∀ n, k = some n → n ≤ us.length ∧ WV C U V β w (.agg (us.take n).toArray) d) := by
  cases k with
  | none =>
    refine ⟨fun _ => ?_, fun n hn => (by cases hn)⟩
    simp only [partD] at hp
    split at hp
    · rename_i c tl
      cases hp
      have h0 : 0 < us.length := by simp at hl; omega
      exact ⟨us[0], List.getElem?_eq_getElem h0, hr 0 _ _ (List.getElem?_eq_getElem h0) (by simp)⟩
    · cases hp
  | some n =>
    refine ⟨fun h => (by cases h), fun n' hn' => ?_⟩
    cases hn'
    simp only [partD] at hp
    split at hp
    rotate_left
    · cases hp
    rename_i hn
    cases hp
    have hget : ∀ (j : Nat) (u : Value) (d : DV), (us.take n)[j]? = some u → (cs.take n)[j]? = some d → WV C U V β w u d := fun j u d hu hd => by
      rw [List.getElem?_take] at hu hd
      split at hu
      · exact hr j u d hu (by simpa [*] using hd)
      · cases hu
    have hlt : (us.take n).length = (cs.take n).length := by simp; omega
    refine ⟨by omega, fun id hi => ?_, fun ha => .agg (us.take n) (cs.take n) hlt (fun u hu => ?_) fun j u d hu hd => ?_, TP.nt fun _ h => by cases h⟩
    · rw [DV.refs] at hi
      obtain ⟨d, hd, hi⟩ := DV.mem_refsL hi
      obtain ⟨j, hj, rfl⟩ := List.mem_iff_getElem.1 hd
      exact (hget j (us.take n)[j] _ (List.getElem?_eq_getElem (by omega)) (List.getElem?_eq_getElem hj)).1 id hi
    · obtain ⟨j, hj, rfl⟩ := List.mem_iff_getElem.1 hu
      simp at hj
      refine ho j _ ?_ (by omega)
      rw [List.getElem_take]
      exact List.getElem?_eq_getElem (by omega)
    · exact (hget j u d hu hd).2.1 fun id hi => ha id (by rw [DV.refs]; exact DV.refsL_mem (List.mem_of_getElem? hd) hi)

/-- What an own row's cells are, in the world. -/
theorem HoldsB.row (hs : HoldsB C U s β a w) {id b : Nat} {T : TypeId} {cs : List DV} (hb : β id = some b) (ho : s.ho id = some (.row T cs)) :
    ∃ c : Array Value, w.heap[b]? = some (.cells c T (0, 0)) ∧ cs.length ≤ c.size ∧ (isArr C.P T = true → c.size = cs.length) ∧ ∀ (j : Nat) (u : Value) (d : DV), c[j]? = some u → cs[j]? = some d → WV C U (s.vw C) β w u d ∧ u.oneCell' = true := by
  rcases hs.hh.hp id _ (vw_some ho) with ⟨h1, _⟩ | ⟨b', c, hb', hc, hl, hx, hr⟩
  · rw [hb] at h1; cases h1
  · rw [hb] at hb'; cases hb'; exact ⟨c, hc, hl, hx, hr⟩

theorem cell_row {b off : Nat} {c : Array Value} {T : TypeId} {f : Nat × Nat} (h : w.heap[b]? = some (.cells c T f)) (j : Nat) (u : Value) (hu : (c.toList.drop off)[j]? = some u) :
    w.cell? ((⟨b, off, none⟩ : Addr).add j) = some u := by
  rw [Addr.add_lit, cell_of_row w b (off + j) c T f h]
  simpa using hu

theorem ok_ld_ia {k : Option Nat} {t : TypeId} {x : Operand} {cs : List DV} (ho : o.op = .load t x) (hk : tkind C.P t = some k) (hs : HoldsB C U s β a w) (hx : s.ev x = .ia cs) (hp : partD k cs = some d) : OpOk C U a w o d s := by
  have h1 := hs.ev x
  rw [hx] at h1
  obtain ⟨ad, us, e1, hl, _, h1c, hc, hr⟩ := rel_ia h1
  obtain ⟨g1, g2⟩ := run_loadVar_list hk ad us hc
  obtain ⟨p1, p2⟩ := part_rel (C := C) (U := U) (V := s.vw C) (w := w) (β := β) (by omega) (fun j u hu _ => h1c u (List.mem_of_getElem? hu)) (fun j u d hu hd => wv_imm (hr j u d hu hd)) hp
  cases k with
  | none =>
    obtain ⟨u, hu, hrel⟩ := p1 rfl
    exact .same hs (by simp [execOp, ho, e1, Instr.loadAt, Instr.sureAddr, g1 rfl u hu]) hrel
  | some n =>
    obtain ⟨hn, hrel⟩ := p2 n rfl
    exact .same hs (by simp [execOp, ho, e1, Instr.loadAt, Instr.sureAddr, g2 n rfl hn]) hrel

theorem ok_ld_pt {k : Option Nat} {t T : TypeId} {x : Operand} {id off : Nat} {cs : List DV} (ho : o.op = .load t x) (hk : tkind C.P t = some k) (hs : HoldsB C U s β a w) (hx : s.ev x = .pt id off)
    (hid : s.ho id = some (.row T cs)) (hp : partD k (cs.drop off) = some d) : OpOk C U a w o d s := by
  have h1 := hs.ev x
  rw [hx] at h1
  obtain ⟨b, e1, hb⟩ := rel_pt h1
  obtain ⟨c, hw, hl, _, hr⟩ := hs.row hb hid
  obtain ⟨g1, g2⟩ := run_loadVar_list hk ⟨b, off, none⟩ (c.toList.drop off) (cell_row hw)
  obtain ⟨p1, p2⟩ := part_rel (C := C) (U := U) (V := s.vw C) (w := w) (β := β) (us := c.toList.drop off) (cs := cs.drop off) (by simp; omega)
    (fun j u hu hj => by
      have hj' : off + j < cs.length := by simp at hj; omega
      exact (hr (off + j) u _ (by simpa using hu) (List.getElem?_eq_getElem hj')).2)
    (fun j u d hu hd => (hr (off + j) u d (by simpa using hu) (by simpa using hd)).1) hp
  cases k with
  | none =>
    obtain ⟨u, hu, hrel⟩ := p1 rfl
    exact .same hs (by simp [execOp, ho, e1, Instr.loadAt, Instr.sureAddr, g1 rfl u hu]) hrel
  | some n =>
    obtain ⟨hn, hrel⟩ := p2 n rfl
    exact .same hs (by simp [execOp, ho, e1, Instr.loadAt, Instr.sureAddr, g2 n rfl hn]) hrel

theorem ok_fld {k : Option Nat} {t : TypeId} {x : Operand} {i : Nat} {fs : Array Field} {f : Field} {cs : List DV} (ho : o.op = .field t x i) (ht : C.P.underlying t = some (.struct fs)) (hf : fs[i]? = some f)
    (hk : tkind C.P f.type = some k) (hs : HoldsB C U s β a w) (hx : s.ev x = .agg cs) (hp : partD k (cs.drop f.offset) = some d) : OpOk C U a w o d s := by
  have h1 := hs.ev x
  rw [hx] at h1
  obtain ⟨vs, e1, hl, h1c, hr⟩ := rel_agg h1
  obtain ⟨p1, p2⟩ := part_rel (C := C) (U := U) (V := s.vw C) (w := w) (β := β) (us := vs.drop f.offset) (cs := cs.drop f.offset) (by simp; omega)
    (fun j u hu _ => h1c u (by have := List.mem_of_getElem? hu; exact List.mem_of_mem_drop this))
    (fun j u d hu hd => hs.evp x (hr (f.offset + j) u d (by simpa using hu) (by simpa using hd)) fun id hi => by
      rw [hx, DV.refs]
      exact DV.refsL_mem (List.mem_of_getElem? (by simpa using hd)) hi) hp
  cases k with
  | none =>
    obtain ⟨u, hu, hrel⟩ := p1 rfl
    obtain ⟨g1, _, _⟩ := run_tkind_one hk w
    have hu' : vs[f.offset]? = some u := by simpa using hu
    exact .same hs (by simp [execOp, ho, e1, Instr.field, run_underlying ht, hf, asAgg, part, g1, hu']) hrel
  | some n =>
    obtain ⟨hn, hrel⟩ := p2 n rfl
    obtain ⟨g1, g2, _⟩ := run_tkind_agg hk w
    have he : vs.toArray.extract f.offset (f.offset + n) = (List.take n (List.drop f.offset vs)).toArray := by
      apply Array.ext'
      simp [List.take_drop]
    refine .same hs ?_ hrel
    simp [execOp, ho, e1, Instr.field, run_underlying ht, hf, asAgg, part, g1, g2, List.extract_eq_take_drop]

theorem ok_nck {x : Operand} (ho : o.op = .nilCheck x) (hs : HoldsB C U s β a w) (hx : (∃ cs, s.ev x = .ia cs) ∨ (∃ id off, s.ev x = .pt id off) ∨ (∃ f cs, s.ev x = .fn (.func f) cs) ∨ ∃ T d, s.ev x = .ifc T d) : OpOk C U a w o (s.ev x) s := by
  have h1 := hs.ev x
  refine .same hs (x := a.eval x) ?_ (hs.evw x)
  rcases hx with ⟨cs, hx⟩ | ⟨id, off, hx⟩ | ⟨f, cs, hx⟩ | ⟨T, d, hx⟩ <;> rw [hx] at h1
  · obtain ⟨ad, us, e1, _⟩ := rel_ia h1
    simp [execOp, ho, e1]
  · obtain ⟨b, e1, hb⟩ := rel_pt h1
    simp [execOp, ho, e1]
  · obtain ⟨us, vs, e1, _⟩ := rel_fn h1
    simp [execOp, ho, e1]
  · obtain ⟨u, e1, _⟩ := rel_ifc h1
    simp [execOp, ho, e1]

theorem relI_drop {P : Program} {al : Nat → Prop} {ad : Addr} {us : List Value} {cs : List DV} (m : Nat) (hl : us.length = cs.length) (ha : al ad.block) (h1 : ∀ u ∈ us, u.oneCell' = true)
    (hc : ∀ (j : Nat) (u : Value), us[j]? = some u → w.cell? (ad.add j) = some u) (h : ∀ (j : Nat) (u : Value) (d : DV), us[j]? = some u → cs[j]? = some d → RelI w al u d) :
    Rel P w al β (.pointer (some (ad.add m))) (.ia (cs.drop m)) :=
  .imm _ _ (.ia (ad.add m) (us.drop m) (cs.drop m) (by simp [hl]) (by rw [block_add]; exact ha) (fun u hu => h1 u (List.mem_of_mem_drop hu))
    (fun j u hu => by rw [add_add]; exact hc _ u (by simpa using hu)) fun j u d hu hd => h (m + j) u d (by simpa using hu) (by simpa using hd))

theorem ok_fa {t : TypeId} {x : Operand} {i : Nat} {fs : Array Field} {f : Field} (ho : o.op = .fieldAddr t x i) (ht : C.P.underlying t = some (.struct fs)) (hf : fs[i]? = some f) (hz : C.P.cellsOf f.type ≠ 0)
    (hs : HoldsB C U s β a w) : (∀ cs, s.ev x = .ia cs → OpOk C U a w o (.ia (cs.drop f.offset)) s) ∧ (∀ id off, s.ev x = .pt id off → OpOk C U a w o (.pt id (off + f.offset)) s) := by
  have h1 := hs.ev x
  constructor
  · intro cs hx
    rw [hx] at h1
    obtain ⟨ad, us, e1, hl, ha, h1c, hc, hr⟩ := rel_ia h1
    refine .same hs ?_ (WV.flat (relI_drop f.offset hl ha h1c hc hr) rfl)
    simp [execOp, ho, e1, Instr.fieldAt, run_underlying ht, hf, Instr.sureAddr, fieldPlace, run_sizeOf_pos hz, hz]
  · intro id off hx
    rw [hx] at h1
    obtain ⟨b, e1, hb⟩ := rel_pt h1
    refine .same hs ?_ (hs.evp x (.pt id (off + f.offset) b hb) (by rw [hx]; simp [DV.refs]))
    simp [execOp, ho, e1, Instr.fieldAt, run_underlying ht, hf, Instr.sureAddr, fieldPlace, run_sizeOf_pos hz, hz, Addr.add_lit]

theorem intD_ok {P : Program} {al : Nat → Prop} {x : Value} {d : DV} {n : Int} (h : Rel P w al β x d) (hd : intD d = some n) : ∃ k, x = .int k n := by
  unfold intD at hd
  split at hd
  · cases hd; exact ⟨_, rel_v h⟩
  · cases hd

theorem ok_ia {t e : TypeId} {x i : Operand} {j : Int} (ho : o.op = .indexAddr t x i) (ht : C.P.underlying t = some (.slice e)) (hz : C.P.cellsOf e ≠ 0) (hs : HoldsB C U s β a w) (hi : intD (s.ev i) = some j) (h0 : 0 ≤ j) :
    (∀ cs n, s.ev x = .sl cs n → j < n → OpOk C U a w o (.ia (cs.drop (j.toNat * C.P.cellsOf e))) s) ∧ (∀ id off n es, s.ev x = .ms id off n es → j < n → OpOk C U a w o (.pt id (off + j.toNat * C.P.cellsOf e)) s) := by
  have h1 := hs.ev x
  obtain ⟨k, hk⟩ := intD_ok (hs.ev i) hi
  constructor
  · intro cs n hx hj
    rw [hx] at h1
    rcases rel_sl h1 with ⟨_, _, _, _, rfl⟩ | ⟨ad, cap, us, e1, hl, hn, ha, h1c, hc, hr⟩
    · omega
    · refine .same hs ?_ (WV.flat (relI_drop _ hl ha h1c hc hr) rfl)
      simp [execOp, ho, e1, hk, Instr.indexAt, run_underlying ht, asIntOf, h0, hj, run_sizeOf_pos hz]
  · intro id off n es hx hj
    rw [hx] at h1
    rcases rel_ms h1 with ⟨_, _, rfl⟩ | ⟨b, cap, c, T, e1, hb, hw, hn, hm, hcap⟩
    · omega
    · refine .same hs ?_ (hs.evp x (.pt id _ b hb) (by rw [hx]; simp [DV.refs]))
      simp [execOp, ho, e1, hk, Instr.indexAt, run_underlying ht, asIntOf, h0, hj, run_sizeOf_pos hz, Addr.add_lit]

theorem ok_fx {t e : TypeId} {n : Nat} {x i : Operand} {j : Int} (ho : o.op = .indexAddr t x i) (ht : C.P.underlying t = some (.array n e)) (hz : C.P.cellsOf e ≠ 0) (hs : HoldsB C U s β a w) (hi : intD (s.ev i) = some j) (h0 : 0 ≤ j) (hj : j < n) :
    (∀ cs, s.ev x = .ia cs → OpOk C U a w o (.ia (cs.drop (j.toNat * C.P.cellsOf e))) s) ∧ (∀ id off, s.ev x = .pt id off → OpOk C U a w o (.pt id (off + j.toNat * C.P.cellsOf e)) s) := by
  have h1 := hs.ev x
  obtain ⟨k, hk⟩ := intD_ok (hs.ev i) hi
  constructor
  · intro cs hx
    rw [hx] at h1
    obtain ⟨ad, us, e1, hl, ha, h1c, hc, hr⟩ := rel_ia h1
    refine .same hs ?_ (WV.flat (relI_drop _ hl ha h1c hc hr) rfl)
    simp [execOp, ho, e1, hk, Instr.indexAt, run_underlying ht, asIntOf, h0, hj, run_sizeOf_pos hz, Instr.sureAddr]
  · intro id off hx
    rw [hx] at h1
    obtain ⟨b, e1, hb⟩ := rel_pt h1
    refine .same hs ?_ (hs.evp x (.pt id _ b hb) (by rw [hx]; simp [DV.refs]))
    simp [execOp, ho, e1, hk, Instr.indexAt, run_underlying ht, asIntOf, h0, hj, run_sizeOf_pos hz, Addr.add_lit, Instr.sureAddr]

theorem ok_s2b {t t' e : TypeId} {x : Operand} {b : ByteArray} (ho : o.op = .convert t t' x) (hs' : C.P.underlying t = some .string) (hd : C.P.underlying t' = some (.slice e)) (he : C.P.underlying e = some (.int .u8)) (hs : HoldsB C U s β a w) (hx : s.ev x = .v (.string b)) :
    OpOk C U a w o (.sl (b.data.toList.map fun c => .v (.int .u8 (c.toNat : Int))) b.size) s := by
  have h1 := hs.ev x
  rw [hx] at h1
  obtain ⟨w', hw'⟩ : ∃ w', w.drew.alloc (.cells (bytesRow b (grownCap w b.size 0 e)) e ((bytesRow b (grownCap w b.size 0 e)).size, (bytesRow b (grownCap w b.size 0 e)).size + 1)) = w' := ⟨_, rfl⟩
  have hrun := run_bytes_of_string (P := C.P) w t t' e b hs' hd he
  rw [hw'] at hrun
  have hbl : Below w.heap.size w w' := by rw [← hw']; exact ((Below.refl _ _).drew).alloc (by simp) _
  have hnew : w'.heap[w.heap.size]? = some (.cells (bytesRow b (grownCap w b.size 0 e)) e ((bytesRow b (grownCap w b.size 0 e)).size, (bytesRow b (grownCap w b.size 0 e)).size + 1)) := by
    rw [← hw']
    exact heap_alloc_new w.drew (.cells (bytesRow b (grownCap w b.size 0 e)) e ((bytesRow b (grownCap w b.size 0 e)).size, (bytesRow b (grownCap w b.size 0 e)).size + 1))
  have hlt : w.heap.size < w'.heap.size := (Array.getElem?_eq_some_iff.1 hnew).1
  refine ⟨_, w', β, _, ?_, .inl rfl, hs.keep hbl, wv_imm (.sl ⟨w.heap.size, 0, none⟩ b.size (grownCap w b.size 0 e) (b.data.toList.map fun c => .int .u8 (c.toNat : Int)) _ (by simp) (grownCap_ge w b.size 0 e) ⟨.inr (.inl hs.hh.bel.size), hlt, fun id hid => by have h9 := hs.hh.lt hid; simp only at h9; omega⟩ (fun u hu => ?_) (fun j u hu => ?_) (fun j u d hu hd => ?_))⟩
  · simp [execOp, ho, rel_v h1, hrun]
  · obtain ⟨c, _, rfl⟩ := List.mem_map.1 hu
    rfl
  · rw [Addr.add_lit, cell_of_row w' _ _ _ _ _ hnew]
    have hj : j < b.data.toList.length := by have := (List.getElem?_eq_some_iff.1 hu).1; simpa using this
    simp only [bytesRow, Nat.zero_add]
    rw [Array.getElem?_append_left (by simpa using hj)]
    rw [← Array.getElem?_toList]
    simpa using hu
  · simp only [List.getElem?_map, Option.map_eq_some_iff] at hu hd
    obtain ⟨c, hc, rfl⟩ := hu
    obtain ⟨c', hc', rfl⟩ := hd
    rw [hc] at hc'; cases hc'
    exact .v _

theorem ok_ixs {t : TypeId} {x i : Operand} {j : Int} {b : ByteArray} {c : UInt8} (ho : o.op = .index t x i) (ht : C.P.underlying t = some .string) (hs : HoldsB C U s β a w) (hi : intD (s.ev i) = some j) (h0 : 0 ≤ j)
    (hx : s.ev x = .v (.string b)) (hc : b[j.toNat]? = some c) : OpOk C U a w o (.v (.int .u8 (c.toNat : Int))) s := by
  have h1 := hs.ev x
  rw [hx] at h1
  obtain ⟨k, hk⟩ := intD_ok (hs.ev i) hi
  refine .same hs ?_ (WV.v _)
  simp [execOp, ho, rel_v h1, hk, Instr.index, run_underlying ht, asIntOf, h0, hc]

theorem bndD_ok (hs : HoldsB C U s β a w) {x : Option Operand} {dflt n : Int} (h : bndD s dflt x = some n) : (x = none ∧ n = dflt) ∨ ∃ y k, x = some y ∧ a.eval y = .int k n := by
  unfold bndD at h
  split at h
  · cases h; exact .inl ⟨rfl, rfl⟩
  · rename_i y
    obtain ⟨k, hk⟩ := intD_ok (hs.ev y) h
    exact .inr ⟨y, k, rfl, hk⟩

theorem run_bounds {P : Program} {isS : Bool} {len cap : Nat} {lo hi : Option Value} {l h : Int} (hlo : (lo = none ∧ l = 0) ∨ ∃ k, lo = some (.int k l)) (hhi : (hi = none ∧ h = len) ∨ ∃ k, hi = some (.int k h))
    (h0 : 0 ≤ l) (hlh : l ≤ h) (hh : h ≤ cap) (w : World) : (Instr.sliceBounds isS len cap lo hi none).run P w = .ok (l.toNat, h.toNat, cap) w := by
  have e1 : ((h.toNat : Nat) : Int) = h := by omega
  rcases hlo with ⟨rfl, rfl⟩ | ⟨k, rfl⟩ <;> rcases hhi with ⟨rfl, rfl⟩ | ⟨k', rfl⟩
  · simp [Instr.sliceBounds]
  · simp [Instr.sliceBounds, Instr.sliceBound, asIntOf, hh, show 0 ≤ h by omega]
  · simp [Instr.sliceBounds, Instr.sliceBound, asIntOf, h0, hlh]
  · simp [Instr.sliceBounds, Instr.sliceBound, asIntOf, h0, hh, show 0 ≤ h by omega]
    omega

theorem bnds (hs : HoldsB C U s β a w) {x : Option Operand} {dflt n : Int} (h : bndD s dflt x = some n) : (x.map a.eval = none ∧ n = dflt) ∨ ∃ k, x.map a.eval = some (.int k n) := by
  rcases bndD_ok hs h with ⟨rfl, rfl⟩ | ⟨y, k, rfl, hk⟩
  · exact .inl ⟨rfl, rfl⟩
  · exact .inr ⟨k, by simp [hk]⟩

theorem ok_sli {t e : TypeId} {x : Operand} {lo hi : Option Operand} {l h : Int} (ho : o.op = .slice t x lo hi none) (ht : C.P.underlying t = some (.slice e)) (hinfo : (C.P.info? e).isSome = true) (hs : HoldsB C U s β a w) :
    (∀ cs n, s.ev x = .sl cs n → bndD s 0 lo = some l → bndD s n hi = some h → 0 ≤ l → l ≤ h → h ≤ n → OpOk C U a w o (.sl ((cs.drop (l.toNat * C.P.cellsOf e)).take ((h.toNat - l.toNat) * C.P.cellsOf e)) (h.toNat - l.toNat)) s) ∧
    (∀ id off n, s.ev x = .ms id off n (C.P.cellsOf e) → bndD s 0 lo = some l → bndD s n hi = some h → 0 ≤ l → l ≤ h → h ≤ n → OpOk C U a w o (if l < h ∨ l = 0 then .ms id (off + l.toNat * C.P.cellsOf e) (h.toNat - l.toNat) (C.P.cellsOf e) else .sl [] 0) s) ∧
    (s.ev x = .v (.slice none 0 0) → bndD s 0 lo = some l → bndD s 0 hi = some h → l = 0 → h = 0 → OpOk C U a w o (.v (.slice none 0 0)) s) := by
  have h1 := hs.ev x
  have hsz : (sizeOf e).run C.P w = .ok (C.P.cellsOf e) w := by
    obtain ⟨i, hi⟩ := Option.isSome_iff_exists.1 hinfo
    simp [sizeOf, typeInfo, hi, Program.cellsOf]
  refine ⟨?_, ?_, ?_⟩
  · intro cs n hx hlo hhi h0 hlh hhn
    rw [hx] at h1
    rcases rel_sl h1 with ⟨ad, cap, e1, rfl, rfl⟩ | ⟨ad, cap, us, e1, hl, hn, ha, h1c, hc, hr⟩
    · have : l = 0 := by omega
      have : h = 0 := by omega
      subst l; subst h
      refine .same hs (x := .slice (if cap = 0 then ad else ad.map (·.add (0 * C.P.cellsOf e))) 0 cap) ?_ (by simpa using wv_imm (.sl0 _ _))
      have hb := run_bounds (P := C.P) (isS := true) (len := 0) (cap := cap) (bnds hs hlo) (bnds hs hhi) (Int.le_refl _) (Int.le_refl _) (by omega) w
      simp [execOp, ho, e1, Instr.sliceAt, Instr.slice, run_underlying ht, hb, hsz]
    · have hb := run_bounds (P := C.P) (isS := true) (len := n) (cap := cap) (bnds hs hlo) (bnds hs hhi) h0 hlh (by omega) w
      by_cases hcl : cap = l.toNat
      · subst hcl
        have e2 : h.toNat = l.toNat := by omega
        refine .same hs (x := .slice (some ad) 0 0) ?_ ?_
        · simp [execOp, ho, e1, Instr.sliceAt, Instr.slice, run_underlying ht, hb, hsz, e2]
        · rw [e2]; simpa using wv_imm (.sl0 _ _)
      · refine .same hs (x := .slice (some (ad.add (l.toNat * C.P.cellsOf e))) (h.toNat - l.toNat) (cap - l.toNat)) ?_ ?_
        · simp [execOp, ho, e1, Instr.sliceAt, Instr.slice, run_underlying ht, hb, hsz, hcl]
        · refine wv_imm (.sl _ _ _ ((us.drop (l.toNat * C.P.cellsOf e)).take ((h.toNat - l.toNat) * C.P.cellsOf e)) _ (by simp [hl]) (by omega) (by rw [block_add]; exact ha) (fun u hu => h1c u (List.mem_of_mem_drop (List.mem_of_mem_take hu)))
            (fun j u hu => ?_) fun j u d hu hd => ?_)
          · rw [List.getElem?_take] at hu
            split at hu
            · rw [add_add]; exact hc _ u (by simpa using hu)
            · cases hu
          · rw [List.getElem?_take] at hu hd
            split at hu
            · exact hr (l.toNat * C.P.cellsOf e + j) u d (by simpa using hu) (by simpa [*] using hd)
            · cases hu
  · intro id off n hx hlo hhi h0 hlh hhn
    rw [hx] at h1
    rcases rel_ms h1 with ⟨e1, rfl, rfl⟩ | ⟨b, cap, c, T, e1, hb, hw, hn, hm, hcap⟩
    · have h2 : l = 0 := by omega
      have h3 : h = 0 := by omega
      subst h2; subst h3
      have hbd := run_bounds (P := C.P) (isS := true) (len := 0) (cap := 0) (bnds hs hlo) (bnds hs hhi) (Int.le_refl _) (Int.le_refl _) (by omega) w
      rw [if_pos (.inr rfl)]
      refine .same hs (x := .slice none 0 0) ?_ (hs.evp x (by simpa using .ms0 id (C.P.cellsOf e)) (by rw [hx]; simp [DV.refs]))
      simp [execOp, ho, e1, Instr.sliceAt, Instr.slice, run_underlying ht, hbd, hsz]
    · have hbd := run_bounds (P := C.P) (isS := true) (len := n) (cap := cap) (bnds hs hlo) (bnds hs hhi) h0 (by omega) (by omega) w
      by_cases hc : l < h ∨ l = 0
      · rw [if_pos hc]
        by_cases hcl : cap = l.toNat
        · have h2 : l = 0 := by omega
          subst h2
          have h3 : cap = 0 := by simpa using hcl
          subst h3
          have h4 : h = 0 := by omega
          subst h4
          have hrel : Rel C.P w (alw C w β) β (.slice (some ⟨b, off, none⟩) 0 0) (.ms id (off + (0 : Int).toNat * C.P.cellsOf e) ((0 : Int).toNat - (0 : Int).toNat) (C.P.cellsOf e)) := by
            simpa using .ms id off 0 (C.P.cellsOf e) b 0 c T hb hw (by omega) (by omega) (by simpa using hcap)
          refine .same hs (x := .slice (some ⟨b, off, none⟩) 0 0) ?_ (hs.evp x hrel (by rw [hx]; simp [DV.refs]))
          simp [execOp, ho, e1, Instr.sliceAt, Instr.slice, run_underlying ht, hbd, hsz]
        · refine .same hs (x := .slice (some ⟨b, off + l.toNat * C.P.cellsOf e, none⟩) (h.toNat - l.toNat) (cap - l.toNat)) ?_ (hs.evp x (.ms _ _ _ _ b _ c T hb hw (by omega) (by omega) ?_) (by rw [hx]; simp [DV.refs]))
          · simp [execOp, ho, e1, Instr.sliceAt, Instr.slice, run_underlying ht, hbd, hsz, hcl, Addr.add_lit]
          · rw [← hcap, Nat.add_assoc, ← Nat.add_mul, Nat.add_sub_cancel' (show l.toNat ≤ cap by omega)]
      · rw [if_neg hc]
        have e2 : h.toNat = l.toNat := by omega
        refine .same hs (x := .slice (if cap = l.toNat then some ⟨b, off, none⟩ else some ((⟨b, off, none⟩ : Addr).add (l.toNat * C.P.cellsOf e))) 0 (cap - l.toNat)) ?_ (wv_imm (.sl0 _ _))
        simp [execOp, ho, e1, Instr.sliceAt, Instr.slice, run_underlying ht, hbd, hsz, e2]
  · intro hx hlo hhi hl hh
    rw [hx] at h1
    have e1 := rel_v h1
    subst hl hh
    have hbd := run_bounds (P := C.P) (isS := true) (len := 0) (cap := 0) (bnds hs hlo) (bnds hs hhi) (Int.le_refl _) (Int.le_refl _) (by omega) w
    refine .same hs (x := .slice none 0 0) ?_ (WV.v _)
    simp [execOp, ho, e1, Instr.sliceAt, Instr.slice, run_underlying ht, hbd, hsz]

theorem ok_sls {t : TypeId} {x : Operand} {lo hi : Option Operand} {l h : Int} {b : ByteArray} (ho : o.op = .slice t x lo hi none) (ht : C.P.underlying t = some .string) (hs : HoldsB C U s β a w) (hx : s.ev x = .v (.string b))
    (hlo : bndD s 0 lo = some l) (hhi : bndD s b.size hi = some h) (h0 : 0 ≤ l) (hlh : l ≤ h) (hhn : h ≤ b.size) : OpOk C U a w o (.v (.string (b.extract l.toNat h.toNat))) s := by
  have h1 := hs.ev x
  rw [hx] at h1
  have hb := run_bounds (P := C.P) (isS := false) (len := b.size) (cap := b.size) (bnds hs hlo) (bnds hs hhi) h0 hlh (by omega) w
  refine .same hs ?_ (WV.v _)
  simp [execOp, ho, rel_v h1, Instr.sliceAt, Instr.slice, run_underlying ht, hb]

theorem ok_len {t : TypeId} {c : Call} {x : Operand} (ho : o.op = .call c) (hc : c.callee = .builtin .len) (hargs : c.args.toList = [x]) (ht : c.argTypes[0]? = some t) (hs : HoldsB C U s β a w) :
    ((∃ e, C.P.underlying t = some (.slice e)) → (∀ cs n, s.ev x = .sl cs n → OpOk C U a w o (.v (.int .i64 n)) s) ∧ (∀ id off n es, s.ev x = .ms id off n es → OpOk C U a w o (.v (.int .i64 n)) s) ∧
      (∀ n c', s.ev x = .v (.slice none n c') → OpOk C U a w o (.v (.int .i64 n)) s)) ∧
    (C.P.underlying t = some .string → ∀ b, s.ev x = .v (.string b) → OpOk C U a w o (.v (.int .i64 b.size)) s) := by
  have h1 := hs.ev x
  have hA : c.args = #[x] := by apply Array.ext'; simpa using hargs
  constructor
  · rintro ⟨e, hu⟩
    have hrun : ∀ ad n cap, a.eval x = .slice ad n cap → OpOk C U a w o (.v (.int .i64 n)) s := fun ad n cap hv => by
      refine .same hs (x := .int .i64 n) ?_ (WV.v _)
      simp [execOp, ho, resolve, hc, hA, invoke, builtin, Builtin.len_, ht, hv, run_underlying hu, goInt]
    refine ⟨fun cs n hx => ?_, fun id off n es hx => ?_, fun n c' hx => ?_⟩ <;> rw [hx] at h1
    · rcases rel_sl h1 with ⟨ad, cap, e1, _, rfl⟩ | ⟨ad, cap, us, e1, _⟩
      · exact hrun _ _ _ e1
      · exact hrun _ _ _ e1
    · rcases rel_ms h1 with ⟨e1, _, rfl⟩ | ⟨b, cap, cc, T, e1, _⟩
      · exact hrun _ _ _ e1
      · exact hrun _ _ _ e1
    · exact hrun _ _ _ (rel_v h1)
  · intro hu b hx
    rw [hx] at h1
    refine .same hs (x := .int .i64 b.size) ?_ (WV.v _)
    simp [execOp, ho, resolve, hc, hA, invoke, builtin, Builtin.len_, ht, rel_v h1, run_underlying hu, goInt]

theorem ok_mkf {f : Fn} {first cap : Array Operand} (ho : o.op = .makeFunc f first cap) (hs : HoldsB C U s β a w) : OpOk C U a w o (.fn f (.tup (first.toList.map s.ev) :: cap.toList.map s.ev)) s := by
  have key : ∀ l : List Operand, ∀ (j : Nat) (u : Value) (d : DV), (l.map a.eval)[j]? = some u → (l.map s.ev)[j]? = some d → Rel C.P w (alw C w β) β u d := fun l j u d hu hd => by
    simp only [List.getElem?_map, Option.map_eq_some_iff] at hu hd
    obtain ⟨x, hx, rfl⟩ := hu
    obtain ⟨y, hy, rfl⟩ := hd
    rw [hx] at hy; cases hy
    exact hs.ev x
  refine .same hs (x := .func f (first.toList.map a.eval).toArray (cap.toList.map a.eval).toArray) ?_ (hs.hh.wv (.fn f _ _ _ (by simp) fun j u d hu hd => ?_) fun id hi => ?_)
  · have h1 : Array.map a.eval cap = (List.map a.eval cap.toList).toArray := by apply Array.ext'; simp
    have h2 : Array.map a.eval first = (List.map a.eval first.toList).toArray := by apply Array.ext'; simp
    simp [execOp, ho, Instr.makeFunc, h1, h2]
  · cases j with
    | zero => cases hu; cases hd; exact .tup _ _ (by simp) (key _)
    | succ j => exact key cap.toList j u d (by simpa using hu) (by simpa using hd)
  · have hall : ∀ l : List Operand, id ∈ DV.refsL (l.map s.ev) → (s.vw C id).isSome = true := fun l h => by
      obtain ⟨d, hd, hi⟩ := DV.mem_refsL h
      obtain ⟨x, _, rfl⟩ := List.mem_map.1 hd
      exact vw_alive (HoldsB.eva x id hi)
    simp only [DV.refs, DV.refsL, List.mem_append] at hi
    rcases hi with hi | hi
    · exact hall _ hi
    · exact hall _ hi

theorem ok_extv {x : Operand} {i : Nat} {ds : List DV} {v : Value} (ho : o.op = .extract x i) (hs : HoldsB C U s β a w) (hx : s.rv x = .tup ds) (hi : ds[i]? = some (.v v)) : OpOk C U a w o (.v v) s := by
  obtain ⟨vs, e1, h1⟩ := (hs.rvw x).2.2 ds hx i v hi
  obtain ⟨hlt, h2⟩ := Array.getElem?_eq_some_iff.1 h1
  refine .same hs (x := v) ?_ (WV.v v)
  simp [execOp, ho, e1, Instr.extract, hlt, h2]
theorem ok_ext {x : Operand} {i : Nat} {ds : List DV} (ho : o.op = .extract x i) (hs : HoldsB C U s β a w) (hx : s.ev x = .tup ds) (hi : ds[i]? = some d) : OpOk C U a w o d s := by
  have h1 := hs.ev x
  rw [hx] at h1
  obtain ⟨vs, e1, hl, hr⟩ := rel_tup h1
  have hlt : i < vs.length := by rw [hl]; exact (List.getElem?_eq_some_iff.1 hi).1
  refine .same hs (x := vs[i]) ?_ (hs.evp x (hr i _ _ (List.getElem?_eq_getElem hlt) hi) fun id hid => by rw [hx, DV.refs]; exact DV.refsL_mem (List.mem_of_getElem? hi) hid)
  simp [execOp, ho, e1, Instr.extract, hlt]

end ops
end Go.DD

/- Each operation on deep values is what the model's operation does (third part: memory that is made or written). -/
namespace Go.DD
open Go.RowKit (Below)

theorem DS.ho_upd (s : DS) (nid : Nat) (u : Upd) : (s.upd nid u).ho = u.app nid s.ho := rfl
@[simp] theorem DS.sv_upd (s : DS) (nid : Nat) (u : Upd) : (s.upd nid u).sv = s.sv := rfl

theorem vw_turn {C : Ctx} {s : DS} {nid : Nat} {old : Option Nat} {o : DObj} (hold : ∀ i, old = some i → C.Y i = none) (j : Nat) (hj : j ≠ nid) : (s.upd nid (.mv old o)).vw C j = if old = some j then none else s.vw C j := by
  unfold DS.vw vwF
  rw [DS.ho_upd]
  simp only [Upd.app]
  rw [setH_other _ _ hj]
  cases old with
  | none => simp [strikeO]
  | some i =>
    simp only [strikeO]
    by_cases hij : j = i
    · subst hij; simp [hold j rfl]
    · rw [setH_other _ _ hij]
      have : ¬ i = j := fun e => hij e.symm
      simp [this]
theorem vw_new {C : Ctx} {s : DS} {nid : Nat} {old : Option Nat} {o : DObj} : (s.upd nid (.mv old o)).vw C nid = some o := by
  simp [DS.vw, vwF, DS.ho_upd, Upd.app]

theorem HoldsB.apart {C : Ctx} {U : Nat → Prop} {s : DS} {β : Nat → Option Nat} {a : Act} {w : World} (hs : HoldsB C U s β a w) {i : Nat} (h : (s.ho i).isSome = true) : C.Y i = none := by
  cases hy : C.Y i with
  | none => rfl
  | some o => rw [hs.yd i o hy] at h; cases h

/-- A new object is laid (and an old one may go). -/
theorem HoldsB.turned {C : Ctx} {U : Nat → Prop} {s : DS} {β β' : Nat → Option Nat} {a : Act} {w w' : World} {nid : Nat} (hs : HoldsB C U s β a w) (hn : ¬ U nid) (old : Option Nat) (hold : ∀ i, old = some i → (s.ho i).isSome = true) (o : DObj)
    (hother : ∀ b, b < w.heap.size → (∀ i, old = some i → β i ≠ some b) → w'.heap[b]? = w.heap[b]?)
    (hos : w'.os = w.os) (htape : w'.tape = w.tape) (hout : w'.output = w.output) (hsz : w.heap.size ≤ w'.heap.size)
    (hβ : ∀ j, j ≠ nid → old ≠ some j → β' j = β j) (hβo : ∀ i, old = some i → β' i = none)
    (hnew : ∀ b, β' nid = some b → ((∃ i, old = some i ∧ β i = some b) ∨ w.heap.size ≤ b) ∧ b < w'.heap.size)
    (hobj : (∀ x d, WV C U (s.vw C) β w x d → WV C (Un U nid) ((s.upd nid (.mv old o)).vw C) β' w' x d) → RelO C (Un U nid) ((s.upd nid (.mv old o)).vw C) β' w' nid o) :
    HoldsB C (Un U nid) (s.upd nid (.mv old o)) β' a w' ∧ ∀ x d, WV C U (s.vw C) β w x d → WV C (Un U nid) ((s.upd nid (.mv old o)).vw C) β' w' x d := by
  have ht := hs.hh.turn (U' := Un U nid) (V' := (s.upd nid (.mv old o)).vw C) (β' := β') (w' := w') nid old hn (fun _ => Iff.rfl) (fun i hi => hs.hh.used (vw_alive (hold i hi))) hother hos htape hout hsz hβ hβo hnew
    (fun j hj => vw_turn (fun i hi => hs.apart (hold i hi)) j hj) (fun o' ho' hrel => by rw [vw_new] at ho'; cases ho'; exact hobj hrel)
  refine ⟨hs.carry rfl (fun id o' hy => ?_) ht, ht.2.1⟩
  have h1 := hs.yd id o' hy
  have hu : id ≠ nid := fun e => hn (e ▸ hs.hh.used (by unfold DS.vw vwF; rw [h1]; simp [hy]))
  rw [DS.ho_upd]
  simp only [Upd.app]
  rw [setH_other _ _ hu]
  cases old with
  | none => exact h1
  | some i =>
    simp only [strikeO]
    by_cases hij : id = i
    · subst hij; simp
    · rw [setH_other _ _ hij]; exact h1

/-- A new own row, in a block that was not there. -/
theorem HoldsB.fresh {C : Ctx} {U : Nat → Prop} {s : DS} {β : Nat → Option Nat} {a : Act} {w w' : World} {nid : Nat} (hs : HoldsB C U s β a w) (hn : ¬ U nid) (T : TypeId) (c : Array Value) (cs : List DV) (b : Nat)
    (hk : Below w.heap.size w w') (hb : w.heap.size ≤ b) (hc : w'.heap[b]? = some (.cells c T (0, 0))) (hl : cs.length ≤ c.size) (hx : isArr C.P T = true → c.size = cs.length)
    (hr : ∀ (j : Nat) (u : Value) (d : DV), c[j]? = some u → cs[j]? = some d → WV C U (s.vw C) β w u d ∧ u.oneCell' = true) :
    HoldsB C (Un U nid) (s.upd nid (.lay (.row T cs))) (upd β nid (some b)) a w' := by
  have hbl : b < w'.heap.size := by
    rcases Nat.lt_or_ge b w'.heap.size with h | h
    · exact h
    · rw [Array.getElem?_eq_none h] at hc; cases hc
  refine (hs.turned (β' := upd β nid (some b)) hn none (fun _ h => by cases h) _ (fun b' hb' _ => hk.block b' hb') hk.os hk.tape hk.output hk.size (fun j hj _ => upd_other β _ hj) (fun _ h => by cases h) (fun b' hb' => ?_) fun hrel => ?_).1
  · rw [upd_same] at hb'
    cases hb'
    exact ⟨.inr hb, hbl⟩
  · exact .inr ⟨b, c, by simp, hc, hl, hx, fun j u d hu hd => ⟨hrel _ _ (hr j u d hu hd).1, (hr j u d hu hd).2⟩⟩

/-- What was just laid is there. -/
theorem wv_new {C : Ctx} {U : Nat → Prop} {V : Nat → Option DObj} {β : Nat → Option Nat} {w : World} {nid : Nat} {x : Value} {d : DV} (hr : Rel C.P w (alw C w β) β x d) (hd : d.refs = [nid]) : WV C (Un U nid) V β w x d :=
  ⟨fun id hi => by rw [hd] at hi; exact .inr (by simpa using hi), fun _ => hr, TP.of_rel hr⟩

theorem wv_agg {C : Ctx} {U : Nat → Prop} {V : Nat → Option DObj} {β : Nat → Option Nat} {w : World} {us : List Value} {cs : List DV} (hl : us.length = cs.length) (ho : ∀ u ∈ us, u.oneCell' = true)
    (hr : ∀ (j : Nat) (u : Value) (d : DV), us[j]? = some u → cs[j]? = some d → WV C U V β w u d) : WV C U V β w (.agg us.toArray) (.agg cs) := by
  refine ⟨fun id hi => ?_, fun ha => .agg us cs hl ho fun j u d hu hd => (hr j u d hu hd).2.1 fun id hi => ha id (by rw [DV.refs]; exact DV.refsL_mem (List.mem_of_getElem? hd) hi), TP.nt fun _ h => by cases h⟩
  rw [DV.refs] at hi
  obtain ⟨d, hd, hi⟩ := DV.mem_refsL hi
  obtain ⟨j, hj, rfl⟩ := List.mem_iff_getElem.1 hd
  exact (hr j us[j] _ (List.getElem?_eq_getElem (by omega)) (List.getElem?_eq_getElem hj)).1 id hi

section ops
variable {C : Ctx} {U : Nat → Prop} {s : DS} {β : Nat → Option Nat} {a : Act} {w : World} {o : Oper} {d : DV} {s' : DS} {nid : Nat}

theorem zeroL_ok {P : Program} {t : TypeId} {z : List Value} (h : zeroL P t = some z) : ∃ i v, P.info? t = some i ∧ i.zero = some v ∧ v.cells.toList = z ∧ ∀ u ∈ z, u.oneCell' = true := by
  unfold zeroL at h
  obtain ⟨v, hv, h⟩ := Option.bind_eq_some_iff.1 h
  obtain ⟨i, hi, hv⟩ := Option.bind_eq_some_iff.1 hv
  split at h
  · rename_i hall
    cases h
    exact ⟨i, v, hi, hv, rfl, fun u hu => List.all_eq_true.1 hall u hu⟩
  · cases h

theorem rel_plain {V : Nat → Option DObj} {z : List Value} (h1 : ∀ u ∈ z, u.oneCell' = true) (j : Nat) (u : Value) (d : DV) (hu : z[j]? = some u) (hd : (z.map DV.v)[j]? = some d) : WV C U V β w u d ∧ u.oneCell' = true := by
  simp only [List.getElem?_map, hu, Option.map_some, Option.some.injEq] at hd
  subst hd
  exact ⟨WV.v u, h1 u (List.mem_of_getElem? hu)⟩

theorem ok_al {T : TypeId} {z : List Value} (ho : o.op = .alloc T) (hz : zeroL C.P T = some z) (hs : HoldsB C U s β a w) (hn : ¬ U nid) : OpOk C (Un U nid) a w o (.pt nid 0) (s.upd nid (.lay (.row T (z.map .v)))) := by
  obtain ⟨i, v, hi, hv, rfl, h1⟩ := zeroL_ok hz
  have hf := hs.fresh hn T v.cells (v.cells.toList.map .v) w.heap.size (below_alloc w (.cells v.cells T)) (Nat.le_refl _) (heap_alloc_new w _) (by simp) (fun _ => by simp)
    (fun j u d hu hd => rel_plain h1 j u d (by simpa using hu) hd)
  refine ⟨.value (.pointer (some ⟨w.heap.size, 0, none⟩)), _, _, _, ?_, .inl rfl, hf, wv_new (.pt nid 0 _ (by simp)) rfl⟩
  simp [execOp, ho, Instr.alloc, zeroValue, typeInfo, hi, hv, newVar, newRow]

theorem ok_bx {T : TypeId} {x : Operand} (ho : o.op = .box T x) (hs : HoldsB C U s β a w) (hn : ¬ U nid) (hx : (s.ev x).okC = true) : OpOk C (Un U nid) a w o (.pt nid 0) (s.upd nid (.lay (.row T (s.ev x).cells))) := by
  obtain ⟨hl, h1, hr⟩ := hs.cells x hx
  have hf := hs.fresh hn T (a.eval x).cells (s.ev x).cells w.heap.size (below_alloc w (.cells (a.eval x).cells T)) (Nat.le_refl _) (heap_alloc_new w _) (by omega) (fun _ => hl)
    (fun j u d hu hd => ⟨hr j u d hu hd, h1 u (by simpa using Array.mem_of_getElem? hu)⟩)
  refine ⟨.value (.pointer (some ⟨w.heap.size, 0, none⟩)), _, _, _, ?_, .inl rfl, hf, wv_new (.pt nid 0 _ (by simp)) rfl⟩
  simp [execOp, ho, Instr.box, newVar, newRow]

/-- Filling the parts in. -/
theorem foldl_fill (xs : List Value) : ∀ (off i : Nat) (cells : Array Value), off + i + xs.length ≤ cells.size →
    ((xs.zipIdx i).foldl (fun cs (c, j) => cs.setIfInBounds (off + j) c) cells).toList = cells.toList.take (off + i) ++ xs ++ cells.toList.drop (off + i + xs.length) := by
  induction xs with
  | nil => intro off i cells _; simp
  | cons x xs ih =>
    intro off i cells h
    simp only [List.zipIdx_cons, List.foldl_cons]
    rw [ih off (i + 1) _ (by simp at h ⊢; omega)]
    have hlt : off + i < cells.toList.length := by simp at h ⊢; omega
    simp only [Array.toList_setIfInBounds, List.length_cons]
    rw [show off + (i + 1) = off + i + 1 by omega, List.take_succ_eq_append_getElem (by simpa using hlt), List.take_set_of_le (by omega), List.drop_set_of_lt (by omega)]
    simp [Nat.add_assoc, Nat.add_comm 1]

theorem fill_ok {W : Value → DV → Prop} (place : Nat → Option (Nat × Nat)) (ρ : Operand → Value) (η : Operand → DV) (hρ : ∀ x, (η x).okC = true → (ρ x).cells.size = (η x).cells.length ∧ (∀ u ∈ (ρ x).cells.toList, u.oneCell' = true) ∧ ∀ (j : Nat) (u : Value) (e : DV), (ρ x).cells[j]? = some u → (η x).cells[j]? = some e → W u e) :
    ∀ (ps : List (Nat × Operand)) (qs : List (Nat × Nat × Operand)) (cells : Array Value) (cs : List DV) (cs' : List DV),
      qs.length = ps.length → (∀ (j : Nat) (p : Nat × Operand) (q : Nat × Nat × Operand), ps[j]? = some p → qs[j]? = some q → place p.1 = some (q.1, q.2.1) ∧ p.2 = q.2.2) →
      cells.size = cs.length → (∀ u ∈ cells.toList, u.oneCell' = true) → (∀ (j : Nat) (u : Value) (d : DV), cells[j]? = some u → cs[j]? = some d → W u d) →
      fillD cs (qs.map fun q => (q.1, q.2.1, η q.2.2)) = some cs' →
      ∃ cells', Instr.fill place cells (ps.map fun p => (p.1, ρ p.2)) = some cells' ∧ cells'.size = cs'.length ∧ cs'.length = cs.length ∧ (∀ u ∈ cells'.toList, u.oneCell' = true) ∧
        ∀ (j : Nat) (u : Value) (d : DV), cells'[j]? = some u → cs'[j]? = some d → W u d
  | [], [], cells, cs, cs', _, _, hl, h1, hr, h => by
    simp [fillD] at h
    subst h
    exact ⟨cells, by simp [Instr.fill], hl, rfl, h1, hr⟩
  | p :: ps, q :: qs, cells, cs, cs', hlen, hpq, hl, h1, hr, h => by
    obtain ⟨hp, hop⟩ := hpq 0 p q rfl rfl
    simp only [List.map_cons, fillD] at h
    split at h
    rotate_left
    · cases h
    rename_i hc
    obtain ⟨hok, hsz, hfit⟩ := hc
    obtain ⟨g1, g2, g3⟩ := hρ q.2.2 hok
    have hfold := foldl_fill (ρ q.2.2).cells.toList q.1 0 cells (by simp; omega)
    simp only [Nat.add_zero] at hfold
    have key := fill_ok (W := W) place ρ η hρ ps qs ((ρ q.2.2).cells.toList.zipIdx.foldl (fun cs (c, j) => cs.setIfInBounds (q.1 + j) c) cells) (cs.take q.1 ++ (η q.2.2).cells ++ cs.drop (q.1 + q.2.1)) cs'
      (by simpa using hlen) (fun j p' q' h1 h2 => hpq (j + 1) p' q' (by simpa using h1) (by simpa using h2)) ?_ ?_ ?_ h
    · obtain ⟨cells', k1, k2, k3, k4, k5⟩ := key
      refine ⟨cells', ?_, k2, ?_, k4, k5⟩
      · simp only [List.map_cons, Instr.fill, hp, hop]
        rw [if_neg (by simp; omega), ← k1]
        congr 1
        rw [← Array.foldl_toList]
        simp
      · rw [k3]; simp; omega
    · rw [← Array.length_toList, hfold]; simp; omega
    · rw [hfold]
      intro u hu
      simp only [List.mem_append] at hu
      rcases hu with (hu | hu) | hu
      · exact h1 u (List.mem_of_mem_take hu)
      · exact g2 u hu
      · exact h1 u (List.mem_of_mem_drop hu)
    · intro j u d hu hd
      have hu' : (cells.toList.take q.1 ++ (ρ q.2.2).cells.toList ++ cells.toList.drop (q.1 + (ρ q.2.2).cells.toList.length))[j]? = some u := by
        rw [← hfold]; simpa using hu
      have hgs : (ρ q.2.2).cells.toList.length = q.2.1 := by simp; omega
      rw [hgs] at hu'
      rw [List.append_assoc, List.getElem?_append] at hu' hd
      simp only [List.length_take, Array.length_toList, hl] at hu' hd
      by_cases hj : j < min q.1 cs.length
      · rw [if_pos hj] at hu' hd
        rw [List.getElem?_take_of_lt (by omega)] at hu' hd
        exact hr j u d (by simpa using hu') hd
      · rw [if_neg hj] at hu' hd
        rw [List.getElem?_append] at hu' hd
        rw [hgs] at hu'
        rw [hsz] at hd
        by_cases hj2 : j - min q.1 cs.length < q.2.1
        · rw [if_pos hj2] at hu' hd
          exact g3 _ u d (by simpa using hu') hd
        · rw [if_neg hj2] at hu' hd
          rw [List.getElem?_drop] at hu' hd
          exact hr _ u d (by simpa using hu') hd
  | [], _ :: _, _, _, _, h, _, _, _, _, _ => by simp at h
  | _ :: _, [], _, _, _, h, _, _, _, _, _ => by simp at h


theorem mapM_some {α β : Type} {f : α → Option β} : ∀ {l : List α} {r : List β}, l.mapM f = some r → r.length = l.length ∧ ∀ (j : Nat) (x : α) (y : β), l[j]? = some x → r[j]? = some y → f x = some y
  | [], r, h => by simp at h; subst h; simp
  | x :: l, r, h => by
    simp only [List.mapM_cons, Option.bind_eq_bind, Option.bind_eq_some_iff, Option.pure_def] at h
    obtain ⟨y, hy, t, ht, h⟩ := h
    cases h
    obtain ⟨h1, h2⟩ := mapM_some ht
    refine ⟨by simp [h1], fun j u v hu hv => ?_⟩
    cases j with
    | zero => simp at hu hv; subst hu hv; exact hy
    | succ j => exact h2 j u v (by simpa using hu) (by simpa using hv)

theorem run_placesM {P : Program} : ∀ (fs : List Field), (∀ f ∈ fs, P.cellsOf f.type ≠ 0) → ∀ (w : World), (fs.mapM (fun f => do pure (f.offset, ← sizeOf f.type) : Field → Sem (Nat × Nat))).run P w = .ok (fs.map fun f => (f.offset, P.cellsOf f.type)) w
  | [], _, w => by simp
  | f :: fs, h, w => by
    have ih := run_placesM fs (fun g hg => h g (by simp [hg])) w
    simp only [List.mapM_cons, Sem.run_bind, run_sizeOf_pos (h f (by simp)), Result.andThen_ok, Sem.run_pure, List.map_cons]
    rw [ih]
    rfl

theorem ok_bld {t : TypeId} {ps : Array (Nat × Operand)} {fs : Array Field} {z : List Value} {l : List (Nat × Nat × Operand)} {cs : List DV} (ho : o.op = .build t ps) (ht : C.P.underlying t = some (.struct fs)) (hz : zeroL C.P t = some z)
    (hpos : ∀ f ∈ fs.toList, C.P.cellsOf f.type ≠ 0)
    (hl : ps.toList.mapM (fun p => (fs[p.1]?).map fun f => (f.offset, C.P.cellsOf f.type, p.2)) = some l) (hs : HoldsB C U s β a w)
    (hf : fillD (z.map .v) (l.map fun p => (p.1, p.2.1, s.ev p.2.2)) = some cs) : OpOk C U a w o (.agg cs) s := by
  obtain ⟨i, v, hi, hv, rfl, h1⟩ := zeroL_ok hz
  obtain ⟨m1, m2⟩ := mapM_some hl
  obtain ⟨cells', k1, k2, k3, k4, k5⟩ := fill_ok (W := WV C U (s.vw C) β w) ((fs.toList.map fun f => (f.offset, C.P.cellsOf f.type))[·]?) a.eval s.ev (fun x hx => hs.cells x hx) ps.toList l v.cells (v.cells.toList.map .v) cs m1
    (fun j p q hp hq => by
      have := m2 j p q hp hq
      obtain ⟨f, hf, rfl⟩ := Option.map_eq_some_iff.1 this
      simp [hf])
    (by simp) h1 (fun j u d hu hd => (rel_plain h1 j u d (by simpa using hu) hd).1) hf
  have hrun : (fs.mapM (fun f => do pure (f.offset, ← sizeOf f.type) : Field → Sem (Nat × Nat))).run C.P w = .ok (fs.toList.map fun f => (f.offset, C.P.cellsOf f.type)).toArray w := by
    rw [Array.mapM_eq_mapM_toList]
    simp only [Sem.run_map, run_placesM fs.toList hpos w, Result.andThen_ok]
  refine .same hs (x := .agg cells'.toList.toArray) ?_ (wv_agg (by simpa using k2) k4 fun j u d hu hd => k5 j u d (by simpa using hu) hd)
  have k1' : Instr.fill ((fs.toList.map fun f => (f.offset, C.P.cellsOf f.type)).toArray[·]?) v.cells (ps.map fun p => (p.1, a.eval p.2)).toList = some cells' := by
    rw [← k1]
    congr 1
    · funext j; simp
    · simp
  simp only [execOp, ho, Instr.build, Sem.run_bind, zeroValue, typeInfo, run_program, Result.andThen_ok, hi, hv, Sem.run_pure, run_underlying ht, hrun]
  simp only [k1']
  simp

theorem getElem?_flatten_replicate {α : Type} (z : List α) : ∀ (n j : Nat), ((List.replicate n z).flatten)[j]? = if j < n * z.length then z[j % z.length]? else none
  | 0, j => by simp
  | n + 1, j => by
    rw [List.replicate_succ, List.flatten_cons, List.getElem?_append, getElem?_flatten_replicate z n]
    by_cases hj : j < z.length
    · have h1 : j < (n + 1) * z.length := by rw [Nat.add_mul]; omega
      rw [if_pos hj, if_pos h1, Nat.mod_eq_of_lt hj]
    · rw [if_neg hj]
      have hm : (j - z.length) % z.length = j % z.length := by
        conv => rhs; rw [show j = (j - z.length) + z.length by omega]
        rw [Nat.add_mod_right]
      have h2 : (j - z.length < n * z.length) ↔ (j < (n + 1) * z.length) := by rw [Nat.add_mul]; omega
      rw [hm]
      simp only [h2]

theorem made_toList (z : Array Value) (n : Nat) (h : 0 < z.size) : ((Array.range (n * z.size)).map (z[· % z.size]!)).toList = (List.replicate n z.toList).flatten := by
  apply List.ext_getElem?
  intro j
  rw [getElem?_flatten_replicate]
  simp only [Array.length_toList]
  by_cases hj : j < n * z.size
  · have hlt : j % z.size < z.size := Nat.mod_lt _ h
    simp [hj, hlt]
  · simp [hj]

theorem mem_flatten_replicate {z : List Value} (h1 : ∀ u ∈ z, u.oneCell' = true) (n : Nat) : ∀ u ∈ (List.replicate n z).flatten, u.oneCell' = true := by
  intro u hu
  simp only [List.mem_flatten] at hu
  obtain ⟨l, hl, hu⟩ := hu
  rw [List.mem_replicate] at hl
  exact h1 u (hl.2 ▸ hu)

theorem map_flatten_replicate (z : List Value) (n : Nat) : (List.replicate n (z.map DV.v)).flatten = ((List.replicate n z).flatten).map DV.v := by
  rw [List.map_flatten, List.map_replicate]

theorem ok_bsl {t e : TypeId} (hna : isArr C.P e = false) {n : Nat} {ps : Array (Nat × Operand)} {z : List Value} {cs : List DV} (ho : o.op = .buildSlice t n ps) (ht : C.P.underlying t = some (.slice e)) (hz : zeroL C.P e = some z)
    (hn : n * C.P.cellsOf e ≤ 65536) (he : 0 < C.P.cellsOf e) (hzl : z.length = C.P.cellsOf e) (hs : HoldsB C U s β a w) (hnew : ¬ U nid)
    (hf : fillD ((List.replicate n (z.map .v)).flatten) ((ps.toList.map fun p => (p.1 * C.P.cellsOf e, C.P.cellsOf e, p.2)).map fun p => (p.1, p.2.1, s.ev p.2.2)) = some cs) :
    OpOk C (Un U nid) a w o (.ms nid 0 n (C.P.cellsOf e)) (s.upd nid (.lay (.row e cs))) := by
  obtain ⟨i, v, hi, hv, rfl, h1⟩ := zeroL_ok hz
  have hsz : C.P.cellsOf e = i.size := by simp [Program.cellsOf, hi]
  simp only [hsz] at hn he hzl hf
  have hvs : v.cells.size = i.size := by simpa using hzl
  have hinit : ((Array.range (n * i.size)).map (v.cells[· % v.cells.size]!)).toList = (List.replicate n v.cells.toList).flatten := by
    rw [← hvs]; exact made_toList v.cells n (by omega)
  have hlenI : ((List.replicate n v.cells.toList).flatten).length = n * i.size := by rw [← hinit]; simp
  obtain ⟨cells', k1, k2, k3, k4, k5⟩ := fill_ok (W := WV C U (s.vw C) β w) (fun j => some (j * i.size, i.size)) a.eval s.ev (fun x hx => hs.cells x hx) ps.toList (ps.toList.map fun p => (p.1 * i.size, i.size, p.2))
    ((Array.range (n * i.size)).map (v.cells[· % v.cells.size]!)) ((List.replicate n (v.cells.toList.map .v)).flatten) cs (by simp)
    (fun j p q hp hq => by
      simp only [List.getElem?_map, hp, Option.map_some, Option.some.injEq] at hq
      subst hq
      exact ⟨rfl, rfl⟩)
    (by rw [map_flatten_replicate, List.length_map, hlenI]; simp)
    (by rw [hinit]; exact mem_flatten_replicate h1 n)
    (fun j u d hu hd => (rel_plain (mem_flatten_replicate h1 n) j u d (by rw [← hinit, Array.getElem?_toList]; exact hu) (by rw [← map_flatten_replicate]; exact hd)).1) hf
  have hcl : cs.length = n * i.size := by rw [k3, map_flatten_replicate, List.length_map, hlenI]
  have hfr := hs.fresh hnew e cells' cs w.heap.size (below_alloc w (.cells cells' e)) (Nat.le_refl _) (heap_alloc_new w _) (by omega) (fun h => by rw [hna] at h; cases h)
    (fun j u d hu hd => ⟨k5 j u d hu hd, k4 u (by simpa using Array.mem_of_getElem? hu)⟩)
  refine ⟨.value (.slice (some ⟨w.heap.size, 0, none⟩) n n), _, _, _, ?_, .inl rfl, hfr, wv_new (.ms nid 0 n _ w.heap.size n cells' e (by simp) (heap_alloc_new w _) (Nat.le_refl _) ?_ ?_) rfl⟩
  · have k1' : Instr.fill (fun j => some (j * i.size, i.size)) ((Array.range (n * i.size)).map (v.cells[· % v.cells.size]!)) (ps.map fun p => (p.1, a.eval p.2)).toList = some cells' := by
      rw [← k1]; congr 1; simp
    have hsmall : ¬ (2 : Nat) ^ 24 < n * i.size := by omega
    by_cases hz0 : n * i.size = 0
    · have hn0 : n = 0 := by
        rcases Nat.mul_eq_zero.1 hz0 with h | h
        · exact h
        · omega
      subst hn0
      have hr0 : Array.range 0 = #[] := rfl
      have k2' : Instr.fill (fun j => some (j * i.size, i.size)) #[] (List.map (fun x => (x.fst, a.eval x.snd)) ps.toList) = some cells' := by
        rw [← k1, Nat.zero_mul, hr0]; simp
      simp [execOp, ho, Instr.buildSlice, run_underlying ht, sizeOf, typeInfo, hi, hr0, k2', newRow]
    · simp only [execOp, ho, Instr.buildSlice, Sem.run_bind, run_underlying ht, Result.andThen_ok, sizeOf, typeInfo, zeroValue, run_program, hi, hv, Sem.run_pure, gt_iff_lt, hsmall, if_false, Sem.run_ite, hz0]
      simp only [k1', newRow]
      simp
  · have hne : n ≤ n * i.size := Nat.le_mul_of_pos_right n he
    simp only [maxLen]; omega
  · rw [hsz]; omega


theorem vw_write {C : Ctx} {s : DS} {nid id : Nat} {o : DObj} (j : Nat) (hj : j ≠ id) : (s.upd nid (.wr id o)).vw C j = s.vw C j := by
  unfold DS.vw vwF
  rw [DS.ho_upd]
  simp only [Upd.app]
  rw [setH_other _ _ hj]
theorem vw_wrote {C : Ctx} {s : DS} {nid id : Nat} {o : DObj} : (s.upd nid (.wr id o)).vw C id = some o := by simp [DS.vw, vwF, DS.ho_upd, Upd.app]

/-- An own object is written. -/
theorem HoldsB.wrote (hs : HoldsB C U s β a w) {w' : World} (nid id b : Nat) (o : DObj) (hb : β id = some b) (hid : (s.ho id).isSome = true)
    (hother : ∀ b', b' ≠ b → w'.heap[b']? = w.heap[b']?)
    (hsz : w'.heap.size = w.heap.size) (hos : w'.os = w.os) (htape : w'.tape = w.tape) (hout : w'.output = w.output)
    (hshape : SameShape w w' b)
    (hobj : (∀ x d, WV C U (s.vw C) β w x d → WV C U ((s.upd nid (.wr id o)).vw C) β w' x d) → RelO C U ((s.upd nid (.wr id o)).vw C) β w' id o) :
    HoldsB C U (s.upd nid (.wr id o)) β a w' ∧ ∀ x d, WV C U (s.vw C) β w x d → WV C U ((s.upd nid (.wr id o)).vw C) β w' x d := by
  have h := hs.hh.write (V' := (s.upd nid (.wr id o)).vw C) (w' := w') id b hb (vw_alive hid) hother hsz hos htape hout hshape (fun j hj => vw_write j hj) (by rw [vw_wrote]; rfl)
    (fun o' ho' hrel => by rw [vw_wrote] at ho'; cases ho'; exact hobj hrel)
  refine ⟨hs.carry rfl (fun j o' hy => ?_) h, h.2.1⟩
  have h1 := hs.yd j o' hy
  rw [DS.ho_upd]
  simp only [Upd.app]
  rw [setH_other _ _ (fun e => by rw [← e, h1] at hid; cases hid)]
  exact h1

theorem ok_st {t T : TypeId} {k : Option Nat} {x y : Operand} {id off n : Nat} {cs : List DV} (ho : o.op = .store t x y) (hk : tkind C.P t = some k) (hkn : n = k.getD 1) (hs : HoldsB C U s β a w) (hx : s.ev x = .pt id off)
    (hid : s.ho id = some (.row T cs)) (hok : (s.ev y).okC = true) (hlen : (s.ev y).cells.length = n) (hfit : off + n ≤ cs.length) :
    OpOk C U a w o .any (s.upd nid (.wr id (.row T (cs.take off ++ (s.ev y).cells ++ cs.drop (off + n))))) := by
  have h1 := hs.ev x
  rw [hx] at h1
  obtain ⟨b, e1, hb⟩ := rel_pt h1
  obtain ⟨c, hw, hl, hex, hr⟩ := hs.row hb hid
  obtain ⟨g1, g2, g3⟩ := hs.cells y hok
  have hst := run_storeCells_at C.P b off T (a.eval y).cells.toList 0 c w hw (by simp; omega) g2
  simp only [Nat.add_zero] at hst
  have hsz : (sizeOf t).run C.P w = .ok n w := by
    cases k with
    | none => rw [hkn]; exact (run_tkind_one hk w).2.1
    | some m => rw [hkn]; exact (run_tkind_agg hk w).2.1
  have hwr : HoldsB C U (s.upd nid (.wr id (.row T (cs.take off ++ (s.ev y).cells ++ cs.drop (off + n))))) β a (w.setRow b (c.toList.take off ++ (a.eval y).cells.toList ++ c.toList.drop (off + (a.eval y).cells.toList.length)).toArray) := by
    refine (hs.wrote nid id b _ hb (by rw [hid]; rfl) (fun b' hb' => setRow_other w b b' _ hb') (by simp) rfl rfl rfl ?_ fun hrel => ?_).1
    · intro c' T' hc'
      rw [hw] at hc'
      cases hc'
      refine ⟨_, setRow_heap w b c _ T _ hw, ?_⟩
      simp; omega
    · refine .inr ⟨b, _, hb, setRow_heap w b c _ T _ hw, by simp; omega, fun h => (by have := hex h; simp; omega), fun j u d hu hd => ?_⟩
      have hgs : (a.eval y).cells.toList.length = n := by simp; omega
      have hu' : (c.toList.take off ++ (a.eval y).cells.toList ++ c.toList.drop (off + n))[j]? = some u := by rw [← hgs]; simpa using hu
      rw [List.append_assoc, List.getElem?_append] at hu' hd
      simp only [List.length_take, Array.length_toList] at hu' hd
      rw [show min off c.size = off by omega] at hu'
      rw [show min off cs.length = off by omega] at hd
      by_cases hj : j < off
      · rw [if_pos hj] at hu' hd
        rw [List.getElem?_take_of_lt hj] at hu' hd
        have := hr j u d (by simpa using hu') hd
        exact ⟨hrel _ _ this.1, this.2⟩
      · rw [if_neg hj] at hu' hd
        rw [List.getElem?_append] at hu' hd
        rw [hgs] at hu'
        rw [hlen] at hd
        by_cases hj2 : j - off < n
        · rw [if_pos hj2] at hu' hd
          exact ⟨hrel _ _ (g3 _ u d (by simpa using hu') hd), g2 u (List.mem_of_getElem? hu')⟩
        · rw [if_neg hj2] at hu' hd
          rw [List.getElem?_drop] at hu' hd
          have := hr _ u d (by simpa using hu') hd
          exact ⟨hrel _ _ this.1, this.2⟩
  refine ⟨.skip, _, β, undef, ?_, .inr ⟨rfl, rfl⟩, hwr, WV.any⟩
  have hcs : (a.eval y).cells.size = n := by omega
  simp [execOp, ho, e1, Instr.storeAt, Instr.sureAddr, storeVar, hsz, hcs, hst]

theorem ok_mks {t e : TypeId} (hna : isArr C.P e = false) {x y : Operand} {z : List Value} {l c : Int} (ho : o.op = .makeSlice t x y) (ht : C.P.underlying t = some (.slice e)) (hz : zeroL C.P e = some z)
    (hzl : z.length = C.P.cellsOf e) (he : 0 < C.P.cellsOf e) (hby : C.P.bytesOf e ≤ 65536) (hs : HoldsB C U s β a w) (hnew : ¬ U nid) (hx : intD (s.ev x) = some l) (hy : intD (s.ev y) = some c) (h0 : 0 ≤ l) (hlc : l ≤ c) (hc : c ≤ 2147483648) :
    OpOk C (Un U nid) a w o (.ms nid 0 l.toNat (C.P.cellsOf e)) (s.upd nid (.lay (.row e ((List.replicate l.toNat (z.map .v)).flatten)))) := by
  obtain ⟨i, v, hi, hv, rfl, h1⟩ := zeroL_ok hz
  obtain ⟨kl, hkl⟩ := intD_ok (hs.ev x) hx
  obtain ⟨kc, hkc⟩ := intD_ok (hs.ev y) hy
  have hsz : C.P.cellsOf e = i.size := by simp [Program.cellsOf, hi]
  have hbs : C.P.bytesOf e = i.bytes := by simp [Program.bytesOf, hi]
  simp only [hsz] at he hzl
  rw [hbs] at hby
  have hvs : v.cells.size = i.size := by simpa using hzl
  have hrun := run_make (P := C.P) w t e i v ht hi hv kl kc l c h0 hlc (by
    have h2 : (i.bytes : Int) * c ≤ 65536 * 2147483648 := Int.mul_le_mul (by omega) hc (by omega) (by omega)
    omega) (by omega)
  have hinit : (madeCells v.cells (c.toNat * i.size)).toList = (List.replicate c.toNat v.cells.toList).flatten := by
    rw [← hvs]; exact made_toList v.cells c.toNat (by omega)
  have hlenC : (madeCells v.cells (c.toNat * i.size)).size = c.toNat * i.size := size_madeCells _ _
  have hpre : (List.replicate l.toNat v.cells.toList).flatten = ((List.replicate c.toNat v.cells.toList).flatten).take (l.toNat * i.size) := by
    apply List.ext_getElem?
    intro j
    rw [List.getElem?_take, getElem?_flatten_replicate, getElem?_flatten_replicate]
    simp only [Array.length_toList, hvs]
    by_cases hj : j < l.toNat * i.size
    · have : j < c.toNat * i.size := Nat.lt_of_lt_of_le hj (Nat.mul_le_mul_right _ (by omega))
      simp [hj, this]
    · simp [hj]
  have hll : ((List.replicate l.toNat v.cells.toList).flatten).length = l.toNat * i.size := by
    rw [hpre, List.length_take, ← hinit, Array.length_toList, hlenC]
    exact Nat.min_eq_left (Nat.mul_le_mul_right _ (by omega))
  have hfr := hs.fresh hnew e (madeCells v.cells (c.toNat * i.size)) ((List.replicate l.toNat (v.cells.toList.map .v)).flatten) w.heap.size (below_alloc w (.cells (madeCells v.cells (c.toNat * i.size)) e)) (Nat.le_refl _) (heap_alloc_new w _)
    (by rw [map_flatten_replicate, List.length_map, hll, hlenC]; exact Nat.mul_le_mul_right _ (by omega)) (fun h => by rw [hna] at h; cases h)
    (fun j u d hu hd => by
      rw [map_flatten_replicate] at hd
      have hjl : j < l.toNat * i.size := by
        have := (List.getElem?_eq_some_iff.1 hd).1
        rwa [List.length_map, hll] at this
      refine rel_plain (mem_flatten_replicate h1 l.toNat) j u d ?_ hd
      rw [hpre, List.getElem?_take_of_lt hjl, ← hinit, Array.getElem?_toList]
      exact hu)
  refine ⟨.value (.slice (some ⟨w.heap.size, 0, none⟩) l.toNat c.toNat), _, _, _, ?_, .inl rfl, hfr, wv_new (.ms nid 0 _ _ w.heap.size _ _ e (by simp) (heap_alloc_new w _) (by omega) (by simp only [maxLen]; omega) ?_) rfl⟩
  · simp [execOp, ho, hkl, hkc, hrun]
  · rw [hlenC, hsz]; omega

end ops
end Go.DD

/- Each operation on deep values is what the model's operation does (fourth part: append). -/
namespace Go.DD
open Go.RowKit (Below)

section ops
variable {C : Ctx} {U : Nat → Prop} {s : DS} {β : Nat → Option Nat} {a : Act} {w : World} {o : Oper} {d : DV} {s' : DS} {nid : Nat}

theorem src_ok {T : TypeId} {es m : Nat} {x : Operand} {news : List DV} (hs : HoldsB C U s β a w) (h : srcD s T es (s.ev x) = some (news, m)) :
    ∃ us : List Value, us.length = news.length ∧ (∀ u ∈ us, u.oneCell' = true) ∧ (∀ (j : Nat) (u : Value) (d : DV), us[j]? = some u → news[j]? = some d → WV C U (s.vw C) β w u d) ∧
      ((∃ ad cap, a.eval x = .slice (some ad) m cap ∧ ∀ (j : Nat) (u : Value), us[j]? = some u → w.cell? (ad.add j) = some u) ∨ (∃ cap, a.eval x = .slice none 0 cap ∧ m = 0 ∧ us = [])) := by
  have h1 := hs.ev x
  unfold srcD at h
  split at h
  · rename_i cs n hx
    cases h
    rw [hx] at h1
    rcases rel_sl h1 with ⟨ad, cap, e1, rfl, rfl⟩ | ⟨ad, cap, us, e1, hl, hn, ha, h1c, hc, hr⟩
    · refine ⟨[], rfl, by simp, by simp, ?_⟩
      cases ad with
      | none => exact .inr ⟨cap, e1, rfl, rfl⟩
      | some ad => exact .inl ⟨ad, cap, e1, by simp⟩
    · exact ⟨us, hl, h1c, fun j u d hu hd => wv_imm (hr j u d hu hd), .inl ⟨ad, cap, e1, hc⟩⟩
  · rename_i cap hx
    cases h
    rw [hx] at h1
    exact ⟨[], rfl, by simp, by simp, .inr ⟨cap, rel_v h1, rfl, rfl⟩⟩
  · rename_i ad cap hx
    cases h
    rw [hx] at h1
    exact ⟨[], rfl, by simp, by simp, .inl ⟨ad, cap, rel_v h1, by simp⟩⟩
  · rename_i id off n es' hx
    rw [hx] at h1
    split at h
    · rename_i T' cs hrow
      split at h
      · rename_i hfit
        obtain ⟨rfl, rfl, hfit⟩ := hfit
        cases h
        rcases rel_ms h1 with ⟨e1, rfl, rfl⟩ | ⟨b, cap, c, T, e1, hb, hw, hn, hm, hcap⟩
        · exact ⟨[], by simp, by simp, by simp, .inr ⟨0, e1, rfl, rfl⟩⟩
        · obtain ⟨c', hw', hl, _, hr⟩ := hs.row hb hrow
          rw [hw] at hw'
          injection hw' with hw'
          injection hw' with hcc hT
          subst hT hcc
          refine ⟨(c.toList.drop off).take (m * es'), by simp; omega, fun u hu => ?_, fun j u d hu hd => ?_, .inl ⟨_, cap, e1, fun j u hu => ?_⟩⟩
          · obtain ⟨j, hj, rfl⟩ := List.mem_iff_getElem.1 hu
            have hjl : off + j < cs.length := by simp at hj; omega
            refine (hr (off + j) _ cs[off + j] ?_ (List.getElem?_eq_getElem hjl)).2
            rw [List.getElem_take, List.getElem_drop]
            simp
          · rw [List.getElem?_take] at hu hd
            split at hu
            · rename_i hj
              rw [if_pos hj] at hd
              exact (hr (off + j) u d (by simpa using hu) (by simpa using hd)).1
            · cases hu
          · rw [List.getElem?_take] at hu
            split at hu
            · exact cell_row hw j u hu
            · cases hu
      · cases h
    · cases h
  · cases h

theorem dst_ok {T : TypeId} {es n : Nat} {old : Option Nat} {x : Operand} {cs : List DV} (hes : es = C.P.cellsOf T) (hs : HoldsB C U s β a w) (h : dstD s T es (s.ev x) = some (old, cs, n)) :
    ∃ xs : List Value, w.ownsRow 0 T es (a.eval x) n xs ∧ xs.length = cs.length ∧ (∀ (j : Nat) (u : Value) (d : DV), xs[j]? = some u → cs[j]? = some d → WV C U (s.vw C) β w u d ∧ u.oneCell' = true) ∧
      (∀ b, (a.eval x).ownBlock = some b → ∃ id, old = some id ∧ β id = some b) ∧ ∀ id, old = some id → (s.ho id).isSome = true := by
  have h1 := hs.ev x
  unfold dstD at h
  split at h
  · rename_i hx
    cases h
    rw [hx] at h1
    rw [rel_v h1]
    exact ⟨[], World.ownsRow_nil w _ _ _, rfl, by simp, by simp [Value.ownBlock], by simp⟩
  · rename_i id' n' es' hx
    rw [hx] at h1
    split at h
    · rename_i T' cs' hrow
      split at h
      · rename_i hc
        obtain ⟨rfl, hes', hlen⟩ := hc
        cases h
        subst es'
        rcases rel_ms h1 with ⟨e1, _, rfl⟩ | ⟨b, cap, c, T, e1, hb, hw, hn, hm, hcap⟩
        · have hcs : cs = [] := List.eq_nil_of_length_eq_zero (by simpa using hlen)
          subst hcs
          rw [e1]
          exact ⟨[], World.ownsRow_nil w _ _ _, rfl, by simp, by simp [Value.ownBlock], fun i hi => by cases hi; rw [hrow]; rfl⟩
        · obtain ⟨c', hw', hl, _, hr⟩ := hs.row hb hrow
          rw [hw] at hw'
          injection hw' with hw'
          injection hw' with hcc hT
          subst hT hcc
          have hlc : (c.toList.take (n * es)).length = n * es := by simp; omega
          refine ⟨c.toList.take (n * es), ⟨hlc, .inr ⟨b, cap, c, e1, Nat.zero_le _, hw, hn, hm, by omega, rfl⟩⟩, by omega, fun j u d hu hd => ?_, fun b' hb' => ?_, fun i hi => by cases hi; rw [hrow]; rfl⟩
          · rw [List.getElem?_take] at hu
            split at hu
            · exact hr j u d (by simpa using hu) hd
            · cases hu
          · rw [e1] at hb'
            simp [Value.ownBlock] at hb'
            exact ⟨_, rfl, by rw [← hb']; exact hb⟩
      · cases h
    · cases h
  · cases h

theorem run_append_nil_src {P : Program} (w : World) (base : Nat) (t ty e : TypeId) (i : TypeInfo) (size : Nat) (ht : P.underlying t = some (.slice e)) (hi : P.info? e = some i)
    (v : Value) (n : Nat) (xs : List Value) (hown : w.ownsRow base e size v n xs) (c : Nat) : (Builtin.append_ #[t, t] ty #[v, .slice none 0 c]).run P w = .ok v w := by
  rcases hown.2 with ⟨rfl, rfl⟩ | ⟨g, cap, cur, rfl, _, _, hnc, _⟩
  · simp [Builtin.append_, run_underlying ht, sizeOf, typeInfo, hi, Builtin.lenOf, Builtin.firstCells]
  · simp [Builtin.append_, run_underlying ht, sizeOf, typeInfo, hi, Builtin.lenOf, Builtin.firstCells, hnc, storeCells]

def strikeB (β : Nat → Option Nat) : Option Nat → Nat → Option Nat
  | none => β
  | some i => upd β i none

theorem ok_app {t T : TypeId} (hna : isArr C.P T = false) {c : Call} {x y : Operand} {z : List Value} {es bytes n m : Nat} {old : Option Nat} {cs news : List DV} (ho : o.op = .call c) (hc : c.callee = .builtin .append) (hargs : c.args.toList = [x, y]) (hty : c.argTypes.toList = [t, t])
    (ht : C.P.underlying t = some (.slice T)) (hz : zeroL C.P T = some z) (hzl : z.length = C.P.cellsOf T) (hes : es = C.P.cellsOf T) (hby : bytes = C.P.bytesOf T) (hs : HoldsB C U s β a w) (hnew : ¬ U nid) (hd : dstD s T es (s.ev x) = some (old, cs, n)) (hsr : srcD s T es (s.ev y) = some (news, m))
    (hnl : news.length = m * es) (he : 0 < es) (hbd : n + m ≤ 2147483648) (hb2 : bytes ≤ 65536) : OpOk C (Un U nid) a w o (.ms nid 0 (n + m) es) (s.upd nid (.mv old (.row T (cs ++ news)))) := by
  obtain ⟨i, v, hi, hv, rfl, h1z⟩ := zeroL_ok hz
  have hsz : C.P.cellsOf T = i.size := by simp [Program.cellsOf, hi]
  have hbs : C.P.bytesOf T = i.bytes := by simp [Program.bytesOf, hi]
  have hA : c.args = #[x, y] := by apply Array.ext'; simpa using hargs
  have hT : c.argTypes = #[t, t] := by apply Array.ext'; simpa using hty
  obtain ⟨us, ul, u1, ur, usrc⟩ := src_ok hs hsr
  obtain ⟨xs, hown, xl, xr, hob, hlive⟩ := dst_ok hes hs hd
  have hul : us.length = m * es := by omega
  have key : ∃ v' w', (Builtin.append_ #[t, t] o.type #[a.eval x, a.eval y]).run C.P w = .ok v' w' ∧ w'.ownsRow 0 T es v' (n + m) (xs ++ us) ∧ w.grownBy w' (a.eval x).ownBlock ∧
      (v'.ownBlock = (a.eval x).ownBlock ∨ v'.ownBlock = some w.heap.size) := by
    rcases usrc with ⟨ad, cap, e1, hcell⟩ | ⟨cap, e1, rfl, rfl⟩
    · obtain ⟨v', w', r1, r2, r3, _, r5⟩ := run_append_own_at (P := C.P) w 0 t o.type T i v es bytes ht hi hv (by omega) (by omega) (by have h := hzl; rw [Array.length_toList] at h; omega) he (a.eval x) n xs hown ad m cap us hul hcell u1
        (by simp only [maxLen]; omega) (by have := Nat.mul_le_mul hbd hb2; omega) (Nat.zero_le _)
      exact ⟨v', w', by rw [e1]; exact r1, r2, r3, r5⟩
    · refine ⟨a.eval x, w, by rw [e1]; exact run_append_nil_src w _ t _ T i es ht hi _ _ _ hown cap, by simpa using hown, ⟨rfl, rfl, rfl, Nat.le_refl _, fun _ _ _ => rfl⟩, .inl rfl⟩
  obtain ⟨v', w', hrun, hown', hg, hat⟩ := key
  have hlt' : ∀ b, v'.ownBlock = some b → 0 ≤ b ∧ b < w'.heap.size := hown'.lt
  have hne : ∀ j, old = some j → j ≠ nid := fun j hj e => hnew (e ▸ hs.hh.used (vw_alive (hlive j hj)))
  have hturn := hs.turned (β' := upd (strikeB β old) nid v'.ownBlock) (w' := w') hnew old hlive (.row T (cs ++ news))
    (fun b hb hne => hg.block b hb (fun e => by obtain ⟨j, h1, h2⟩ := hob b e.symm; exact hne j h1 h2))
    hg.os hg.tape hg.output hg.size
    (fun j hj hjo => by
      rw [upd_other _ _ hj]
      cases old with
      | none => rfl
      | some i => exact upd_other β _ (fun e => hjo (by rw [e])))
    (fun j hj => by
      rw [upd_other _ _ (hne j hj)]
      subst hj
      exact upd_same _ _ _)
    (fun b hb => by
      rw [upd_same] at hb
      refine ⟨?_, (hlt' b hb).2⟩
      rcases hat with h | h
      · exact .inl (hob b (by rw [← h]; exact hb))
      · rw [h] at hb; cases hb; exact .inr (Nat.le_refl _))
    (fun hrel => by
      have hkl : (cs ++ news).length = (n + m) * es := by
        simp only [List.length_append]
        have h2 := hown.1
        rw [Nat.add_mul]; omega
      rcases hown'.2 with ⟨e1, e2⟩ | ⟨g, cap, cur, e1, hbg, hgw, hnc, hcm, hcs, htake⟩
      · refine .inl ⟨by rw [upd_same, e1]; rfl, List.eq_nil_of_length_eq_zero (by rw [hkl, e2]; simp)⟩
      · refine .inr ⟨g, cur, by rw [upd_same, e1]; rfl, hgw, by rw [hkl, hcs]; exact Nat.mul_le_mul_right _ hnc, fun h => (by rw [hna] at h; cases h), fun j u d hu he' => ?_⟩
        have hj : j < (n + m) * es := by
          have := (List.getElem?_eq_some_iff.1 he').1
          omega
        have hu' : (xs ++ us)[j]? = some u := by
          rw [← htake, List.getElem?_take_of_lt hj]
          simpa using hu
        rw [List.getElem?_append] at hu' he'
        rw [xl] at hu'
        by_cases hjx : j < cs.length
        · rw [if_pos hjx] at hu' he'
          have := xr j u d hu' he'
          exact ⟨hrel _ _ this.1, this.2⟩
        · rw [if_neg hjx] at hu' he'
          exact ⟨hrel _ _ (ur _ u d hu' he'), u1 u (List.mem_of_getElem? hu')⟩)
  refine ⟨.value v', w', _, _, ?_, .inl rfl, hturn.1, ?_⟩
  · simp [execOp, ho, resolve, hc, hA, hT, invoke, builtin, hrun]
  · refine wv_new ?_ rfl
    rcases hown'.2 with ⟨e1, e2⟩ | ⟨g, cap, cur, e1, hbg, hgw, hnc, hcm, hcs, htake⟩
    · rw [e1, e2]; exact .ms0 nid es
    · have h2 : upd (strikeB β old) nid v'.ownBlock nid = some g := by rw [upd_same, e1]; rfl
      rw [e1] at h2 ⊢
      exact .ms nid 0 _ es g cap cur T h2 hgw hnc hcm (by rw [hcs]; omega)

end ops
end Go.DD
