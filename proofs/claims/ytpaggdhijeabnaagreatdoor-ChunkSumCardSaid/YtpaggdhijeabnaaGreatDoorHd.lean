/- Each operation on deep values is what the model's operation does (first part: no memory is made). -/
import Derived.Test.YtpaggdhijeabnaaGreatDoorHc
import Derived.Laws.StructEq
namespace Go.DD
open Go.RowKit (Below)

section inv
variable {P : Program} {w : World} {al : Nat → Prop} {β : Nat → Option Nat} {x : Value}
theorem rel_v {y : Value} (h : Rel P w al β x (.v y)) : x = y := by
  cases h with
  | imm _ _ h => cases h; rfl
theorem rel_agg {cs : List DV} (h : Rel P w al β x (.agg cs)) : ∃ vs : List Value, x = .agg vs.toArray ∧ vs.length = cs.length ∧ (∀ u ∈ vs, u.oneCell' = true) ∧
    ∀ (j : Nat) (u : Value) (d : DV), vs[j]? = some u → cs[j]? = some d → Rel P w al β u d := by
  cases h with
  | imm _ _ h => cases h with
    | agg vs cs hl ho h => exact ⟨vs, rfl, hl, ho, fun j u d hu hd => .imm _ _ (h j u d hu hd)⟩
  | agg vs cs hl ho h => exact ⟨vs, rfl, hl, ho, h⟩
theorem rel_tup {cs : List DV} (h : Rel P w al β x (.tup cs)) : ∃ vs : List Value, x = .tuple vs.toArray ∧ vs.length = cs.length ∧
    ∀ (j : Nat) (u : Value) (d : DV), vs[j]? = some u → cs[j]? = some d → Rel P w al β u d := by
  cases h with
  | imm _ _ h => cases h with
    | tup vs cs hl h => exact ⟨vs, rfl, hl, fun j u d hu hd => .imm _ _ (h j u d hu hd)⟩
  | tup vs cs hl h => exact ⟨vs, rfl, hl, h⟩
theorem rel_fn {f : Fn} {cs : List DV} (h : Rel P w al β x (.fn f cs)) : ∃ us vs : List Value, x = .func f us.toArray vs.toArray ∧ (Value.tuple us.toArray :: vs).length = cs.length ∧
    ∀ (j : Nat) (u : Value) (d : DV), (Value.tuple us.toArray :: vs)[j]? = some u → cs[j]? = some d → Rel P w al β u d := by
  cases h with
  | imm _ _ h => cases h with
    | fn _ us vs cs hl h => exact ⟨us, vs, rfl, hl, fun j u d hu hd => .imm _ _ (h j u d hu hd)⟩
  | fn _ us vs cs hl h => exact ⟨us, vs, rfl, hl, h⟩
theorem rel_fnB {f : Fn} {fs cs : List DV} (h : Rel P w al β x (.fn f (.tup fs :: cs))) : ∃ us vs : List Value, x = .func f us.toArray vs.toArray ∧ us.length = fs.length ∧ vs.length = cs.length ∧
    (∀ (j : Nat) (u : Value) (d : DV), us[j]? = some u → fs[j]? = some d → Rel P w al β u d) ∧ ∀ (j : Nat) (u : Value) (d : DV), vs[j]? = some u → cs[j]? = some d → Rel P w al β u d := by
  obtain ⟨us, vs, rfl, hl, hr⟩ := rel_fn h
  obtain ⟨us', e, hl2, hr2⟩ := rel_tup (hr 0 _ _ rfl rfl)
  simp only [Value.tuple.injEq] at e
  have e' : us = us' := by simpa using congrArg Array.toList e
  subst e'
  exact ⟨us, vs, rfl, hl2, by simpa using hl, hr2, fun j u d hu hd => hr (j + 1) u d (by simpa using hu) (by simpa using hd)⟩
theorem pw_app {W : Value → DV → Prop} {a b : List Value} {c d : List DV} (hl : a.length = c.length) (h1 : ∀ (j : Nat) (v : Value) (e : DV), a[j]? = some v → c[j]? = some e → W v e)
    (h2 : ∀ (j : Nat) (v : Value) (e : DV), b[j]? = some v → d[j]? = some e → W v e) (j : Nat) (v : Value) (e : DV) (hv : (a ++ b)[j]? = some v) (he : (c ++ d)[j]? = some e) : W v e := by
  rw [List.getElem?_append] at hv he
  by_cases hj : j < a.length
  · rw [if_pos hj] at hv; rw [if_pos (by omega)] at he; exact h1 j v e hv he
  · rw [if_neg hj] at hv; rw [if_neg (by omega)] at he; rw [hl] at hv; exact h2 _ v e hv he
theorem rel_ifc {T : TypeId} {d : DV} (h : Rel P w al β x (.ifc T d)) : ∃ u, x = .iface T u ∧ Rel P w al β u d := by
  cases h with
  | imm _ _ h => cases h with
    | ifc _ u _ h => exact ⟨u, rfl, .imm _ _ h⟩
  | ifc _ u _ h => exact ⟨u, rfl, h⟩
theorem rel_ia {cs : List DV} (h : Rel P w al β x (.ia cs)) : ∃ (ad : Addr) (us : List Value), x = .pointer (some ad) ∧ us.length = cs.length ∧ al ad.block ∧ (∀ u ∈ us, u.oneCell' = true) ∧
    (∀ (j : Nat) (u : Value), us[j]? = some u → w.cell? (ad.add j) = some u) ∧ ∀ (j : Nat) (u : Value) (d : DV), us[j]? = some u → cs[j]? = some d → RelI w al u d := by
  cases h with
  | imm _ _ h => cases h with
    | ia ad us cs hl ha ho hc h => exact ⟨ad, us, rfl, hl, ha, ho, hc, h⟩
theorem rel_sl {cs : List DV} {n : Nat} (h : Rel P w al β x (.sl cs n)) : (∃ a cap, x = .slice a 0 cap ∧ cs = [] ∧ n = 0) ∨
    ∃ (ad : Addr) (cap : Nat) (us : List Value), x = .slice (some ad) n cap ∧ us.length = cs.length ∧ n ≤ cap ∧ al ad.block ∧ (∀ u ∈ us, u.oneCell' = true) ∧
    (∀ (j : Nat) (u : Value), us[j]? = some u → w.cell? (ad.add j) = some u) ∧ ∀ (j : Nat) (u : Value) (d : DV), us[j]? = some u → cs[j]? = some d → RelI w al u d := by
  cases h with
  | imm _ _ h => cases h with
    | sl0 a cap => exact .inl ⟨a, cap, rfl, rfl, rfl⟩
    | sl ad n cap us cs hl hn ha ho hc h => exact .inr ⟨ad, cap, us, rfl, hl, hn, ha, ho, hc, h⟩
theorem rel_ms {id off n es : Nat} (h : Rel P w al β x (.ms id off n es)) : (x = .slice none 0 0 ∧ off = 0 ∧ n = 0) ∨
    ∃ (b cap : Nat) (c : Array Value) (T : TypeId), x = .slice (some ⟨b, off, none⟩) n cap ∧ β id = some b ∧ w.heap[b]? = some (.cells c T (0, 0)) ∧ n ≤ cap ∧ cap ≤ maxLen ∧ off + cap * es = c.size := by
  cases h with
  | imm _ _ h => cases h
  | ms0 id es => exact .inl ⟨rfl, rfl, rfl⟩
  | ms id off n es b cap c T hβ hw hn hm hcap => exact .inr ⟨b, cap, c, T, rfl, hβ, hw, hn, hm, hcap⟩
theorem rel_pt {id off : Nat} (h : Rel P w al β x (.pt id off)) : ∃ b, x = .pointer (some ⟨b, off, none⟩) ∧ β id = some b := by
  cases h with
  | imm _ _ h => cases h
  | pt id off b hβ => exact ⟨b, rfl, hβ⟩
theorem rel_mp {id : Nat} (h : Rel P w al β x (.mp id)) : ∃ b, x = .map (some b) ∧ β id = some b := by
  cases h with
  | imm _ _ h => cases h
  | mp id b hβ => exact ⟨b, rfl, hβ⟩
theorem rel_yl {id : Nat} (h : Rel P w al β x (.yl id)) : ∃ b, x = .func (.yield b) #[] #[] ∧ β id = some b := by
  cases h with
  | imm _ _ h => cases h
  | yl id b hβ => exact ⟨b, rfl, hβ⟩
theorem rel_any : Rel P w al β x .any := .imm _ _ (.any x)
end inv

theorem rel_ofV {P : Program} {w : World} {al : Nat → Prop} {β : Nat → Option Nat} (x : Value) : Rel P w al β x (ofV x) := by
  cases x with
  | agg cs =>
    simp only [ofV]
    split
    · rename_i h
      obtain ⟨l⟩ := cs
      refine .imm _ _ (.agg l (l.map .v) (by simp) (by simpa using h) fun j u d hu hd => ?_)
      simp only [List.getElem?_map, hu, Option.map_some, Option.some.injEq] at hd
      subst hd
      exact .v u
    · exact rel_any
  | tuple vs => exact rel_any
  | _ => exact .imm _ _ (.v _)

theorem refsL_v (l : List Value) : DV.refsL (l.map .v) = [] := by induction l <;> simp_all [DV.refsL, DV.refs]
theorem gvD_refs (g : Nat) : (gvD g).refs = [] := by
  unfold gvD
  split <;> simp [DV.refs]
theorem refs_ofV (x : Value) : (ofV x).refs = [] := by
  cases x with
  | agg cs => simp only [ofV]; split <;> simp [DV.refs, refsL_v]
  | _ => simp [ofV, DV.refs]

theorem HoldsB.eva {s : DS} (x : Operand) : ∀ id ∈ (s.ev x).refs, (s.ho id).isSome = true := by
  cases x with
  | tmp t =>
    simp only [DS.ev]
    split
    · rename_i h; exact fun id hi => List.all_eq_true.1 h id hi
    · intro id hi; simp [DV.refs] at hi
  | const x => intro id hi; simp only [DS.ev] at hi; rw [refs_ofV] at hi; cases hi
  | func f => intro id hi; simp [DS.ev, DV.refs, DV.refsL] at hi
  | global g => intro id hi; simp only [DS.ev] at hi; rw [gvD_refs] at hi; cases hi
theorem HoldsB.ev {C : Ctx} {U : Nat → Prop} {s : DS} {β : Nat → Option Nat} {a : Act} {w : World} (h : HoldsB C U s β a w) (x : Operand) : Rel C.P w (alw C w β) β (a.eval x) (s.ev x) := by
  cases x with
  | tmp t =>
    simp only [DS.ev]
    split
    · rename_i hl; exact (h.sl t).2.1 fun id hi => vw_alive (List.all_eq_true.1 hl id hi)
    · exact rel_any
  | const x => exact rel_ofV x
  | func f =>
    refine .imm _ _ (.fn (.func f) [] [] [.tup []] rfl fun j u d hu hd => ?_)
    cases j with
    | zero => cases hu; cases hd; exact .tup [] [] rfl fun j u d hu _ => by simp at hu
    | succ j => simp at hu
  | global g =>
    show Rel _ _ _ _ _ (gvD g)
    unfold gvD
    split
    · rename_i cs hg
      exact (h.gh (.pointer (some ⟨g, 0, none⟩)) (.ia (cs.map .v)) (.inr ⟨g, cs, hg, rfl, rfl⟩)).2.1 fun id hi => (by simp [DV.refs] at hi)
    · exact rel_any
theorem HoldsB.evw {C : Ctx} {U : Nat → Prop} {s : DS} {β : Nat → Option Nat} {a : Act} {w : World} (h : HoldsB C U s β a w) (x : Operand) : WV C U (s.vw C) β w (a.eval x) (s.ev x) :=
  h.hh.wv (h.ev x) fun id hi => vw_alive (HoldsB.eva x id hi)
theorem HoldsB.rvw {C : Ctx} {U : Nat → Prop} {s : DS} {β : Nat → Option Nat} {a : Act} {w : World} (h : HoldsB C U s β a w) (x : Operand) : WV C U (s.vw C) β w (a.eval x) (s.rv x) := by
  cases x with
  | tmp t => exact h.sl t
  | _ => exact h.evw _
/-- A part of what an operand reads as. -/
theorem HoldsB.evp {C : Ctx} {U : Nat → Prop} {s : DS} {β : Nat → Option Nat} {a : Act} {w : World} (h : HoldsB C U s β a w) (x : Operand) {u : Value} {d : DV} (hr : Rel C.P w (alw C w β) β u d) (hd : ∀ id ∈ d.refs, id ∈ (s.ev x).refs) : WV C U (s.vw C) β w u d :=
  h.hh.wv hr fun id hi => vw_alive (HoldsB.eva x id (hd id hi))

def Un (U : Nat → Prop) (nid id : Nat) : Prop := U id ∨ id = nid
/-- What an operation that is no call must do. -/
def OpOk (C : Ctx) (U : Nat → Prop) (a : Act) (w : World) (o : Oper) (d : DV) (s' : DS) : Prop :=
  ∃ nx w' β' x, (execOp a.eval o).run C.P w = .ok nx w' ∧ (nx = .value x ∨ (nx = .skip ∧ x = undef)) ∧ HoldsB C U s' β' a w' ∧ WV C U (s'.vw C) β' w' x d

theorem WV.grow {C : Ctx} {U U' : Nat → Prop} {V : Nat → Option DObj} {β : Nat → Option Nat} {w : World} {x : Value} {d : DV} (h : WV C U V β w x d) (hU : ∀ id, U id → U' id) : WV C U' V β w x d := ⟨fun id hi => hU id (h.1 id hi), h.2⟩

theorem OpOk.same {C : Ctx} {U : Nat → Prop} {s : DS} {β : Nat → Option Nat} {a : Act} {w : World} {o : Oper} {d : DV} (h : HoldsB C U s β a w) {x : Value}
    (hr : (execOp a.eval o).run C.P w = .ok (.value x) w) (hx : WV C U (s.vw C) β w x d) : OpOk C U a w o d s :=
  ⟨_, w, β, x, hr, .inl rfl, h, hx⟩

/-- The numbers that are given behind an operation. -/
def Ux (U : Nat → Prop) (nid : Nat) : Upd → Nat → Prop
  | .lay _ => Un U nid
  | .mv _ _ => Un U nid
  | _ => U

section ops
variable {C : Ctx} {U : Nat → Prop} {s : DS} {β : Nat → Option Nat} {a : Act} {w : World} {o : Oper} {d : DV} {s' : DS} {nid : Nat}

theorem cells_one {P : Program} {al : Nat → Prop} {x : Value} {d : DV} (h : Rel P w al β x d) (ho : d.okC = true) :
    x.cells.size = d.cells.length ∧ (∀ u ∈ x.cells.toList, u.oneCell' = true) ∧ ∀ (j : Nat) (u : Value) (e : DV), x.cells[j]? = some u → d.cells[j]? = some e → Rel P w al β u e := by
  have one : ∀ (x : Value) (d : DV), x.oneCell' = true → d.cells = [d] → Rel P w al β x d → x.cells.size = d.cells.length ∧ (∀ u ∈ x.cells.toList, u.oneCell' = true) ∧ ∀ (j : Nat) (u : Value) (e : DV), x.cells[j]? = some u → d.cells[j]? = some e → Rel P w al β u e := by
    intro x d hx hd hr
    have hc : x.cells = #[x] := by cases x <;> first | rfl | (simp [Value.oneCell'] at hx)
    rw [hc, hd]
    refine ⟨rfl, by simpa using hx, fun j u e hu he => ?_⟩
    cases j with
    | zero => simp at hu he; subst hu he; exact hr
    | succ j => simp at hu
  cases d with
  | agg cs =>
    obtain ⟨vs, rfl, hl, h1, h2⟩ := rel_agg h
    refine ⟨by simpa [Value.cells, DV.cells] using hl, by simpa [Value.cells] using h1, fun j u e hu he => h2 j u e (by simpa [Value.cells] using hu) he⟩
  | v y => have := rel_v h; subst this; exact one _ _ ho rfl h
  | tup cs => cases ho
  | any => cases ho
  | sl cs n => rcases rel_sl h with ⟨a, cap, rfl, _, _⟩ | ⟨ad, cap, us, rfl, _⟩ <;> exact one _ _ rfl rfl h
  | ia cs => obtain ⟨ad, us, rfl, _⟩ := rel_ia h; exact one _ _ rfl rfl h
  | fn f cs => obtain ⟨us, vs, rfl, _⟩ := rel_fn h; exact one _ _ rfl rfl h
  | ms id off n es => rcases rel_ms h with ⟨rfl, _⟩ | ⟨b, cap, c, T, rfl, _⟩ <;> exact one _ _ rfl rfl h
  | pt id off => obtain ⟨b, rfl, _⟩ := rel_pt h; exact one _ _ rfl rfl h
  | mp id => obtain ⟨b, rfl, _⟩ := rel_mp h; exact one _ _ rfl rfl h
  | yl id => obtain ⟨b, rfl, _⟩ := rel_yl h; exact one _ _ rfl rfl h
  | ifc T d => obtain ⟨u, rfl, _⟩ := rel_ifc h; exact one _ _ rfl rfl h

theorem cells_refs {d e : DV} (h : e ∈ d.cells) : ∀ id ∈ e.refs, id ∈ d.refs := by
  intro id hi
  cases d <;> simp only [DV.cells, List.mem_singleton] at h <;> first | (subst h; exact hi) | (rw [DV.refs]; exact DV.refsL_mem h hi)
/-- The cells of what an operand reads as. -/
theorem HoldsB.cells (hs : HoldsB C U s β a w) (x : Operand) (ho : (s.ev x).okC = true) :
    (a.eval x).cells.size = (s.ev x).cells.length ∧ (∀ u ∈ (a.eval x).cells.toList, u.oneCell' = true) ∧ ∀ (j : Nat) (u : Value) (e : DV), (a.eval x).cells[j]? = some u → (s.ev x).cells[j]? = some e → WV C U (s.vw C) β w u e := by
  obtain ⟨h1, h2, h3⟩ := cells_one (hs.ev x) ho
  exact ⟨h1, h2, fun j u e hu he => hs.evp x (h3 j u e hu he) (cells_refs (List.mem_of_getElem? he))⟩

theorem run_tkind_agg {P : Program} {t : TypeId} {n : Nat} (h : tkind P t = some (some n)) (w : World) : (isAgg t).run P w = .ok true w ∧ (sizeOf t).run P w = .ok n w ∧ ∃ i, P.info? t = some i ∧ i.size = n := by
  unfold tkind at h
  split at h
  · rename_i hu hi
    simp at h
    exact ⟨by simp [isAgg, run_underlying hu], by simp [sizeOf, typeInfo, hi, h], _, hi, h⟩
  · rename_i hu hi
    simp at h
    exact ⟨by simp [isAgg, run_underlying hu], by simp [sizeOf, typeInfo, hi, h], _, hi, h⟩
  · rename_i d i hn1 hn2 hu hi
    split at h <;> simp at h
  · simp at h

theorem run_tkind_one {P : Program} {t : TypeId} (h : tkind P t = some none) (w : World) : (isAgg t).run P w = .ok false w ∧ (sizeOf t).run P w = .ok 1 w ∧ ∃ i, P.info? t = some i ∧ i.size = 1 := by
  unfold tkind at h
  split at h
  · simp at h
  · simp at h
  · rename_i d i hn1 hn2 hu hi
    split at h
    · rename_i hs
      refine ⟨?_, by simp [sizeOf, typeInfo, hi, hs], _, hi, hs⟩
      simp only [isAgg, Sem.run_bind, run_underlying hu, Result.andThen_ok]
      cases d <;> first | rfl | (exfalso; first | exact hn1 _ _ hu hi | exact hn2 _ _ _ hu hi)
    · simp at h
  · simp at h

theorem bin_ok (op : BinOp) (t : TypeId) (x y : Operand) {v : Value} (h : binV op (s.ev x) (s.ev y) = some v) (hs : HoldsB C U s β a w) :
    (eqGuard op t x y (a.eval x) (a.eval y)).run C.P w = .ok () w ∧ (binOp op t (a.eval x) (a.eval y)).run C.P w = .ok v w := by
  have hx := hs.ev x
  have hy := hs.ev y
  unfold binV at h
  split at h
  · rename_i k p k' q ex ey
    rw [ex] at hx; rw [ey] at hy
    rw [rel_v hx, rel_v hy]
    refine ⟨by unfold eqGuard; split <;> rfl, ?_⟩
    split at h
    · rename_i hsh
      unfold shI at h
      split at h
      · cases h
      · rename_i hq
        cases op <;> simp [isSh] at hsh <;> simp at h <;> subst h <;> simp [binOp, Op.shift, hq]
    · rename_i hsh
      split at h
      · rename_i hk
        subst hk
        cases op <;> simp [binI, isSh] at h hsh <;> first | (subst h; simp [binOp, Op.intArith, Op.intBits, Op.intCmp]; done) | (obtain ⟨hq, rfl⟩ := h; simp [binOp, Op.intDiv, hq])
      · cases h
  · rename_i p q ex ey
    rw [ex] at hx; rw [ey] at hy
    rw [rel_v hx, rel_v hy]
    refine ⟨by unfold eqGuard; split <;> rfl, ?_⟩
    cases op <;> simp [binS] at h <;> first | (subst h; simp [binOp, Op.stringOp]; done) | (obtain ⟨hq, rfl⟩ := h; simp [binOp, Op.stringOp, IntKind.max, IntKind.bits, IntKind.signed]; omega)
  · cases h


theorem ok_mv {x : Operand} (ho : o.op = .move x ∨ o.op = .assign x) (hs : HoldsB C U s β a w) : OpOk C U a w o (s.rv x) s :=
  .same hs (by rcases ho with ho | ho <;> simp [execOp, ho]) (hs.rvw x)

theorem ok_pick {c x y : Operand} {t : Bool} (ho : o.op = .pick c x y) (hs : HoldsB C U s β a w) (hc : s.ev c = .v (.bool t)) : OpOk C U a w o (if t then s.rv x else s.rv y) s := by
  have h1 := hs.ev c
  rw [hc] at h1
  refine .same hs (x := if t then a.eval x else a.eval y) ?_ ?_
  · simp [execOp, ho, rel_v h1, asBool]
  · cases t
    · exact hs.rvw y
    · exact hs.rvw x

theorem ok_bin {op : BinOp} {t yt : TypeId} {x y : Operand} {v : Value} (ho : o.op = .binOp op t x y yt) (hs : HoldsB C U s β a w) (h : binV op (s.ev x) (s.ev y) = some v) :
    OpOk C U a w o (.v v) s := by
  obtain ⟨h1, h2⟩ := bin_ok op t x y h hs
  exact .same hs (by simp [execOp, ho, h1, h2]) (WV.v v)

theorem ok_bb {neg : Bool} {op : BinOp} (hop : op = if neg then .neq else .eql) {t yt : TypeId} {x y : Operand} {p q : Bool} (ho : o.op = .binOp op t x y yt) (ht : C.P.underlying t = some .bool)
    (hs : HoldsB C U s β a w) (hx : s.ev x = .v (.bool p)) (hy : s.ev y = .v (.bool q)) : OpOk C U a w o (.v (.bool (xor neg (p == q)))) s := by
  have h1 := hs.ev x
  have h2 := hs.ev y
  rw [hx] at h1; rw [hy] at h2
  refine .same hs ?_ (WV.v _)
  have he := fun d => run_equalIn_bool' w d t p q ht
  subst hop
  cases neg <;> simp [execOp, ho, rel_v h1, rel_v h2, eqGuard, binOp, Op.equal, Op.maxDepth, he]

theorem eqL_ok {P : Program} {al : Nat → Prop} (d : Nat) : ∀ (fs : List Field) (ks : List Nat) (off : Nat) (xs ys : List Value) (cs ds : List DV) (r : Bool), flatEq P off fs = some ks → eqL ks (cs.drop off) (ds.drop off) = some r →
    xs.length = cs.length → ys.length = ds.length →
    (∀ (j : Nat) (u : Value) (d : DV), xs[j]? = some u → cs[j]? = some d → Rel P w al β u d) → (∀ (j : Nat) (u : Value) (d : DV), ys[j]? = some u → ds[j]? = some d → Rel P w al β u d) →
    (Op.eqFields (d + 1) xs.toArray ys.toArray fs).run P w = .ok r w
  | [], ks, off, xs, ys, cs, ds, r, hk, h, _, _, _, _ => by
    simp [flatEq] at hk
    subst hk
    unfold eqL at h
    split at h <;> simp_all [Op.eqFields]
  | f :: fs, ks, off, xs, ys, cs, ds, r, hf, h, hx, hy, rx, ry => by
    simp only [flatEq] at hf
    split at hf
    rotate_left
    · cases hf
    rename_i hno
    simp only [Bool.and_eq_true, bne_iff_ne, ne_eq, beq_iff_eq] at hno
    obtain ⟨hn, ho⟩ := hno
    obtain ⟨k, hp, hf⟩ := Option.bind_eq_some_iff.1 hf
    obtain ⟨ks', hrest, rfl⟩ := Option.map_eq_some_iff.1 hf
    have hc : off < cs.length := by
      rcases Nat.lt_or_ge off cs.length with h1 | h1
      · exact h1
      · rw [List.drop_eq_nil_of_le h1] at h; simp [eqL] at h
    have hd : off < ds.length := by
      rcases Nat.lt_or_ge off ds.length with h1 | h1
      · exact h1
      · rw [List.drop_eq_nil_of_le h1] at h; simp [eqL] at h
    have hxo : off < xs.length := by omega
    have hyo : off < ys.length := by omega
    rw [List.drop_eq_getElem_cons hc, List.drop_eq_getElem_cons hd] at h
    have h1 := rx off xs[off] cs[off] (List.getElem?_eq_getElem hxo) (List.getElem?_eq_getElem hc)
    have h2 := ry off ys[off] ds[off] (List.getElem?_eq_getElem hyo) (List.getElem?_eq_getElem hd)
    have hagg : (isAgg f.type).run P w = .ok false w := by
      unfold plainEq at hp
      simp only [isAgg, Sem.run_bind]
      split at hp <;> first | (rename_i hu; rw [run_underlying hu]; rfl) | cases hp
    have px : (part f.type xs.toArray f.offset).run P w = .ok xs[off] w := by
      subst ho
      simp [part, hagg, hxo]
    have py : (part f.type ys.toArray f.offset).run P w = .ok ys[off] w := by
      subst ho
      simp [part, hagg, hyo]
    have step : ∀ b : Bool, eqC k cs[off] ds[off] = some b → (Op.equalIn (d + 1) f.type xs[off] ys[off]).run P w = .ok b w := by
      intro b hb
      generalize cs[off] = c at *
      generalize ds[off] = e at *
      unfold plainEq at hp
      unfold eqC at hb
      split at hb
      · rw [rel_v h1, rel_v h2]
        split at hb
        · cases hb
          rename_i hk
          subst hk
          split at hp <;> cases hp
          rename_i hu; exact run_equalIn_int w d _ _ _ _ _ hu
        · cases hb
      · rw [rel_v h1, rel_v h2]
        cases hb
        split at hp <;> cases hp
        rename_i hu; exact run_equalIn_bool' w d _ _ _ hu
      · rw [rel_v h1, rel_v h2]
        cases hb
        split at hp <;> cases hp
        rename_i hu; exact run_equalIn_string w d _ _ _ hu
      · cases hb
    have ih := eqL_ok (P := P) (al := al) d fs ks' (off + 1) xs ys cs ds
    simp only [Op.eqFields]
    rw [if_pos hn]
    simp only [Sem.run_bind, px, py, Result.andThen_ok]
    simp only [eqL] at h
    cases hq : eqC k cs[off] ds[off] with
    | none => rw [hq] at h; cases h
    | some b =>
      rw [hq] at h
      rw [step b hq]
      cases b
      · simp at h; subst h; simp
      · simp only [Result.andThen_ok]
        simpa using ih r hrest h hx hy rx ry

theorem ok_eqs {neg : Bool} {op : BinOp} (hop : op = if neg then .neq else .eql) {t yt : TypeId} {x y : Operand} {fs : Array Field} {ks : List Nat} {xs ys : List DV} {r : Bool} (ho : o.op = .binOp op t x y yt)
    (ht : C.P.underlying t = some (.struct fs)) (hg : C.P.eqGuardType C.P.depth t = false) (hh : C.P.stoodInHeld t = false) (hk : flatEq C.P 0 fs.toList = some ks)
    (hs : HoldsB C U s β a w) (hx : s.ev x = .agg xs) (hy : s.ev y = .agg ys) (hr : eqL ks xs ys = some r) : OpOk C U a w o (.v (.bool (xor neg r))) s := by
  have h1 := hs.ev x
  have h2 := hs.ev y
  rw [hx] at h1; rw [hy] at h2
  obtain ⟨us, e1, l1, _, r1⟩ := rel_agg h1
  obtain ⟨vs, e2, l2, _, r2⟩ := rel_agg h2
  have hf : C.P.fieldsOf t = fs := by simp [Program.fieldsOf, ht]
  have he := eqL_ok (w := w) (β := β) (P := C.P) 9998 fs.toList ks 0 us vs xs ys r hk (by simpa using hr) l1 l2 r1 r2
  have he2 : (Op.equalIn 10000 t (.agg us.toArray) (.agg vs.toArray)).run C.P w = .ok r w := by
    have h3 := run_equalIn_struct (P := C.P) w 9999 t us.toArray vs.toArray (by rw [hf]; exact ht) hh
    rw [hf] at h3
    exact h3.trans he
  refine .same hs ?_ (WV.v _)
  cases neg
  · simp only [Bool.false_eq_true, if_false] at hop
    subst hop
    have hgd := run_eqGuard_agg (P := C.P) w .eql t x y us.toArray vs.toArray hg
    simp [execOp, ho, e1, e2, hgd, run_eql_struct, he2]
  · simp only [if_true] at hop
    subst hop
    have hgd := run_eqGuard_agg (P := C.P) w .neq t x y us.toArray vs.toArray hg
    simp [execOp, ho, e1, e2, hgd, run_neq_struct, he2]

def nilV (k : Nat) (x : Value) : Prop :=
  match k with
  | 0 => ∃ n c, x = .slice none n c
  | 1 => x = .pointer none
  | 2 => x = .map none
  | 3 => x = .nilFunc
  | _ => x = .nilIface
def someV (k : Nat) (x : Value) : Prop :=
  match k with
  | 0 => ∃ ad n c, x = .slice (some ad) n c
  | 1 => ∃ ad, x = .pointer (some ad)
  | 2 => ∃ r, x = .map (some r)
  | 3 => ∃ f p q, x = .func f p q
  | _ => ∃ T y, x = .iface T y
def nilT (P : Program) (k : Nat) (t : TypeId) : Prop :=
  match k with
  | 0 => ∃ e, P.underlying t = some (.slice e)
  | 1 => ∃ e, P.underlying t = some (.pointer e)
  | 2 => ∃ e f, P.underlying t = some (.map e f)
  | 3 => ∃ e f g, P.underlying t = some (.func e f g)
  | _ => ∃ e, P.underlying t = some (.interface e)

theorem isNil_ok {P : Program} {al : Nat → Prop} {x : Value} {d : DV} {k : Nat} {b : Bool} (h : Rel P w al β x d) (hn : isNil k d = some b) :
    (b = true → nilV k x) ∧ (b = false → someV k x) := by
  unfold isNil at hn
  split at hn
  · cases hn; have := rel_v h; subst this; simp [nilV]
  · split at hn <;> cases hn
    rcases rel_sl h with ⟨_, _, _, _, h1⟩ | ⟨ad, cap, us, rfl, _⟩
    · omega
    · simp [someV]
  · split at hn <;> cases hn
    rcases rel_ms h with ⟨_, _, h1⟩ | ⟨b, cap, c, T, rfl, _⟩
    · omega
    · simp [someV]
  · cases hn; have := rel_v h; subst this; simp [nilV]
  · cases hn; obtain ⟨ad, us, rfl, _⟩ := rel_ia h; simp [someV]
  · cases hn; obtain ⟨b, rfl, _⟩ := rel_pt h; simp [someV]
  · cases hn; have := rel_v h; subst this; simp [nilV]
  · cases hn; obtain ⟨b, rfl, _⟩ := rel_mp h; simp [someV]
  · cases hn; have := rel_v h; subst this; simp [nilV]
  · cases hn; obtain ⟨us, vs, rfl, _⟩ := rel_fn h; simp [someV]
  · cases hn; have := rel_v h; subst this; simp [nilV]
  · cases hn; obtain ⟨u, rfl, _⟩ := rel_ifc h; simp [someV]
  · cases hn

theorem isNil_lt {k : Nat} {d : DV} {b : Bool} (hn : isNil k d = some b) : k < 5 := by
  unfold isNil at hn
  split at hn <;> first | omega | cases hn

theorem run_equalIn_nil {P : Program} {k : Nat} {t : TypeId} {x y : Value} {b : Bool} (hk : k < 5) (ht : nilT P k t) (hx : nilV k x) (hy : (b = true → nilV k y) ∧ (b = false → someV k y)) (d : Nat) :
    (Op.equalIn (d + 1) t x y).run P w = .ok b w := by
  obtain rfl | rfl | rfl | rfl | rfl : k = 0 ∨ k = 1 ∨ k = 2 ∨ k = 3 ∨ k = 4 := by omega
  · obtain ⟨e, ht⟩ := ht
    obtain ⟨n, c, rfl⟩ := hx
    cases b
    · obtain ⟨ad, n', c', rfl⟩ := hy.2 rfl; simp [Op.equalIn, run_underlying ht]
    · obtain ⟨n', c', rfl⟩ := hy.1 rfl; simp [Op.equalIn, run_underlying ht]
  · obtain ⟨e, ht⟩ := ht
    obtain rfl := hx
    cases b
    · obtain ⟨ad, rfl⟩ := hy.2 rfl; simp [Op.equalIn, run_underlying ht]
    · obtain rfl := hy.1 rfl; simp [Op.equalIn, run_underlying ht]
  · obtain ⟨e, f, ht⟩ := ht
    obtain rfl := hx
    cases b
    · obtain ⟨ad, rfl⟩ := hy.2 rfl; simp [Op.equalIn, run_underlying ht]
    · obtain rfl := hy.1 rfl; simp [Op.equalIn, run_underlying ht]
  · obtain ⟨e, f, g, ht⟩ := ht
    obtain rfl := hx
    cases b
    · obtain ⟨ad, _, _, rfl⟩ := hy.2 rfl; simp [Op.equalIn, run_underlying ht]
    · obtain rfl := hy.1 rfl; simp [Op.equalIn, run_underlying ht]
  · obtain ⟨e, ht⟩ := ht
    obtain rfl := hx
    cases b
    · obtain ⟨T, z, rfl⟩ := hy.2 rfl; simp [Op.equalIn, run_underlying ht]
    · obtain rfl := hy.1 rfl; simp [Op.equalIn, run_underlying ht]

theorem run_equalIn_nil' {P : Program} {k : Nat} {t : TypeId} {x y : Value} {b : Bool} (hk : k < 5) (ht : nilT P k t) (hy : nilV k y) (hx : (b = true → nilV k x) ∧ (b = false → someV k x)) (d : Nat) :
    (Op.equalIn (d + 1) t x y).run P w = .ok b w := by
  obtain rfl | rfl | rfl | rfl | rfl : k = 0 ∨ k = 1 ∨ k = 2 ∨ k = 3 ∨ k = 4 := by omega
  · obtain ⟨e, ht⟩ := ht
    obtain ⟨n, c, rfl⟩ := hy
    cases b
    · obtain ⟨ad, n', c', rfl⟩ := hx.2 rfl; simp [Op.equalIn, run_underlying ht]
    · obtain ⟨n', c', rfl⟩ := hx.1 rfl; simp [Op.equalIn, run_underlying ht]
  · obtain ⟨e, ht⟩ := ht
    obtain rfl := hy
    cases b
    · obtain ⟨ad, rfl⟩ := hx.2 rfl; simp [Op.equalIn, run_underlying ht]
    · obtain rfl := hx.1 rfl; simp [Op.equalIn, run_underlying ht]
  · obtain ⟨e, f, ht⟩ := ht
    obtain rfl := hy
    cases b
    · obtain ⟨ad, rfl⟩ := hx.2 rfl; simp [Op.equalIn, run_underlying ht]
    · obtain rfl := hx.1 rfl; simp [Op.equalIn, run_underlying ht]
  · obtain ⟨e, f, g, ht⟩ := ht
    obtain rfl := hy
    cases b
    · obtain ⟨ad, _, _, rfl⟩ := hx.2 rfl; simp [Op.equalIn, run_underlying ht]
    · obtain rfl := hx.1 rfl; simp [Op.equalIn, run_underlying ht]
  · obtain ⟨e, ht⟩ := ht
    obtain rfl := hy
    cases b
    · obtain ⟨T, z, rfl⟩ := hx.2 rfl; simp [Op.equalIn, run_underlying ht]
    · obtain rfl := hx.1 rfl; simp [Op.equalIn, run_underlying ht]

/-- The forms that a nil comparison may meet. -/
def nilForm (x : Value) : Prop := (∃ a n c, x = .slice a n c) ∨ (∃ a, x = .pointer a) ∨ (∃ a, x = .map a) ∨ x = .nilFunc ∨ (∃ f p q, x = .func f p q) ∨ x = .nilIface ∨ ∃ T y, x = .iface T y
theorem run_nilq {P : Program} (neg : Bool) {t : TypeId} {x y : Value} {b : Bool} (X Y : Operand) (hc : isCst X = true ∨ isCst Y = true ∨ (x ≠ .nilIface ∧ y ≠ .nilIface)) (he : (Op.equalIn 10000 t x y).run P w = .ok b w) (hx : nilForm x) (hy : nilForm y) :
    (eqGuard (if neg then .neq else .eql) t X Y x y).run P w = .ok () w ∧ (binOp (if neg then .neq else .eql) t x y).run P w = .ok (.bool (xor neg b)) w := by
  rcases hx with ⟨_, _, _, rfl⟩ | ⟨_, rfl⟩ | ⟨_, rfl⟩ | rfl | ⟨_, _, _, rfl⟩ | rfl | ⟨_, _, rfl⟩ <;> rcases hy with ⟨_, _, _, rfl⟩ | ⟨_, rfl⟩ | ⟨_, rfl⟩ | rfl | ⟨_, _, _, rfl⟩ | rfl | ⟨_, _, rfl⟩ <;>
    first
    | (cases neg <;> simp [eqGuard, binOp, Op.equal, Op.maxDepth, he]; done)
    | (rcases hc with hc | hc | hc
       · cases X <;> first | (simp [isCst] at hc; done) | (cases neg <;> simp [eqGuard, binOp, Op.equal, Op.maxDepth, he])
       · cases Y <;> first | (simp [isCst] at hc; done) | (cases X <;> cases neg <;> simp [eqGuard, binOp, Op.equal, Op.maxDepth, he])
       · exact absurd rfl hc.1)

theorem nilV_form {k : Nat} {x : Value} (h : nilV k x ∨ someV k x) : nilForm x := by
  unfold nilForm
  rcases h with h | h
  · unfold nilV at h
    split at h
    · obtain ⟨n, c, rfl⟩ := h; exact .inl ⟨_, _, _, rfl⟩
    · exact .inr (.inl ⟨_, h⟩)
    · exact .inr (.inr (.inl ⟨_, h⟩))
    · exact .inr (.inr (.inr (.inl h)))
    · exact .inr (.inr (.inr (.inr (.inr (.inl h)))))
  · unfold someV at h
    split at h
    · obtain ⟨ad, n, c, rfl⟩ := h; exact .inl ⟨_, _, _, rfl⟩
    · obtain ⟨ad, rfl⟩ := h; exact .inr (.inl ⟨_, rfl⟩)
    · obtain ⟨ad, rfl⟩ := h; exact .inr (.inr (.inl ⟨_, rfl⟩))
    · exact .inr (.inr (.inr (.inr (.inl h))))
    · exact .inr (.inr (.inr (.inr (.inr (.inr h)))))

theorem ok_nilq {k : Nat} {neg b c : Bool} {op : BinOp} (hop : op = if neg then .neq else .eql) {t yt : TypeId} {x y : Operand} (ho : o.op = .binOp op t x y yt) (ht : nilT C.P k t) (hcst : k = 4 → isCst x = true ∨ isCst y = true)
    (hs : HoldsB C U s β a w) (hx : isNil k (s.ev x) = some b) (hy : isNil k (s.ev y) = some c) (hbc : b = true ∨ c = true) : OpOk C U a w o (.v (.bool (xor neg (if b then c else b)))) s := by
  have h1 := isNil_ok (hs.ev x) hx
  have h2 := isNil_ok (hs.ev y) hy
  have hk := isNil_lt hx
  have he : (Op.equalIn 10000 t (a.eval x) (a.eval y)).run C.P w = .ok (if b then c else b) w := by
    rcases hbc with rfl | rfl
    · exact run_equalIn_nil hk ht (h1.1 rfl) h2 9999
    · have : (if b = true then true else b) = b := by cases b <;> rfl
      rw [this]
      exact run_equalIn_nil' hk ht (h2.1 rfl) h1 9999
  have hfx : nilV k (a.eval x) ∨ someV k (a.eval x) := by cases b <;> simp_all
  have hfy : nilV k (a.eval y) ∨ someV k (a.eval y) := by cases c <;> simp_all
  have hne : ∀ z, k ≠ 4 → (nilV k z ∨ someV k z) → z ≠ .nilIface := by
    rintro z hk4 hz rfl
    obtain rfl | rfl | rfl | rfl : k = 0 ∨ k = 1 ∨ k = 2 ∨ k = 3 := by omega
    all_goals (simp [nilV, someV] at hz)
  obtain ⟨g1, g2⟩ := run_nilq neg x y (by
    by_cases hk4 : k = 4
    · rcases hcst hk4 with h | h
      · exact .inl h
      · exact .inr (.inl h)
    · exact .inr (.inr ⟨hne _ hk4 hfx, hne _ hk4 hfy⟩)) he (nilV_form hfx) (nilV_form hfy)
  refine .same hs ?_ (WV.v _)
  subst hop
  simp [execOp, ho, g1, g2]

theorem ok_un {op : UnOp} {t : TypeId} {x : Operand} {v : Value} (ho : o.op = .unOp op t x) (hs : HoldsB C U s β a w) (h : unV op (s.ev x) = some v) : OpOk C U a w o (.v v) s := by
  have h1 := hs.ev x
  unfold unV at h
  refine .same hs ?_ (WV.v _)
  split at h
  · rename_i hx
    rw [hx] at h1
    split at h <;> cases h
    · simp [execOp, ho, rel_v h1, Op.unary, Op.intArith]
    · simp [execOp, ho, rel_v h1, Op.unary, Op.intBits]
  · rename_i hx
    rw [hx] at h1
    split at h <;> cases h
    simp [execOp, ho, rel_v h1, Op.unary]
  · cases h

theorem ok_cvi {k k' kk : IntKind} {n : Int} {src dst : TypeId} {x : Operand} (ho : o.op = .convert src dst x) (h1 : C.P.underlying src = some (.int k')) (h2 : C.P.underlying dst = some (.int k))
    (hs : HoldsB C U s β a w) (hx : s.ev x = .v (.int kk n)) : OpOk C U a w o (.v (.int k (k.wrap n))) s := by
  have h3 := hs.ev x
  rw [hx] at h3
  refine .same hs ?_ (WV.v _)
  simp [execOp, ho, rel_v h3, convert, run_underlying h1, run_underlying h2, Conv.intToInt]

theorem ok_mm {mx : Bool} {k k' : IntKind} {p q : Int} {c : Call} {x y : Operand} (ho : o.op = .call c) (hc : c.callee = .builtin (if mx then .max else .min)) (hargs : c.args.toList = [x, y])
    (hs : HoldsB C U s β a w) (hx : s.ev x = .v (.int k p)) (hy : s.ev y = .v (.int k' q)) :
    OpOk C U a w o (.v (.int k (if mx then (if q > p then q else p) else (if q < p then q else p)))) s := by
  have h1 := hs.ev x
  have h2 := hs.ev y
  rw [hx] at h1; rw [hy] at h2
  have hA : c.args = #[x, y] := by apply Array.ext'; simpa using hargs
  refine .same hs ?_ (WV.v _)
  cases mx <;> simp [execOp, ho, resolve, hc, hA, invoke, builtin, rel_v h1, rel_v h2, Builtin.max_, Builtin.min_, Builtin.max2, Builtin.min2]

end ops
end Go.DD
