/- Each operation on deep values is what the model's operation does (third part: memory that is made or written). -/
import Derived.Test.YtpaggdhijeabnaaGreatDoorHe
import Derived.Laws.OwnMore
import Derived.Laws.MakeOwn
namespace Go.DD
open Go.RowKit (Below)

theorem DS.ho_upd (s : DS) (nid : Nat) (u : Upd) : (s.upd nid u).ho = u.app nid s.ho := rfl
@[simp] theorem DS.sv_upd (s : DS) (nid : Nat) (u : Upd) : (s.upd nid u).sv = s.sv := rfl

theorem vw_turn {C : Ctx} {s : DS} {nid : Nat} {old : Option Nat} {o : DObj} (hold : ∀ i, old = some i → C.Y i = none) (j : Nat) (hj : j ≠ nid) : (s.upd nid (.mv old o)).vw C j = if old = some j then none else s.vw C j := by
  unfold DS.vw vwF
  rw [DS.ho_upd]
  simp only [Upd.app]
  rw [setH_other _ _ hj]
  cases old with
  | none => simp [strikeO]
  | some i =>
    simp only [strikeO]
    by_cases hij : j = i
    · subst hij; simp [hold j rfl]
    · rw [setH_other _ _ hij]
      have : ¬ i = j := fun e => hij e.symm
      simp [this]
theorem vw_new {C : Ctx} {s : DS} {nid : Nat} {old : Option Nat} {o : DObj} : (s.upd nid (.mv old o)).vw C nid = some o := by
  simp [DS.vw, vwF, DS.ho_upd, Upd.app]

theorem HoldsB.apart {C : Ctx} {U : Nat → Prop} {s : DS} {β : Nat → Option Nat} {a : Act} {w : World} (hs : HoldsB C U s β a w) {i : Nat} (h : (s.ho i).isSome = true) : C.Y i = none := by
  cases hy : C.Y i with
  | none => rfl
  | some o => rw [hs.yd i o hy] at h; cases h

/-- A new object is laid (and an old one may go). -/
theorem HoldsB.turned {C : Ctx} {U : Nat → Prop} {s : DS} {β β' : Nat → Option Nat} {a : Act} {w w' : World} {nid : Nat} (hs : HoldsB C U s β a w) (hn : ¬ U nid) (old : Option Nat) (hold : ∀ i, old = some i → (s.ho i).isSome = true) (o : DObj)
    (hother : ∀ b, b < w.heap.size → (∀ i, old = some i → β i ≠ some b) → w'.heap[b]? = w.heap[b]?)
    (hos : w'.os = w.os) (htape : w'.tape = w.tape) (hout : w'.output = w.output) (hsz : w.heap.size ≤ w'.heap.size)
    (hβ : ∀ j, j ≠ nid → old ≠ some j → β' j = β j) (hβo : ∀ i, old = some i → β' i = none)
    (hnew : ∀ b, β' nid = some b → ((∃ i, old = some i ∧ β i = some b) ∨ w.heap.size ≤ b) ∧ b < w'.heap.size)
    (hobj : (∀ x d, WV C U (s.vw C) β w x d → WV C (Un U nid) ((s.upd nid (.mv old o)).vw C) β' w' x d) → RelO C (Un U nid) ((s.upd nid (.mv old o)).vw C) β' w' nid o) :
    HoldsB C (Un U nid) (s.upd nid (.mv old o)) β' a w' ∧ ∀ x d, WV C U (s.vw C) β w x d → WV C (Un U nid) ((s.upd nid (.mv old o)).vw C) β' w' x d := by
  have ht := hs.hh.turn (U' := Un U nid) (V' := (s.upd nid (.mv old o)).vw C) (β' := β') (w' := w') nid old hn (fun _ => Iff.rfl) (fun i hi => hs.hh.used (vw_alive (hold i hi))) hother hos htape hout hsz hβ hβo hnew
    (fun j hj => vw_turn (fun i hi => hs.apart (hold i hi)) j hj) (fun o' ho' hrel => by rw [vw_new] at ho'; cases ho'; exact hobj hrel)
  refine ⟨hs.carry rfl (fun id o' hy => ?_) ht, ht.2.1⟩
  have h1 := hs.yd id o' hy
  have hu : id ≠ nid := fun e => hn (e ▸ hs.hh.used (by unfold DS.vw vwF; rw [h1]; simp [hy]))
  rw [DS.ho_upd]
  simp only [Upd.app]
  rw [setH_other _ _ hu]
  cases old with
  | none => exact h1
  | some i =>
    simp only [strikeO]
    by_cases hij : id = i
    · subst hij; simp
    · rw [setH_other _ _ hij]; exact h1

/-- A new own row, in a block that was not there. -/
theorem HoldsB.fresh {C : Ctx} {U : Nat → Prop} {s : DS} {β : Nat → Option Nat} {a : Act} {w w' : World} {nid : Nat} (hs : HoldsB C U s β a w) (hn : ¬ U nid) (T : TypeId) (c : Array Value) (cs : List DV) (b : Nat)
    (hk : Below w.heap.size w w') (hb : w.heap.size ≤ b) (hc : w'.heap[b]? = some (.cells c T (0, 0))) (hl : cs.length ≤ c.size) (hx : isArr C.P T = true → c.size = cs.length)
    (hr : ∀ (j : Nat) (u : Value) (d : DV), c[j]? = some u → cs[j]? = some d → WV C U (s.vw C) β w u d ∧ u.oneCell' = true) :
    HoldsB C (Un U nid) (s.upd nid (.lay (.row T cs))) (upd β nid (some b)) a w' := by
  have hbl : b < w'.heap.size := by
    rcases Nat.lt_or_ge b w'.heap.size with h | h
    · exact h
    · rw [Array.getElem?_eq_none h] at hc; cases hc
  refine (hs.turned (β' := upd β nid (some b)) hn none (fun _ h => by cases h) _ (fun b' hb' _ => hk.block b' hb') hk.os hk.tape hk.output hk.size (fun j hj _ => upd_other β _ hj) (fun _ h => by cases h) (fun b' hb' => ?_) fun hrel => ?_).1
  · rw [upd_same] at hb'
    cases hb'
    exact ⟨.inr hb, hbl⟩
  · exact .inr ⟨b, c, by simp, hc, hl, hx, fun j u d hu hd => ⟨hrel _ _ (hr j u d hu hd).1, (hr j u d hu hd).2⟩⟩

/-- What was just laid is there. -/
theorem wv_new {C : Ctx} {U : Nat → Prop} {V : Nat → Option DObj} {β : Nat → Option Nat} {w : World} {nid : Nat} {x : Value} {d : DV} (hr : Rel C.P w (alw C w β) β x d) (hd : d.refs = [nid]) : WV C (Un U nid) V β w x d :=
  ⟨fun id hi => by rw [hd] at hi; exact .inr (by simpa using hi), fun _ => hr, TP.of_rel hr⟩

theorem wv_agg {C : Ctx} {U : Nat → Prop} {V : Nat → Option DObj} {β : Nat → Option Nat} {w : World} {us : List Value} {cs : List DV} (hl : us.length = cs.length) (ho : ∀ u ∈ us, u.oneCell' = true)
    (hr : ∀ (j : Nat) (u : Value) (d : DV), us[j]? = some u → cs[j]? = some d → WV C U V β w u d) : WV C U V β w (.agg us.toArray) (.agg cs) := by
  refine ⟨fun id hi => ?_, fun ha => .agg us cs hl ho fun j u d hu hd => (hr j u d hu hd).2.1 fun id hi => ha id (by rw [DV.refs]; exact DV.refsL_mem (List.mem_of_getElem? hd) hi), TP.nt fun _ h => by cases h⟩
  rw [DV.refs] at hi
  obtain ⟨d, hd, hi⟩ := DV.mem_refsL hi
  obtain ⟨j, hj, rfl⟩ := List.mem_iff_getElem.1 hd
  exact (hr j us[j] _ (List.getElem?_eq_getElem (by omega)) (List.getElem?_eq_getElem hj)).1 id hi

section ops
variable {C : Ctx} {U : Nat → Prop} {s : DS} {β : Nat → Option Nat} {a : Act} {w : World} {o : Oper} {d : DV} {s' : DS} {nid : Nat}

theorem zeroL_ok {P : Program} {t : TypeId} {z : List Value} (h : zeroL P t = some z) : ∃ i v, P.info? t = some i ∧ i.zero = some v ∧ v.cells.toList = z ∧ ∀ u ∈ z, u.oneCell' = true := by
  unfold zeroL at h
  obtain ⟨v, hv, h⟩ := Option.bind_eq_some_iff.1 h
  obtain ⟨i, hi, hv⟩ := Option.bind_eq_some_iff.1 hv
  split at h
  · rename_i hall
    cases h
    exact ⟨i, v, hi, hv, rfl, fun u hu => List.all_eq_true.1 hall u hu⟩
  · cases h

theorem rel_plain {V : Nat → Option DObj} {z : List Value} (h1 : ∀ u ∈ z, u.oneCell' = true) (j : Nat) (u : Value) (d : DV) (hu : z[j]? = some u) (hd : (z.map DV.v)[j]? = some d) : WV C U V β w u d ∧ u.oneCell' = true := by
  simp only [List.getElem?_map, hu, Option.map_some, Option.some.injEq] at hd
  subst hd
  exact ⟨WV.v u, h1 u (List.mem_of_getElem? hu)⟩

theorem ok_al {T : TypeId} {z : List Value} (ho : o.op = .alloc T) (hz : zeroL C.P T = some z) (hs : HoldsB C U s β a w) (hn : ¬ U nid) : OpOk C (Un U nid) a w o (.pt nid 0) (s.upd nid (.lay (.row T (z.map .v)))) := by
  obtain ⟨i, v, hi, hv, rfl, h1⟩ := zeroL_ok hz
  have hf := hs.fresh hn T v.cells (v.cells.toList.map .v) w.heap.size (below_alloc w (.cells v.cells T)) (Nat.le_refl _) (heap_alloc_new w _) (by simp) (fun _ => by simp)
    (fun j u d hu hd => rel_plain h1 j u d (by simpa using hu) hd)
  refine ⟨.value (.pointer (some ⟨w.heap.size, 0, none⟩)), _, _, _, ?_, .inl rfl, hf, wv_new (.pt nid 0 _ (by simp)) rfl⟩
  simp [execOp, ho, Instr.alloc, zeroValue, typeInfo, hi, hv, newVar, newRow]

theorem ok_bx {T : TypeId} {x : Operand} (ho : o.op = .box T x) (hs : HoldsB C U s β a w) (hn : ¬ U nid) (hx : (s.ev x).okC = true) : OpOk C (Un U nid) a w o (.pt nid 0) (s.upd nid (.lay (.row T (s.ev x).cells))) := by
  obtain ⟨hl, h1, hr⟩ := hs.cells x hx
  have hf := hs.fresh hn T (a.eval x).cells (s.ev x).cells w.heap.size (below_alloc w (.cells (a.eval x).cells T)) (Nat.le_refl _) (heap_alloc_new w _) (by omega) (fun _ => hl)
    (fun j u d hu hd => ⟨hr j u d hu hd, h1 u (by simpa using Array.mem_of_getElem? hu)⟩)
  refine ⟨.value (.pointer (some ⟨w.heap.size, 0, none⟩)), _, _, _, ?_, .inl rfl, hf, wv_new (.pt nid 0 _ (by simp)) rfl⟩
  simp [execOp, ho, Instr.box, newVar, newRow]

/-- Filling the parts in. -/
theorem foldl_fill (xs : List Value) : ∀ (off i : Nat) (cells : Array Value), off + i + xs.length ≤ cells.size →
    ((xs.zipIdx i).foldl (fun cs (c, j) => cs.setIfInBounds (off + j) c) cells).toList = cells.toList.take (off + i) ++ xs ++ cells.toList.drop (off + i + xs.length) := by
  induction xs with
  | nil => intro off i cells _; simp
  | cons x xs ih =>
    intro off i cells h
    simp only [List.zipIdx_cons, List.foldl_cons]
    rw [ih off (i + 1) _ (by simp at h ⊢; omega)]
    have hlt : off + i < cells.toList.length := by simp at h ⊢; omega
    simp only [Array.toList_setIfInBounds, List.length_cons]
    rw [show off + (i + 1) = off + i + 1 by omega, List.take_succ_eq_append_getElem (by simpa using hlt), List.take_set_of_le (by omega), List.drop_set_of_lt (by omega)]
    simp [Nat.add_assoc, Nat.add_comm 1]

theorem fill_ok {W : Value → DV → Prop} (place : Nat → Option (Nat × Nat)) (ρ : Operand → Value) (η : Operand → DV) (hρ : ∀ x, (η x).okC = true → (ρ x).cells.size = (η x).cells.length ∧ (∀ u ∈ (ρ x).cells.toList, u.oneCell' = true) ∧ ∀ (j : Nat) (u : Value) (e : DV), (ρ x).cells[j]? = some u → (η x).cells[j]? = some e → W u e) :
    ∀ (ps : List (Nat × Operand)) (qs : List (Nat × Nat × Operand)) (cells : Array Value) (cs : List DV) (cs' : List DV),
      qs.length = ps.length → (∀ (j : Nat) (p : Nat × Operand) (q : Nat × Nat × Operand), ps[j]? = some p → qs[j]? = some q → place p.1 = some (q.1, q.2.1) ∧ p.2 = q.2.2) →
      cells.size = cs.length → (∀ u ∈ cells.toList, u.oneCell' = true) → (∀ (j : Nat) (u : Value) (d : DV), cells[j]? = some u → cs[j]? = some d → W u d) →
      fillD cs (qs.map fun q => (q.1, q.2.1, η q.2.2)) = some cs' →
      ∃ cells', Instr.fill place cells (ps.map fun p => (p.1, ρ p.2)) = some cells' ∧ cells'.size = cs'.length ∧ cs'.length = cs.length ∧ (∀ u ∈ cells'.toList, u.oneCell' = true) ∧
        ∀ (j : Nat) (u : Value) (d : DV), cells'[j]? = some u → cs'[j]? = some d → W u d
  | [], [], cells, cs, cs', _, _, hl, h1, hr, h => by
    simp [fillD] at h
    subst h
    exact ⟨cells, by simp [Instr.fill], hl, rfl, h1, hr⟩
  | p :: ps, q :: qs, cells, cs, cs', hlen, hpq, hl, h1, hr, h => by
    obtain ⟨hp, hop⟩ := hpq 0 p q rfl rfl
    simp only [List.map_cons, fillD] at h
    split at h
    rotate_left
    · cases h
    rename_i hc
    obtain ⟨hok, hsz, hfit⟩ := hc
    obtain ⟨g1, g2, g3⟩ := hρ q.2.2 hok
    have hfold := foldl_fill (ρ q.2.2).cells.toList q.1 0 cells (by simp; omega)
    simp only [Nat.add_zero] at hfold
    have key := fill_ok (W := W) place ρ η hρ ps qs ((ρ q.2.2).cells.toList.zipIdx.foldl (fun cs (c, j) => cs.setIfInBounds (q.1 + j) c) cells) (cs.take q.1 ++ (η q.2.2).cells ++ cs.drop (q.1 + q.2.1)) cs'
      (by simpa using hlen) (fun j p' q' h1 h2 => hpq (j + 1) p' q' (by simpa using h1) (by simpa using h2)) ?_ ?_ ?_ h
    · obtain ⟨cells', k1, k2, k3, k4, k5⟩ := key
      refine ⟨cells', ?_, k2, ?_, k4, k5⟩
      · simp only [List.map_cons, Instr.fill, hp, hop]
        rw [if_neg (by simp; omega), ← k1]
        congr 1
        rw [← Array.foldl_toList]
        simp
      · rw [k3]; simp; omega
    · rw [← Array.length_toList, hfold]; simp; omega
    · rw [hfold]
      intro u hu
      simp only [List.mem_append] at hu
      rcases hu with (hu | hu) | hu
      · exact h1 u (List.mem_of_mem_take hu)
      · exact g2 u hu
      · exact h1 u (List.mem_of_mem_drop hu)
    · intro j u d hu hd
      have hu' : (cells.toList.take q.1 ++ (ρ q.2.2).cells.toList ++ cells.toList.drop (q.1 + (ρ q.2.2).cells.toList.length))[j]? = some u := by
        rw [← hfold]; simpa using hu
      have hgs : (ρ q.2.2).cells.toList.length = q.2.1 := by simp; omega
      rw [hgs] at hu'
      rw [List.append_assoc, List.getElem?_append] at hu' hd
      simp only [List.length_take, Array.length_toList, hl] at hu' hd
      by_cases hj : j < min q.1 cs.length
      · rw [if_pos hj] at hu' hd
        rw [List.getElem?_take_of_lt (by omega)] at hu' hd
        exact hr j u d (by simpa using hu') hd
      · rw [if_neg hj] at hu' hd
        rw [List.getElem?_append] at hu' hd
        rw [hgs] at hu'
        rw [hsz] at hd
        by_cases hj2 : j - min q.1 cs.length < q.2.1
        · rw [if_pos hj2] at hu' hd
          exact g3 _ u d (by simpa using hu') hd
        · rw [if_neg hj2] at hu' hd
          rw [List.getElem?_drop] at hu' hd
          exact hr _ u d (by simpa using hu') hd
  | [], _ :: _, _, _, _, h, _, _, _, _, _ => by simp at h
  | _ :: _, [], _, _, _, h, _, _, _, _, _ => by simp at h


theorem mapM_some {α β : Type} {f : α → Option β} : ∀ {l : List α} {r : List β}, l.mapM f = some r → r.length = l.length ∧ ∀ (j : Nat) (x : α) (y : β), l[j]? = some x → r[j]? = some y → f x = some y
  | [], r, h => by simp at h; subst h; simp
  | x :: l, r, h => by
    simp only [List.mapM_cons, Option.bind_eq_bind, Option.bind_eq_some_iff, Option.pure_def] at h
    obtain ⟨y, hy, t, ht, h⟩ := h
    cases h
    obtain ⟨h1, h2⟩ := mapM_some ht
    refine ⟨by simp [h1], fun j u v hu hv => ?_⟩
    cases j with
    | zero => simp at hu hv; subst hu hv; exact hy
    | succ j => exact h2 j u v (by simpa using hu) (by simpa using hv)

theorem run_placesM {P : Program} : ∀ (fs : List Field), (∀ f ∈ fs, P.cellsOf f.type ≠ 0) → ∀ (w : World), (fs.mapM (fun f => do pure (f.offset, ← sizeOf f.type) : Field → Sem (Nat × Nat))).run P w = .ok (fs.map fun f => (f.offset, P.cellsOf f.type)) w
  | [], _, w => by simp
  | f :: fs, h, w => by
    have ih := run_placesM fs (fun g hg => h g (by simp [hg])) w
    simp only [List.mapM_cons, Sem.run_bind, run_sizeOf_pos (h f (by simp)), Result.andThen_ok, Sem.run_pure, List.map_cons]
    rw [ih]
    rfl

theorem ok_bld {t : TypeId} {ps : Array (Nat × Operand)} {fs : Array Field} {z : List Value} {l : List (Nat × Nat × Operand)} {cs : List DV} (ho : o.op = .build t ps) (ht : C.P.underlying t = some (.struct fs)) (hz : zeroL C.P t = some z)
    (hpos : ∀ f ∈ fs.toList, C.P.cellsOf f.type ≠ 0)
    (hl : ps.toList.mapM (fun p => (fs[p.1]?).map fun f => (f.offset, C.P.cellsOf f.type, p.2)) = some l) (hs : HoldsB C U s β a w)
    (hf : fillD (z.map .v) (l.map fun p => (p.1, p.2.1, s.ev p.2.2)) = some cs) : OpOk C U a w o (.agg cs) s := by
  obtain ⟨i, v, hi, hv, rfl, h1⟩ := zeroL_ok hz
  obtain ⟨m1, m2⟩ := mapM_some hl
  obtain ⟨cells', k1, k2, k3, k4, k5⟩ := fill_ok (W := WV C U (s.vw C) β w) ((fs.toList.map fun f => (f.offset, C.P.cellsOf f.type))[·]?) a.eval s.ev (fun x hx => hs.cells x hx) ps.toList l v.cells (v.cells.toList.map .v) cs m1
    (fun j p q hp hq => by
      have := m2 j p q hp hq
      obtain ⟨f, hf, rfl⟩ := Option.map_eq_some_iff.1 this
      simp [hf])
    (by simp) h1 (fun j u d hu hd => (rel_plain h1 j u d (by simpa using hu) hd).1) hf
  have hrun : (fs.mapM (fun f => do pure (f.offset, ← sizeOf f.type) : Field → Sem (Nat × Nat))).run C.P w = .ok (fs.toList.map fun f => (f.offset, C.P.cellsOf f.type)).toArray w := by
    rw [Array.mapM_eq_mapM_toList]
    simp only [Sem.run_map, run_placesM fs.toList hpos w, Result.andThen_ok]
  refine .same hs (x := .agg cells'.toList.toArray) ?_ (wv_agg (by simpa using k2) k4 fun j u d hu hd => k5 j u d (by simpa using hu) hd)
  have k1' : Instr.fill ((fs.toList.map fun f => (f.offset, C.P.cellsOf f.type)).toArray[·]?) v.cells (ps.map fun p => (p.1, a.eval p.2)).toList = some cells' := by
    rw [← k1]
    congr 1
    · funext j; simp
    · simp
  simp only [execOp, ho, Instr.build, Sem.run_bind, zeroValue, typeInfo, run_program, Result.andThen_ok, hi, hv, Sem.run_pure, run_underlying ht, hrun]
  simp only [k1']
  simp

theorem getElem?_flatten_replicate {α : Type} (z : List α) : ∀ (n j : Nat), ((List.replicate n z).flatten)[j]? = if j < n * z.length then z[j % z.length]? else none
  | 0, j => by simp
  | n + 1, j => by
    rw [List.replicate_succ, List.flatten_cons, List.getElem?_append, getElem?_flatten_replicate z n]
    by_cases hj : j < z.length
    · have h1 : j < (n + 1) * z.length := by rw [Nat.add_mul]; omega
      rw [if_pos hj, if_pos h1, Nat.mod_eq_of_lt hj]
    · rw [if_neg hj]
      have hm : (j - z.length) % z.length = j % z.length := by
        conv => rhs; rw [show j = (j - z.length) + z.length by omega]
        rw [Nat.add_mod_right]
      have h2 : (j - z.length < n * z.length) ↔ (j < (n + 1) * z.length) := by rw [Nat.add_mul]; omega
      rw [hm]
      simp only [h2]

theorem made_toList (z : Array Value) (n : Nat) (h : 0 < z.size) : ((Array.range (n * z.size)).map (z[· % z.size]!)).toList = (List.replicate n z.toList).flatten := by
  apply List.ext_getElem?
  intro j
  rw [getElem?_flatten_replicate]
  simp only [Array.length_toList]
  by_cases hj : j < n * z.size
  · have hlt : j % z.size < z.size := Nat.mod_lt _ h
    simp [hj, hlt]
  · simp [hj]

theorem mem_flatten_replicate {z : List Value} (h1 : ∀ u ∈ z, u.oneCell' = true) (n : Nat) : ∀ u ∈ (List.replicate n z).flatten, u.oneCell' = true := by
  intro u hu
  simp only [List.mem_flatten] at hu
  obtain ⟨l, hl, hu⟩ := hu
  rw [List.mem_replicate] at hl
  exact h1 u (hl.2 ▸ hu)

theorem map_flatten_replicate (z : List Value) (n : Nat) : (List.replicate n (z.map DV.v)).flatten = ((List.replicate n z).flatten).map DV.v := by
  rw [List.map_flatten, List.map_replicate]

theorem ok_bsl {t e : TypeId} (hna : isArr C.P e = false) {n : Nat} {ps : Array (Nat × Operand)} {z : List Value} {cs : List DV} (ho : o.op = .buildSlice t n ps) (ht : C.P.underlying t = some (.slice e)) (hz : zeroL C.P e = some z)
    (hn : n * C.P.cellsOf e ≤ 65536) (he : 0 < C.P.cellsOf e) (hzl : z.length = C.P.cellsOf e) (hs : HoldsB C U s β a w) (hnew : ¬ U nid)
    (hf : fillD ((List.replicate n (z.map .v)).flatten) ((ps.toList.map fun p => (p.1 * C.P.cellsOf e, C.P.cellsOf e, p.2)).map fun p => (p.1, p.2.1, s.ev p.2.2)) = some cs) :
    OpOk C (Un U nid) a w o (.ms nid 0 n (C.P.cellsOf e)) (s.upd nid (.lay (.row e cs))) := by
  obtain ⟨i, v, hi, hv, rfl, h1⟩ := zeroL_ok hz
  have hsz : C.P.cellsOf e = i.size := by simp [Program.cellsOf, hi]
  simp only [hsz] at hn he hzl hf
  have hvs : v.cells.size = i.size := by simpa using hzl
  have hinit : ((Array.range (n * i.size)).map (v.cells[· % v.cells.size]!)).toList = (List.replicate n v.cells.toList).flatten := by
    rw [← hvs]; exact made_toList v.cells n (by omega)
  have hlenI : ((List.replicate n v.cells.toList).flatten).length = n * i.size := by rw [← hinit]; simp
  obtain ⟨cells', k1, k2, k3, k4, k5⟩ := fill_ok (W := WV C U (s.vw C) β w) (fun j => some (j * i.size, i.size)) a.eval s.ev (fun x hx => hs.cells x hx) ps.toList (ps.toList.map fun p => (p.1 * i.size, i.size, p.2))
    ((Array.range (n * i.size)).map (v.cells[· % v.cells.size]!)) ((List.replicate n (v.cells.toList.map .v)).flatten) cs (by simp)
    (fun j p q hp hq => by
      simp only [List.getElem?_map, hp, Option.map_some, Option.some.injEq] at hq
      subst hq
      exact ⟨rfl, rfl⟩)
    (by rw [map_flatten_replicate, List.length_map, hlenI]; simp)
    (by rw [hinit]; exact mem_flatten_replicate h1 n)
    (fun j u d hu hd => (rel_plain (mem_flatten_replicate h1 n) j u d (by rw [← hinit, Array.getElem?_toList]; exact hu) (by rw [← map_flatten_replicate]; exact hd)).1) hf
  have hcl : cs.length = n * i.size := by rw [k3, map_flatten_replicate, List.length_map, hlenI]
  have hfr := hs.fresh hnew e cells' cs w.heap.size (below_alloc w (.cells cells' e)) (Nat.le_refl _) (heap_alloc_new w _) (by omega) (fun h => by rw [hna] at h; cases h)
    (fun j u d hu hd => ⟨k5 j u d hu hd, k4 u (by simpa using Array.mem_of_getElem? hu)⟩)
  refine ⟨.value (.slice (some ⟨w.heap.size, 0, none⟩) n n), _, _, _, ?_, .inl rfl, hfr, wv_new (.ms nid 0 n _ w.heap.size n cells' e (by simp) (heap_alloc_new w _) (Nat.le_refl _) ?_ ?_) rfl⟩
  · have k1' : Instr.fill (fun j => some (j * i.size, i.size)) ((Array.range (n * i.size)).map (v.cells[· % v.cells.size]!)) (ps.map fun p => (p.1, a.eval p.2)).toList = some cells' := by
      rw [← k1]; congr 1; simp
    have hsmall : ¬ (2 : Nat) ^ 24 < n * i.size := by omega
    by_cases hz0 : n * i.size = 0
    · have hn0 : n = 0 := by
        rcases Nat.mul_eq_zero.1 hz0 with h | h
        · exact h
        · omega
      subst hn0
      have hr0 : Array.range 0 = #[] := rfl
      have k2' : Instr.fill (fun j => some (j * i.size, i.size)) #[] (List.map (fun x => (x.fst, a.eval x.snd)) ps.toList) = some cells' := by
        rw [← k1, Nat.zero_mul, hr0]; simp
      simp [execOp, ho, Instr.buildSlice, run_underlying ht, sizeOf, typeInfo, hi, hr0, k2', newRow]
    · simp only [execOp, ho, Instr.buildSlice, Sem.run_bind, run_underlying ht, Result.andThen_ok, sizeOf, typeInfo, zeroValue, run_program, hi, hv, Sem.run_pure, gt_iff_lt, hsmall, if_false, Sem.run_ite, hz0]
      simp only [k1', newRow]
      simp
  · have hne : n ≤ n * i.size := Nat.le_mul_of_pos_right n he
    simp only [maxLen]; omega
  · rw [hsz]; omega


theorem vw_write {C : Ctx} {s : DS} {nid id : Nat} {o : DObj} (j : Nat) (hj : j ≠ id) : (s.upd nid (.wr id o)).vw C j = s.vw C j := by
  unfold DS.vw vwF
  rw [DS.ho_upd]
  simp only [Upd.app]
  rw [setH_other _ _ hj]
theorem vw_wrote {C : Ctx} {s : DS} {nid id : Nat} {o : DObj} : (s.upd nid (.wr id o)).vw C id = some o := by simp [DS.vw, vwF, DS.ho_upd, Upd.app]

/-- An own object is written. -/
theorem HoldsB.wrote (hs : HoldsB C U s β a w) {w' : World} (nid id b : Nat) (o : DObj) (hb : β id = some b) (hid : (s.ho id).isSome = true)
    (hother : ∀ b', b' ≠ b → w'.heap[b']? = w.heap[b']?)
    (hsz : w'.heap.size = w.heap.size) (hos : w'.os = w.os) (htape : w'.tape = w.tape) (hout : w'.output = w.output)
    (hshape : SameShape w w' b)
    (hobj : (∀ x d, WV C U (s.vw C) β w x d → WV C U ((s.upd nid (.wr id o)).vw C) β w' x d) → RelO C U ((s.upd nid (.wr id o)).vw C) β w' id o) :
    HoldsB C U (s.upd nid (.wr id o)) β a w' ∧ ∀ x d, WV C U (s.vw C) β w x d → WV C U ((s.upd nid (.wr id o)).vw C) β w' x d := by
  have h := hs.hh.write (V' := (s.upd nid (.wr id o)).vw C) (w' := w') id b hb (vw_alive hid) hother hsz hos htape hout hshape (fun j hj => vw_write j hj) (by rw [vw_wrote]; rfl)
    (fun o' ho' hrel => by rw [vw_wrote] at ho'; cases ho'; exact hobj hrel)
  refine ⟨hs.carry rfl (fun j o' hy => ?_) h, h.2.1⟩
  have h1 := hs.yd j o' hy
  rw [DS.ho_upd]
  simp only [Upd.app]
  rw [setH_other _ _ (fun e => by rw [← e, h1] at hid; cases hid)]
  exact h1

theorem ok_st {t T : TypeId} {k : Option Nat} {x y : Operand} {id off n : Nat} {cs : List DV} (ho : o.op = .store t x y) (hk : tkind C.P t = some k) (hkn : n = k.getD 1) (hs : HoldsB C U s β a w) (hx : s.ev x = .pt id off)
    (hid : s.ho id = some (.row T cs)) (hok : (s.ev y).okC = true) (hlen : (s.ev y).cells.length = n) (hfit : off + n ≤ cs.length) :
    OpOk C U a w o .any (s.upd nid (.wr id (.row T (cs.take off ++ (s.ev y).cells ++ cs.drop (off + n))))) := by
  have h1 := hs.ev x
  rw [hx] at h1
  obtain ⟨b, e1, hb⟩ := rel_pt h1
  obtain ⟨c, hw, hl, hex, hr⟩ := hs.row hb hid
  obtain ⟨g1, g2, g3⟩ := hs.cells y hok
  have hst := run_storeCells_at C.P b off T (a.eval y).cells.toList 0 c w hw (by simp; omega) g2
  simp only [Nat.add_zero] at hst
  have hsz : (sizeOf t).run C.P w = .ok n w := by
    cases k with
    | none => rw [hkn]; exact (run_tkind_one hk w).2.1
    | some m => rw [hkn]; exact (run_tkind_agg hk w).2.1
  have hwr : HoldsB C U (s.upd nid (.wr id (.row T (cs.take off ++ (s.ev y).cells ++ cs.drop (off + n))))) β a (w.setRow b (c.toList.take off ++ (a.eval y).cells.toList ++ c.toList.drop (off + (a.eval y).cells.toList.length)).toArray) := by
    refine (hs.wrote nid id b _ hb (by rw [hid]; rfl) (fun b' hb' => setRow_other w b b' _ hb') (by simp) rfl rfl rfl ?_ fun hrel => ?_).1
    · intro c' T' hc'
      rw [hw] at hc'
      cases hc'
      refine ⟨_, setRow_heap w b c _ T _ hw, ?_⟩
      simp; omega
    · refine .inr ⟨b, _, hb, setRow_heap w b c _ T _ hw, by simp; omega, fun h => (by have := hex h; simp; omega), fun j u d hu hd => ?_⟩
      have hgs : (a.eval y).cells.toList.length = n := by simp; omega
      have hu' : (c.toList.take off ++ (a.eval y).cells.toList ++ c.toList.drop (off + n))[j]? = some u := by rw [← hgs]; simpa using hu
      rw [List.append_assoc, List.getElem?_append] at hu' hd
      simp only [List.length_take, Array.length_toList] at hu' hd
      rw [show min off c.size = off by omega] at hu'
      rw [show min off cs.length = off by omega] at hd
      by_cases hj : j < off
      · rw [if_pos hj] at hu' hd
        rw [List.getElem?_take_of_lt hj] at hu' hd
        have := hr j u d (by simpa using hu') hd
        exact ⟨hrel _ _ this.1, this.2⟩
      · rw [if_neg hj] at hu' hd
        rw [List.getElem?_append] at hu' hd
        rw [hgs] at hu'
        rw [hlen] at hd
        by_cases hj2 : j - off < n
        · rw [if_pos hj2] at hu' hd
          exact ⟨hrel _ _ (g3 _ u d (by simpa using hu') hd), g2 u (List.mem_of_getElem? hu')⟩
        · rw [if_neg hj2] at hu' hd
          rw [List.getElem?_drop] at hu' hd
          have := hr _ u d (by simpa using hu') hd
          exact ⟨hrel _ _ this.1, this.2⟩
  refine ⟨.skip, _, β, undef, ?_, .inr ⟨rfl, rfl⟩, hwr, WV.any⟩
  have hcs : (a.eval y).cells.size = n := by omega
  simp [execOp, ho, e1, Instr.storeAt, Instr.sureAddr, storeVar, hsz, hcs, hst]

theorem ok_mks {t e : TypeId} (hna : isArr C.P e = false) {x y : Operand} {z : List Value} {l c : Int} (ho : o.op = .makeSlice t x y) (ht : C.P.underlying t = some (.slice e)) (hz : zeroL C.P e = some z)
    (hzl : z.length = C.P.cellsOf e) (he : 0 < C.P.cellsOf e) (hby : C.P.bytesOf e ≤ 65536) (hs : HoldsB C U s β a w) (hnew : ¬ U nid) (hx : intD (s.ev x) = some l) (hy : intD (s.ev y) = some c) (h0 : 0 ≤ l) (hlc : l ≤ c) (hc : c ≤ 2147483648) :
    OpOk C (Un U nid) a w o (.ms nid 0 l.toNat (C.P.cellsOf e)) (s.upd nid (.lay (.row e ((List.replicate l.toNat (z.map .v)).flatten)))) := by
  obtain ⟨i, v, hi, hv, rfl, h1⟩ := zeroL_ok hz
  obtain ⟨kl, hkl⟩ := intD_ok (hs.ev x) hx
  obtain ⟨kc, hkc⟩ := intD_ok (hs.ev y) hy
  have hsz : C.P.cellsOf e = i.size := by simp [Program.cellsOf, hi]
  have hbs : C.P.bytesOf e = i.bytes := by simp [Program.bytesOf, hi]
  simp only [hsz] at he hzl
  rw [hbs] at hby
  have hvs : v.cells.size = i.size := by simpa using hzl
  have hrun := run_make (P := C.P) w t e i v ht hi hv kl kc l c h0 hlc (by
    have h2 : (i.bytes : Int) * c ≤ 65536 * 2147483648 := Int.mul_le_mul (by omega) hc (by omega) (by omega)
    omega) (by omega)
  have hinit : (madeCells v.cells (c.toNat * i.size)).toList = (List.replicate c.toNat v.cells.toList).flatten := by
    rw [← hvs]; exact made_toList v.cells c.toNat (by omega)
  have hlenC : (madeCells v.cells (c.toNat * i.size)).size = c.toNat * i.size := size_madeCells _ _
  have hpre : (List.replicate l.toNat v.cells.toList).flatten = ((List.replicate c.toNat v.cells.toList).flatten).take (l.toNat * i.size) := by
    apply List.ext_getElem?
    intro j
    rw [List.getElem?_take, getElem?_flatten_replicate, getElem?_flatten_replicate]
    simp only [Array.length_toList, hvs]
    by_cases hj : j < l.toNat * i.size
    · have : j < c.toNat * i.size := Nat.lt_of_lt_of_le hj (Nat.mul_le_mul_right _ (by omega))
      simp [hj, this]
    · simp [hj]
  have hll : ((List.replicate l.toNat v.cells.toList).flatten).length = l.toNat * i.size := by
    rw [hpre, List.length_take, ← hinit, Array.length_toList, hlenC]
    exact Nat.min_eq_left (Nat.mul_le_mul_right _ (by omega))
  have hfr := hs.fresh hnew e (madeCells v.cells (c.toNat * i.size)) ((List.replicate l.toNat (v.cells.toList.map .v)).flatten) w.heap.size (below_alloc w (.cells (madeCells v.cells (c.toNat * i.size)) e)) (Nat.le_refl _) (heap_alloc_new w _)
    (by rw [map_flatten_replicate, List.length_map, hll, hlenC]; exact Nat.mul_le_mul_right _ (by omega)) (fun h => by rw [hna] at h; cases h)
    (fun j u d hu hd => by
      rw [map_flatten_replicate] at hd
      have hjl : j < l.toNat * i.size := by
        have := (List.getElem?_eq_some_iff.1 hd).1
        rwa [List.length_map, hll] at this
      refine rel_plain (mem_flatten_replicate h1 l.toNat) j u d ?_ hd
      rw [hpre, List.getElem?_take_of_lt hjl, ← hinit, Array.getElem?_toList]
      exact hu)
  refine ⟨.value (.slice (some ⟨w.heap.size, 0, none⟩) l.toNat c.toNat), _, _, _, ?_, .inl rfl, hfr, wv_new (.ms nid 0 _ _ w.heap.size _ _ e (by simp) (heap_alloc_new w _) (by omega) (by simp only [maxLen]; omega) ?_) rfl⟩
  · simp [execOp, ho, hkl, hkc, hrun]
  · rw [hlenC, hsz]; omega

end ops
end Go.DD
