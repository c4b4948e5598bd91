/- What a function's body starts from, and what holds at its end. -/
import Derived.Test.YtpaggdhijeabnaaGreatDoorHh
import Derived.Tactics
import Derived.OrdersIn
import Derived.OwnWalkIn
import Derived.RangeFuncNested
import Derived.RangeFuncLeaves
namespace Go.DD
open Go.RowKit (Below)

/-- A post over deep states, over the model's. -/
def liftQ (C : Ctx) (Q : Exit → DS → Prop) : Exit → Act → World → Prop := fun e a w => ∃ s, Q e s ∧ Holds C s a w

/-- Wherever it is: in a round of a range over a function, or not. -/
def Ctx.F (C : Ctx) : Fence := { Fence.wide with round := C.rd }
theorem Ctx.F_fn (C : Ctx) (f : FuncId) : C.F.fn f := trivial
theorem calls_in {C : Ctx} {f : FuncId} {args : Array Value} {w : World} {R : Ending → World → Prop} (h : Calls C.P f args w R) : CallsIn C.F 0 C.P f args w R := by
  have h1 : CallsIn Fence.wide 0 C.P f args w R := callsIn_wide.2 h
  cases hr : C.rd with
  | none =>
    have : C.F = Fence.wide := by unfold Ctx.F; rw [hr]; rfl
    rw [this]; exact h1
  | some l =>
    have : C.F = Fence.wide.inRound l := by unfold Ctx.F; rw [hr]; rfl
    rw [this]; exact CallsIn.inRound l h1
/-- A piece of code, from a deep state. -/
def DW (C : Ctx) (c : DC) (Q : Exit → DS → Prop) (s : DS) : Prop :=
  ∀ code, compC C.P C.nt code = some c → ∀ a w, Holds C s a w → code.wpIn C.F 0 C.P (liftQ C Q) a w

structure DF where
  code : DC
  res : List (Nat × Option (Option Nat))
  nt : Nat
  deriving Inhabited

def compRes (P : Program) : ResultVar → Option (Nat × Option (Option Nat))
  | .tmp t => some (t, none)
  | .cell a T => (tkind P T).map fun k => (a, some k)

def compFn (P : Program) (fn : Func) : Option DF :=
  match fn.body with
  | some b => match compC P fn.ntmps b, fn.results.toList.mapM (compRes P) with
    | some c, some r => some { code := c, res := r, nt := fn.ntmps }
    | _, _ => none
  | none => none

def resD (s : DS) : Nat × Option (Option Nat) → Option DV
  | (t, none) => some (s.ev (.tmp t))
  | (t, some k) => match s.ev (.tmp t) with
    | .pt id off => match s.ho id with
      | some (.row _ cs) => partD k (cs.drop off)
      | _ => none
    | _ => none
def resV (s : DS) (rs : List (Nat × Option (Option Nat))) : Option DV :=
  match rs.mapM (resD s) with
  | some [d] => some d
  | some ds => some (.tup ds)
  | none => none
/-- The slots of a function that is entered. -/
def argF (ds : List DV) (t : Nat) : DV := (ds[t]?).getD .any

theorem wv_tup {C : Ctx} {U : Nat → Prop} {V : Nat → Option DObj} {β : Nat → Option Nat} {w : World} {us : List Value} {cs : List DV} (hl : us.length = cs.length)
    (hr : ∀ (j : Nat) (u : Value) (d : DV), us[j]? = some u → cs[j]? = some d → WV C U V β w u d) : WV C U V β w (.tuple us.toArray) (.tup cs) := by
  refine ⟨fun id hi => ?_, fun ha => .tup us cs hl fun j u d hu hd => (hr j u d hu hd).2.1 fun id hi => ha id (by rw [DV.refs]; exact DV.refsL_mem (List.mem_of_getElem? hd) hi), TP.of_wv hl hr⟩
  rw [DV.refs] at hi
  obtain ⟨d, hd, hi⟩ := DV.mem_refsL hi
  obtain ⟨j, hj, rfl⟩ := List.mem_iff_getElem.1 hd
  exact (hr j us[j] _ (List.getElem?_eq_getElem (by omega)) (List.getElem?_eq_getElem hj)).1 id hi

section
variable {C : Ctx} {U : Nat → Prop} {s : DS} {β : Nat → Option Nat} {a : Act} {w : World}

theorem run_resOne (hs : HoldsB C U s β a w) {rv : ResultVar} {q : Nat × Option (Option Nat)} {d : DV} (hq : compRes C.P rv = some q) (hd : resD s q = some d) :
    ∃ x, (match rv with
      | .tmp t => (pure (a.tmps.getD t undef) : Sem Value)
      | .cell p t => do loadVar t (← asAddr (a.tmps.getD p undef))).run C.P w = .ok x w ∧ WV C U (s.vw C) β w x d := by
  cases rv with
  | tmp t =>
    simp [compRes] at hq
    subst hq
    simp only [resD, Option.some.injEq] at hd
    subst hd
    exact ⟨_, rfl, hs.evw (.tmp t)⟩
  | cell p T =>
    obtain ⟨k, hk, rfl⟩ := Option.map_eq_some_iff.1 hq
    simp only [resD] at hd
    split at hd
    · rename_i id off hp
      split at hd
      · rename_i T' cs hrow
        have h1 : Rel C.P w (alw C w β) β (a.tmps.getD p undef) (s.ev (.tmp p)) := hs.ev (.tmp p)
        rw [hp] at h1
        obtain ⟨b, e1, hb⟩ := rel_pt h1
        obtain ⟨c, hw, hl, _, hr⟩ := hs.row hb hrow
        obtain ⟨g1, g2⟩ := run_loadVar_list hk ⟨b, off, none⟩ (c.toList.drop off) (cell_row hw)
        obtain ⟨p1, p2⟩ := part_rel (C := C) (U := U) (V := s.vw C) (w := w) (β := β) (us := c.toList.drop off) (cs := cs.drop off) (by simp; omega)
          (fun j u hu hj => by
            have hj' : off + j < cs.length := by simp at hj; omega
            exact (hr (off + j) u _ (by simpa using hu) (List.getElem?_eq_getElem hj')).2)
          (fun j u d hu hd => (hr (off + j) u d (by simpa using hu) (by simpa using hd)).1) hd
        cases k with
        | none =>
          obtain ⟨u, hu, hrel⟩ := p1 rfl
          exact ⟨u, by simp only [Sem.run_bind, e1, asAddr, Sem.run_pure, Result.andThen_ok]; exact g1 rfl u hu, hrel⟩
        | some n =>
          obtain ⟨hn, hrel⟩ := p2 n rfl
          exact ⟨_, by simp only [Sem.run_bind, e1, asAddr, Sem.run_pure, Result.andThen_ok]; exact g2 n rfl hn, hrel⟩
      · cases hd
    · cases hd

theorem run_resM (hs : HoldsB C U s β a w) : ∀ (rvs : List ResultVar) (qs : List (Nat × Option (Option Nat))) (ds : List DV), rvs.mapM (compRes C.P) = some qs → qs.mapM (resD s) = some ds →
    ∃ vs : List Value, (rvs.mapM fun (rv : ResultVar) => (match rv with
      | .tmp t => (pure (a.tmps.getD t undef) : Sem Value)
      | .cell p t => do loadVar t (← asAddr (a.tmps.getD p undef)))).run C.P w = .ok vs w ∧ vs.length = ds.length ∧ ∀ (j : Nat) (v : Value) (d : DV), vs[j]? = some v → ds[j]? = some d → WV C U (s.vw C) β w v d
  | [], qs, ds, h1, h2 => by
    simp at h1; subst h1; simp at h2; subst h2
    exact ⟨[], by simp, rfl, by simp⟩
  | rv :: rvs, qs, ds, h1, h2 => by
    simp only [List.mapM_cons, Option.bind_eq_bind, Option.bind_eq_some_iff, Option.pure_def] at h1
    obtain ⟨q, hq, qt, hqt, h1⟩ := h1
    cases h1
    simp only [List.mapM_cons, Option.bind_eq_bind, Option.bind_eq_some_iff, Option.pure_def] at h2
    obtain ⟨d, hd, dt, hdt, h2⟩ := h2
    cases h2
    obtain ⟨x, hx, hrel⟩ := run_resOne hs hq hd
    obtain ⟨vs, hvs, hl, hr⟩ := run_resM hs rvs qt dt hqt hdt
    refine ⟨x :: vs, ?_, by simp [hl], fun j v e hv he => ?_⟩
    · simp only [List.mapM_cons, Sem.run_bind, hx, Result.andThen_ok, hvs, Sem.run_pure]
    · cases j with
      | zero => simp at hv he; subst hv he; exact hrel
      | succ j => exact hr j v e (by simpa using hv) (by simpa using he)

theorem run_results (hs : HoldsB C U s β a w) {fn : Func} {qs : List (Nat × Option (Option Nat))} {d : DV} (hq : fn.results.toList.mapM (compRes C.P) = some qs) (hd : resV s qs = some d) :
    ∃ x, (results fn a.tmps).run C.P w = .ok x w ∧ WV C U (s.vw C) β w x d := by
  unfold resV at hd
  cases hm : qs.mapM (resD s) with
  | none => rw [hm] at hd; cases hd
  | some ds =>
    rw [hm] at hd
    obtain ⟨vs, hvs, hl, hr⟩ := run_resM hs fn.results.toList qs ds hq hm
    have hrun : (results fn a.tmps).run C.P w = .ok (if h : vs.toArray.size = 1 then vs.toArray[0] else .tuple vs.toArray) w := by
      unfold results
      rw [Array.mapM_eq_mapM_toList]
      simp only [Sem.run_bind, Sem.run_map]
      erw [hvs]
      simp only [Result.andThen_ok, Sem.run_pure]
    refine ⟨_, hrun, ?_⟩
    clear hm hvs hrun
    match ds, hl, hd, hr with
    | [e], hl, hd, hr =>
      simp at hd
      subst hd
      match vs, hl with
      | [v], _ => exact hr 0 v e rfl rfl
    | [], hl, hd, hr =>
      simp at hd; subst hd
      rw [dif_neg (by simp at hl; simp [hl])]
      exact wv_tup hl hr
    | e :: e' :: es, hl, hd, hr =>
      simp at hd; subst hd
      rw [dif_neg (by simp; simp at hl; omega)]
      exact wv_tup hl hr

/-! A function's end: the marks of its ranges over functions are taken. -/
theorem HoldsB.shut {tmps : Array Value} {d : Deferred} {l : List Deferred} {D : Nat} (hs : HoldsB C U s β ⟨tmps, d :: l⟩ w) (hd : d = { target := .collected D, args := #[] })
    (hD : w.heap[D]? = some (.deferred (some []))) (h0 : C.w0.heap.size ≤ D) (hn : ∀ id, β id ≠ some D) : HoldsB C U s β ⟨tmps, l⟩ (w.putObj D (.deferred none)) := by
  have hDlt : D < w.heap.size := (Array.getElem?_eq_some_iff.1 hD).1
  have hoth : ∀ b, b ≠ D → (w.putObj D (.deferred none)).heap[b]? = w.heap[b]? := fun b hb => World.putObj_heap_other hb
  have hcell : ∀ (b : Nat), (∃ c T r, w.heap[b]? = some (Obj.cells c T r)) → (w.putObj D (.deferred none)).heap[b]? = w.heap[b]? := fun b ⟨c, T, r, hc⟩ => hoth b (fun e => by rw [e, hD] at hc; cases hc)
  have hown : ∀ id b, β id = some b → (w.putObj D (.deferred none)).heap[b]? = w.heap[b]? := fun id b hb => hoth b (fun e => hn id (e ▸ hb))
  have hrel : ∀ x d, WV C U (s.vw C) β w x d → WV C U (s.vw C) β (w.putObj D (.deferred none)) x d := fun x d ⟨g1, g2, g3⟩ =>
    ⟨g1, fun ha => (g2 ha).mono (fun b ⟨h1, h2, h3⟩ => ⟨⟨h1, by simpa using h2, h3⟩, hcell b⟩) fun id _ b hb => ⟨hb, SameShape.of_eq (hown id b hb)⟩, g3⟩
  have hbel := hs.hh.bel
  have hnd : d ∉ l.filter isColl ∧ (l.filter isColl).Nodup := by
    have := hs.df.nodup
    rw [List.filter_cons_of_pos (by rw [hd]; rfl)] at this
    exact List.nodup_cons.1 this
  refine ⟨⟨hs.hh.ok, ⟨hbel.os, hbel.tape, hbel.output, by simpa using hbel.size, fun k hk1 hk2 => (hoth k (by omega)).trans (hbel.block k hk1 hk2)⟩, fun id b hb => ⟨(hs.hh.bge id b hb).1, by simpa using hs.hh.lt hb⟩, hs.hh.inj, hs.hh.fr, fun id o ho => ?_⟩,
    ⟨hnd.2, fun d' hd' => ?_, fun D' hD' => ?_, fun D' hD' => hs.df.apart D' (by simp [hD'])⟩, hs.sz, fun t => hrel _ _ (hs.sl t), fun x d hx => hrel _ _ (hs.gh x d hx), hs.yd⟩
  · exact (hs.hh.hp id o ho).keep rfl (hown id) hrel
  · rcases hs.df.own d' (by simp [hd']) with ⟨D', e, h1, h2, h3⟩ | hq
    · refine .inl ⟨D', e, (hoth D' fun he => ?_).trans h1, h2, h3⟩
      subst he
      exact hnd.1 (List.mem_filter.2 ⟨by rw [hd, ← e]; exact hd', by rw [hd]; rfl⟩)
    · exact .inr hq
  · obtain ⟨D2, e, h1, h2, h3⟩ := hs.df.out D' hD'
    refine ⟨D2, e, (hoth D2 fun he => ?_).trans h1, h2, h3⟩
    subst he
    simp only [Deferred.mk.injEq, Target.collected.injEq, and_true] at e
    subst e
    exact hs.df.apart D' (by rw [hd]; simp) hD'

/-- What holds when a function has come to its end. -/
theorem ends_ok {fn : Func} {qs : List (Nat × Option (Option Nat))} {d : DV} {R : Ending → World → Prop} (hq : fn.results.toList.mapM (compRes C.P) = some qs) (hd : resV s qs = some d) (tmps : Array Value)
    (hR : ∀ v w', HoldsB C U s β ⟨tmps, []⟩ w' → WV C U (s.vw C) β w' v d → R (.returned v) w') : ∀ (l : List Deferred) (w : World), HoldsB C U s β ⟨tmps, l⟩ w → LeavesInM Fence.wide 0 C.P fn tmps R l .returning w
  | [], w, hs => by
    obtain ⟨x, hx, hr⟩ := run_results hs hq hd
    exact ⟨x, hx, hR x w hs hr⟩
  | d' :: l, w, hs => by
    rcases hs.df.own d' (by simp) with ⟨D, e, h1, h2, h3⟩ | ⟨g, caps, hqf, rfl⟩
    · exact ⟨by simp, .inl ⟨D, _, by rw [e], run_takeDeferred h1, ends_ok hq hd tmps hR l _ (hs.shut e h1 h2 h3)⟩⟩
    · obtain ⟨k1, k2⟩ := quiet_ok hqf caps w
      refine ⟨by simp, .inr ⟨fun h => by simp [Fence.wide] at h, .func g, caps, g, caps, rfl, k1, fun _ _ => trivial, k2.mono ?_⟩⟩
      rintro e u' w' ⟨rfl, ⟨v, rfl⟩, rfl⟩
      exact ends_ok hq hd tmps hR l _ ⟨hs.hh, hs.df.tail rfl, hs.sz, hs.sl, hs.gh, hs.yd⟩

/-- A body, as it is entered. -/
theorem enters_ok {ho : Nat → Option DObj} {nx : Nat} {args : List DV} {vs : List Value}
    (hh : HH C U (vwF C.Y ho) β w) (hX : ∀ x d, C.X x d ∨ GLV x d → WV C U (vwF C.Y ho) β w x d) (hy : ∀ id o, C.Y id = some o → ho id = none) (hM : ∀ D, C.M D → Mark C β w { target := .collected D, args := #[] }) (hn : args.length ≤ C.nt) (hl : vs.length = args.length)
    (hrel : ∀ (j : Nat) (v : Value) (d : DV), vs[j]? = some v → args[j]? = some d → WV C U (vwF C.Y ho) β w v d) :
    HoldsB C U ⟨argF args, ho, nx⟩ β { tmps := vs.toArray ++ Array.replicate (C.nt - vs.toArray.size) undef, defers := [] } w := by
  refine ⟨hh, ⟨List.nodup_nil, (fun d hd => by cases hd), hM, (fun D hd => by cases hd)⟩, by simp; omega, fun t => ?_, hX, hy⟩
  simp only [argF]
  cases hd : args[t]? with
  | none => exact WV.any
  | some d =>
    have htl : t < vs.length := by have := (List.getElem?_eq_some_iff.1 hd).1; omega
    have hv : (vs.toArray ++ Array.replicate (C.nt - vs.toArray.size) undef).getD t undef = vs[t] := by
      simp [Array.getElem?_append, htl]
    rw [hv]
    simp only [Option.getD_some]
    exact hrel t vs[t] d (List.getElem?_eq_getElem htl) hd
end

end Go.DD
