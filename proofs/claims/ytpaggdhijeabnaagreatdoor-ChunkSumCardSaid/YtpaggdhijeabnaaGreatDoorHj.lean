/- Regions in the text's order, and whole bodies. -/
import Derived.Test.YtpaggdhijeabnaaGreatDoorHq
namespace Go.DD
open Go.RowKit (Below)

def DS.wanted (s : DS) : Option (Nat × Bool) → Option Bool
  | none => some true
  | some (t, b) => match s.sv t with
    | .v (.bool c) => some (c == b)
    | .v (.tuple _) => some false
    | _ => none

/-- One operation that is wanted. -/
def stepR (P : Program) (r : DR) (s : DS) (K : DS → Prop) : Prop :=
  match r.op with
  | .call f args => callable P f = true ∧ callK P f (args.map s.rv) s fun s' d => K (s'.put r.dst d)
  | .cv tb x args => match (s.ev x).tgt tb with
    | some (f, fr, cs) => callable P f = true ∧ callK P f (fr ++ args.map s.rv ++ cs) s fun s' d => K (s'.put r.dst d)
    | none => match (s.ev x).tgY tb with
      | some i => roundK P i (args.map s.rv) s fun s' d => K (s'.put r.dst d)
      | none => False
  | .nxm k x => match nxmL s k x with
    | some l => ∀ p ∈ l, K ((s.upd s.nx p.2).put r.dst p.1)
    | none => False
  | op => match exec s op with
    | some (d, s') => K (s'.put r.dst d)
    | none => False

/-- The operations in the text's order. -/
def runOps (P : Program) : List DR → DS → (DS → Prop) → Prop
  | [], s, K => K s
  | r :: rest, s, K => match s.wanted r.g with
    | some true => stepR P r s fun s' => runOps P rest s' K
    | some false => runOps P rest (s.put r.dst (.v undef)) K
    | none => False

theorem compOp_defer {P : Program} {c : Call} : compOp P (.defer c) = none := rfl

theorem run_callFunc {P : Program} {f : FuncId} (h : callable P f = true) (vs : Array Value) (w : World) : (callFunc f vs).run P w = .ok (.enter f vs) w := by
  unfold callable at h
  split at h
  · rename_i fn hf
    simp only [Bool.and_eq_true, bne_iff_ne, ne_eq] at h
    obtain ⟨h1, h2⟩ := h
    have h5 : ¬ fn.body = none := by intro hb; rw [hb] at h1; cases h1
    simp [callFunc, hf, h2, h5]
  · cases h

theorem wanted_ok {dr : Bool} {C : Ctx} {U : Nat → Prop} {s : DS} {β : Nat → Option Nat} {a : Act} {w : World} {ops : Array Oper} {o : Oper} {r : DR} {b : Bool} (hs : HoldsB C U s β a w) (hr : compR C.P C.nt dr ops o = some r) (hw : s.wanted r.g = some b) :
    Region.wanted o (yielded ops a.tmps) = b := by
  unfold compR at hr
  split at hr
  rotate_left
  · cases hr
  split at hr
  rotate_left
  · cases hr
  rename_i hg
  cases hr
  split at hg
  · rename_i hgd
    cases hg
    simp [DS.wanted] at hw
    simp [Region.wanted, hgd, ← hw]
  · rename_i j want hgd
    obtain ⟨t, ht, hg⟩ := Option.map_eq_some_iff.1 hg
    cases hg
    simp only [DS.wanted] at hw
    have h0 := hs.sl t
    split at hw
    · rename_i c hc
      cases hw
      rw [hc] at h0
      have h2 := rel_v (h0.2.1 (fun id hi => by simp [DV.refs] at hi))
      have h3 : a.tmps[t]? = some (.bool c) := by
        cases hq : a.tmps[t]? with
        | none => simp [hq, undef] at h2
        | some u => simp [hq] at h2; rw [h2]
      simp [Region.wanted, hgd, yielded, ht, h3]
    · rename_i vs hc
      cases hw
      rw [hc] at h0
      have h2 := rel_v (h0.2.1 (fun id hi => by simp [DV.refs] at hi))
      have h3 : ∀ c, a.tmps[t]? ≠ some (.bool c) := by
        intro c hq
        simp [hq] at h2
      have h4 : yielded ops a.tmps j = none := by
        simp only [yielded, ht, Option.bind_some]
      simp [Region.wanted, hgd, h4]
    · cases hw

theorem compR_op {P : Program} {nt : Nat} {dr : Bool} {ops : Array Oper} {o : Oper} {r : DR} (h : compR P nt dr ops o = some r) : r.dst = o.dst ∧ (∀ t, r.dst = some t → t < nt) ∧ r.op = (compOp P o.op).getD .bad := by
  unfold compR at h
  split at h
  · rename_i hd
    split at h
    · cases h
      refine ⟨rfl, fun t ht => ?_, rfl⟩
      simp only at ht
      rw [ht] at hd
      simpa [dstOk] using hd
    · cases h
  · cases h

theorem compOp_call {P : Program} {op : Op} {f : FuncId} {args : List Operand} (h : compOp P op = some (.call f args)) : ∃ c, op = .call c ∧ c.callee = .value (.func f) ∧ args = c.args.toList := by
  unfold compOp at h
  split at h
  case h_22 c =>
    split at h
    · rename_i f' hc; cases h; exact ⟨c, rfl, hc, rfl⟩
    · cases h
    all_goals (exfalso; (repeat' split at h) <;> first | (cases h; done) | (simp [Option.bind_eq_some_iff] at h; done) | (obtain ⟨z, _, h⟩ := Option.bind_eq_some_iff.1 h; split at h <;> cases h))
  all_goals (exfalso; (repeat' split at h) <;> first | (cases h; done) | (simp [Option.bind_eq_some_iff] at h; done) | (obtain ⟨z, _, h⟩ := Option.bind_eq_some_iff.1 h; split at h <;> cases h))

theorem compOp_cv {P : Program} {op : Op} {tb : Option (List (TypeId × FuncId))} {f : Operand} {args : List Operand} (h : compOp P op = some (.cv tb f args)) : ∃ c, op = .call c ∧ args = c.args.toList ∧ ((tb = none ∧ c.callee = .value f) ∨ ∃ name, tb = some (mthT P name) ∧ c.callee = .invoke f name) := by
  unfold compOp at h
  split at h
  case h_22 c =>
    split at h
    · cases h
    · rename_i f' _ hc; cases h; exact ⟨c, rfl, rfl, .inl ⟨rfl, hc⟩⟩
    · rename_i x name hc; cases h; exact ⟨c, rfl, rfl, .inr ⟨name, rfl, hc⟩⟩
    all_goals (exfalso; (repeat' split at h) <;> first | (cases h; done) | (simp [Option.bind_eq_some_iff] at h; done) | (obtain ⟨z, _, h⟩ := Option.bind_eq_some_iff.1 h; split at h <;> cases h))
  all_goals (exfalso; (repeat' split at h) <;> first | (cases h; done) | (simp [Option.bind_eq_some_iff] at h; done) | (obtain ⟨z, _, h⟩ := Option.bind_eq_some_iff.1 h; split at h <;> cases h))

theorem compOp_nxm {P : Program} {op : Op} {k : Bool} {x : Operand} (h : compOp P op = some (.nxm k x)) : op = if k then .entry x else .next x false := by
  unfold compOp at h
  split at h
  case h_28 y isS =>
    split at h
    · rename_i hS; subst hS; cases h; rfl
    · cases h
  case h_29 y => cases h; rfl
  all_goals (exfalso; (repeat' split at h) <;> first | (cases h; done) | (simp [Option.bind_eq_some_iff] at h; done) | (obtain ⟨z, _, h⟩ := Option.bind_eq_some_iff.1 h; split at h <;> cases h))

/-- The method that an interface's call comes to. -/
theorem run_method {P : Program} {w : World} {name : String} {T : TypeId} {f : FuncId} (h : mthF P name T = some f) (v : Value) (k : Nat) : (method (k + 1) T v name).run P w = .ok (f, v) w := by
  unfold mthF at h
  split at h
  · rename_i e hu
    split at h
    · rename_i i hi
      split at h
      · rename_i m hm
        split at h
        · rename_i hp
          split at h
          · rename_i f' hf
            cases h
            have hpath : m.path.toList = [] := by
              have := hp
              simp at this
              rw [this]
            unfold method
            simp only [Sem.run_bind, typeInfo, run_program, hi, Sem.run_pure, Result.andThen_ok, hm, hpath, follow, hf, receiverAt, run_underlying hu, Place.get]
          · cases h
        · cases h
      · cases h
    · cases h
  · cases h
theorem lkT_ok : ∀ {l : List (TypeId × FuncId)} {T : TypeId} {f : FuncId}, lkT l T = some f → (T, f) ∈ l
  | [], _, _, h => by cases h
  | p :: l, T, f, h => by
    simp only [lkT] at h
    split at h
    · rename_i e; cases h; subst e; simp
    · exact List.mem_cons_of_mem _ (lkT_ok h)
theorem mthT_ok {P : Program} {name : String} {T : TypeId} {f : FuncId} (h : lkT (mthT P name) T = some f) : mthF P name T = some f := by
  have := lkT_ok h
  unfold mthT at this
  obtain ⟨T', _, hT⟩ := List.mem_filterMap.1 this
  obtain ⟨f', hf, e⟩ := Option.map_eq_some_iff.1 hT
  cases e; exact hf
theorem run_callMethod {P : Program} {w : World} {name : String} {T : TypeId} {f : FuncId} (h : lkT (mthT P name) T = some f) (hc : callable P f = true) (v : Value) (args : Array Value) : (callMethod (.iface T v) name args).run P w = .ok (.enter f (#[v] ++ args)) w := by
  have hm := run_method (w := w) (mthT_ok h) v (P.types.size + 99)
  have hd : P.types.size + Made.depth = P.types.size + 99 + 1 := rfl
  unfold callMethod
  simp only [Sem.run_bind, run_program, Result.andThen_ok, hd, hm]
  exact run_callFunc hc _ _

theorem map_eval {a : Act} (args : Array Operand) : args.map a.eval = (args.toList.map a.eval).toArray := by apply Array.ext'; simp

/-- A state, with the numbers that are kept back. -/
structure HoldsS (C : Ctx) (s : DS) (β : Nat → Option Nat) (a : Act) (w : World) : Prop where
  b : HoldsB C (Us C s.nx) s β a w
  r : ∀ id, C.R id → id < s.nx
theorem Holds.of {C : Ctx} {s : DS} {β : Nat → Option Nat} {a : Act} {w : World} (h : HoldsS C s β a w) : Holds C s a w := ⟨h.r, β, h.b⟩

theorem HoldsS.exec {C : Ctx} {s s' : DS} {β : Nat → Option Nat} {a : Act} {w : World} {o : Oper} {d : DV} {op : DOp} (hs : HoldsS C s β a w)
    (hc : compOp C.P o.op = some op) (he : exec s op = some (d, s')) : ∃ nx w' β' x, (execOp a.eval o).run C.P w = .ok nx w' ∧ (nx = .value x ∨ (nx = .skip ∧ x = undef)) ∧ HoldsS C s' β' a w' ∧ WV C (Us C s'.nx) (s'.vw C) β' w' x d := by
  unfold Go.DD.exec at he
  split at he
  rotate_left
  · cases he
  rename_i d' u hu
  cases he
  obtain ⟨nx, w', β', x, h1, h2, h3, h4⟩ := execU_ok hs.b (fun h => by have := h.1; omega) hc hu
  have hgrow : ∀ id, Ux (Us C s.nx) s.nx u id → Us C (if u.new = true then s.nx + 1 else s.nx) id := fun id hi => by
    have key : Un (Us C s.nx) s.nx id → Us C (s.nx + 1) id := fun h => by
      rcases h with h | rfl
      · exact ⟨by have := h.1; omega, h.2⟩
      · exact ⟨by omega, fun hr => by have := hs.r _ hr; omega⟩
    cases u <;> simp only [Upd.new, Bool.false_eq_true, if_false, if_true, Ux] at hi ⊢ <;> first | exact hi | exact key hi
  refine ⟨nx, w', β', x, h1, h2, ⟨?_, fun id hr => ?_⟩, h4.grow hgrow⟩
  · obtain ⟨g1, g2, g3, g4, g5, g6⟩ := h3.grow hgrow
    exact ⟨g1, g2, g3, g4, g5, g6⟩
  · have := hs.r id hr
    simp only
    split <;> omega

/-- One operation. -/
theorem stepR_ok {dr : Bool} {C : Ctx} {s : DS} {β : Nat → Option Nat} {a : Act} {w : World} {ops : Array Oper} {o : Oper} {r : DR} {K : DS → Prop} {next : Act → World → Prop} {Q : Exit → Act → World → Prop} (hs : HoldsS C s β a w) (hr : compR C.P C.nt dr ops o = some r)
    (hk : stepR C.P r s K) (hnext : ∀ s' β' a' w', HoldsS C s' β' a' w' → K s' → next a' w') : o.wpIn C.F 0 C.P a w next Q := by
  obtain ⟨hd, hdlt, hop⟩ := compR_op hr
  have hnd : ∀ c, o.op ≠ .defer c := fun c hc => by
    rw [hc, compOp_defer] at hop
    simp [stepR, hop, exec, execU] at hk
  have hput : ∀ (s' : DS) (β' : Nat → Option Nat) (w' : World) (x : Value) (d : DV), HoldsS C s' β' a w' → WV C (Us C s'.nx) (s'.vw C) β' w' x d → K (s'.put r.dst d) → next (a.put o.dst x) w' := fun s' β' w' x d h1 h2 h3 => by
    rw [← hd]
    exact hnext _ β' _ w' ⟨by rw [DS.nx_put]; exact h1.b.put r.dst hdlt h2, by rw [DS.nx_put]; exact h1.r⟩ h3
  have hcallF : ∀ f (vs : List Value) (ds : List DV), vs.length = ds.length → (∀ (j : Nat) (v : Value) (d : DV), vs[j]? = some v → ds[j]? = some d → WV C (Us C s.nx) (s.vw C) β w v d) → callable C.P f = true →
      callK C.P f ds s (fun s' d => K (s'.put r.dst d)) → (execOp a.eval o).run C.P w = .ok (.enter f vs.toArray) w → o.wpIn C.F 0 C.P a w next Q := by
    intro f vs ds hl hrel hcb hck hrun
    refine ⟨fun _ _ => trivial, ?_⟩
    rw [Oper.semAt_plain _ _ _ hnd, hrun, Oper.uponIn_enter]
    refine ⟨fun h => by simp [Ctx.F, Fence.wide] at h, calls_in ((call_ok hs.b hs.r hl hrel hck).mono ?_)⟩
    rintro e w' ⟨v, d, s', β', rfl, hK, hR', hh, hrel'⟩
    exact hput s' β' w' v d ⟨hh, hR'⟩ hrel' hK
  have hargs : ∀ (args : List Operand) (j : Nat) (v : Value) (d : DV), (args.map a.eval)[j]? = some v → (args.map s.rv)[j]? = some d → WV C (Us C s.nx) (s.vw C) β w v d := by
    intro args j v d hv hd
    simp only [List.getElem?_map, Option.map_eq_some_iff] at hv hd
    obtain ⟨x, hx, rfl⟩ := hv
    obtain ⟨y, hy, rfl⟩ := hd
    rw [hx] at hy; cases hy
    exact hs.b.rvw x
  cases hc : compOp C.P o.op with
  | none => rw [hc] at hop; simp [stepR, hop, exec, execU] at hk
  | some op =>
    rw [hc] at hop
    simp only [Option.getD_some] at hop
    unfold stepR at hk
    rw [hop] at hk
    split at hk
    · rename_i f args
      obtain ⟨c, ho, hcal, rfl⟩ := compOp_call hc
      refine hcallF f (c.args.toList.map a.eval) (c.args.toList.map s.rv) (by simp) (hargs _) hk.1 hk.2 ?_
      simp [execOp, ho, resolve, hcal, Deferred.ofValue, Act.eval, invoke, run_callFunc hk.1, map_eval]
    · rename_i tb x args
      obtain ⟨c, ho, rfl, hcal⟩ := compOp_cv hc
      split at hk
      · rename_i f fr cs hx0
        rcases hcal with ⟨rfl, hcal⟩ | ⟨name, rfl, hcal⟩
        · have hx := asFnB_some hx0
          simp only at hx
          have h1 := hs.b.ev x
          rw [hx] at h1
          obtain ⟨us, vs, e1, hl1, hl2, hrel1, hrel2⟩ := rel_fnB h1
          refine hcallF _ (us ++ c.args.toList.map a.eval ++ vs) (fr ++ c.args.toList.map s.rv ++ cs) (by simp [hl1, hl2]) (pw_app (by simp [hl1]) (pw_app hl1 (fun j v d hv hd => ?_) (hargs _)) fun j v d hv hd => ?_) hk.1 hk.2 ?_
          · exact hs.b.evp x (hrel1 _ v d hv hd) fun id hi => by rw [hx, DV.refs, DV.refsL, DV.refs]; exact List.mem_append_left _ (DV.refsL_mem (List.mem_of_getElem? hd) hi)
          · exact hs.b.evp x (hrel2 _ v d hv hd) fun id hi => by rw [hx, DV.refs, DV.refsL]; exact List.mem_append_right _ (DV.refsL_mem (List.mem_of_getElem? hd) hi)
          · have h3 : (us.toArray ++ (c.args.map a.eval ++ vs.toArray) : Array Value) = (us ++ (c.args.toList.map a.eval ++ vs)).toArray := by apply Array.ext'; simp
            simp [execOp, ho, resolve, hcal, e1, Deferred.ofValue, invoke]
            rw [h3]
            exact run_callFunc hk.1 _ _
        · simp only [DV.tgt] at hx0
          split at hx0
          · rename_i T e hx
            obtain ⟨f', hlk, hx2⟩ := Option.map_eq_some_iff.1 hx0
            cases hx2
            have h1 := hs.b.ev x
            rw [hx] at h1
            obtain ⟨u, e1, hrel⟩ := rel_ifc h1
            refine hcallF _ ([u] ++ c.args.toList.map a.eval) ([e] ++ c.args.toList.map s.rv ++ []) (by simp) (fun j v d hv hd => ?_) hk.1 hk.2 ?_
            · rw [List.append_nil] at hd
              cases j with
              | zero =>
                simp at hv hd
                subst hv hd
                exact hs.b.evp x hrel fun id hi => by rw [hx, DV.refs]; exact hi
              | succ j => exact hargs c.args.toList j v d hv hd
            · have h3 := run_callMethod (w := w) hlk hk.1 u (c.args.map a.eval)
              have h4 : (#[u] ++ c.args.map a.eval : Array Value) = ([u] ++ c.args.toList.map a.eval).toArray := by apply Array.ext'; simp
              rw [h4] at h3
              have h5 : Array.extract (#[a.eval x] ++ c.args.map a.eval) 1 (#[a.eval x] ++ c.args.map a.eval).size = c.args.map a.eval := by
                apply Array.ext'
                simp [List.extract_eq_take_drop]
                exact List.take_of_length_le (by simp)
              have h6 : (#[a.eval x] ++ c.args.map a.eval : Array Value)[0]? = some (.iface T u) := by rw [e1]; first | rfl | simp [Array.getElem?_append]
              simp only [execOp, ho, resolve, hcal, Sem.run_bind, Sem.run_pure, Result.andThen_ok, invoke, h6, h5, h3]
          · cases hx0
      · split at hk
        · rename_i i hi
          have hyl := (tgY_some hi).2
          obtain ⟨rfl, _⟩ := tgY_some hi
          rcases hcal with ⟨_, hcal⟩ | ⟨name, h, _⟩
          rotate_left
          · cases h
          have h1 := hs.b.ev x
          rw [hyl] at h1
          obtain ⟨b, e1, hb⟩ := rel_yl h1
          obtain ⟨fn, tmps, assign, body, hy, hround⟩ := round_ok (vs := c.args.toList.map a.eval) (ds := c.args.toList.map s.rv) hs.b hs.r hb (by simp) (hargs _) hk
          refine ⟨fun _ _ => trivial, ?_⟩
          have hrun : (execOp a.eval o).run C.P w = .ok (.round b fn tmps assign body) w := by
            rw [← hy]
            simp [execOp, ho, resolve, hcal, e1, Deferred.ofValue, invoke, map_eval]
          rw [Oper.semAt_plain _ _ _ hnd, hrun, Oper.uponIn_round]
          refine ⟨fun h => by simp [Ctx.F, Fence.wide] at h, hround.mono ?_⟩
          rintro e w' ⟨v, d, s', β', rfl, hK, hR', hh, hrel'⟩
          exact hput s' β' w' v d ⟨hh, hR'⟩ hrel' hK
        · exact hk.elim
    · rename_i k x
      have ho := compOp_nxm hc
      split at hk
      · rename_i l hl
        obtain ⟨p, hp, nx, w', β', y, h1, h2, h3, h4⟩ := nxm_ok (nid := s.nx) ho hs.b hl
        refine ⟨fun _ _ => trivial, ?_⟩
        rw [Oper.semAt_plain _ _ _ hnd, h1]
        have h5 : HoldsS C (s.upd s.nx p.2) β' a w' := ⟨h3, hs.r⟩
        rcases h2 with rfl | ⟨rfl, rfl⟩
        · exact hput _ β' w' y p.1 h5 h4 (hk p hp)
        · exact hput _ β' w' undef p.1 h5 h4 (hk p hp)
      · exact hk.elim
    · rename_i hne1 hne2 hne3
      split at hk
      · rename_i d s' he
        obtain ⟨nx, w', β', x, h1, h2, h3, h4⟩ := hs.exec hc he
        refine ⟨fun _ _ => trivial, ?_⟩
        rw [Oper.semAt_plain _ _ _ hnd, h1]
        rcases h2 with rfl | ⟨rfl, rfl⟩
        · exact hput s' β' w' x d h3 h4 hk
        · exact hput s' β' w' undef d h3 h4 hk
      · exact hk.elim

/-- The operations of a region, in the text's order. -/
theorem runOps_ok {dr : Bool} {C : Ctx} {ops : Array Oper} {K : DS → Prop} {Q : Exit → Act → World → Prop} (hQ : ∀ s β a w, HoldsS C s β a w → K s → Q .normal a w) :
    ∀ (l : List DR) (i : Nat) (s : DS) (β : Nat → Option Nat) (a : Act) (w : World), (∀ (j : Nat) (r : DR), l[j]? = some r → ∃ o, ops[i + j]? = some o ∧ compR C.P C.nt dr ops o = some r) →
      HoldsS C s β a w → runOps C.P l s K → wpOpsIn C.F 0 C.P ops Q (List.range' i l.length) a w
  | [], i, s, β, a, w, _, hs, hk => by simp only [List.length_nil, List.range'_zero, wpOpsIn]; exact hQ s β a w hs hk
  | r :: rest, i, s, β, a, w, hl, hs, hk => by
    obtain ⟨o, ho, hr⟩ := hl 0 r rfl
    simp only [Nat.add_zero] at ho
    have hrest : ∀ (j : Nat) (r' : DR), rest[j]? = some r' → ∃ o, ops[i + 1 + j]? = some o ∧ compR C.P C.nt dr ops o = some r' := fun j r' hj => by
      have := hl (j + 1) r' (by simpa using hj)
      rwa [show i + (j + 1) = i + 1 + j by omega] at this
    obtain ⟨hd, hdlt, _⟩ := compR_op hr
    simp only [runOps] at hk
    simp only [List.length_cons, List.range'_succ, wpOpsIn, ho]
    split at hk
    · rename_i hw
      rw [if_pos (wanted_ok hs.b hr hw)]
      exact stepR_ok hs hr hk (fun s' β' a' w' h1 h2 => runOps_ok hQ rest (i + 1) s' β' a' w' hrest h1 h2)
    · rename_i hw
      rw [wanted_ok hs.b hr hw]
      simp only [Bool.false_eq_true, if_false]
      refine ⟨fun _ _ => trivial, runOps_ok hQ rest (i + 1) _ β _ w hrest ?_ hk⟩
      rw [← hd]
      exact ⟨by rw [DS.nx_put]; exact hs.b.put r.dst hdlt (WV.v undef), by rw [DS.nx_put]; exact hs.r⟩
    · exact hk.elim

def thenQ (next : DS → Prop) (Q : Exit → DS → Prop) : Exit → DS → Prop
  | .normal, s => next s
  | e, s => Q e s
def blkQ (id : Nat) (Q : Exit → DS → Prop) : Exit → DS → Prop
  | .exit id', s => if id' = id then Q .normal s else Q (.exit id') s
  | e, s => Q e s

section rules
variable {C : Ctx} {Q : Exit → DS → Prop} {s : DS}

theorem mapM_len {α β : Type} {f : α → Option β} {l : List α} {r : List β} (h : l.mapM f = some r) : r.length = l.length := (mapM_some h).1

theorem DW.reg {ops : List DR} {info : RI} (h : runOps C.P ops s fun s' => Q .normal s') : DW C (.reg false ops info) Q s := by
  intro code hc a w ⟨hR, β, hs⟩
  obtain ⟨id, os, rfl, hl, _⟩ := compC_reg hc
  obtain ⟨h1, h2⟩ := mapM_some hl
  refine wpIn_region ?_
  have := runOps_ok (dr := false) (ops := os) (K := fun s' => Q .normal s') (Q := liftQ C Q) (fun s β a w hh hk => ⟨s, hk, .of hh⟩) ops 0 s β a w (fun j r hj => ?_) ⟨hs, hR⟩ h
  · rw [h1, Array.length_toList, ← List.range_eq_range'] at this
    exact this
  · have hjl : j < os.toList.length := by have := (List.getElem?_eq_some_iff.1 hj).1; omega
    have := h2 j os.toList[j] r (List.getElem?_eq_getElem hjl) hj
    exact ⟨os.toList[j], by simp at hjl ⊢, this⟩

theorem DW.mono {c : DC} {Q' : Exit → DS → Prop} (h : DW C c Q s) (hq : ∀ e s, Q e s → Q' e s) : DW C c Q' s :=
  fun code hc a w hs => wpIn_mono (h code hc a w hs) fun _ _ _ ⟨s, h1, h2⟩ => ⟨s, hq _ _ h1, h2⟩

/-- A closure is deferred that does nothing where nothing panics. -/
theorem DW.dfq {t : Nat} {g : FuncId} {cap : List Operand} (hrd : C.rd = none) (h : Q .normal (s.put (some t) (.fn (.func g) (.tup [] :: cap.map s.ev)))) : DW C (.dfq t g cap) Q s := by
  intro code hc a w ⟨hR, β, hs⟩
  obtain ⟨id, os, rfl, hd⟩ := compC_dfq hc
  obtain ⟨o, p, first, c, cs, rfl, hop, rfl, hdst, hg, hpop, hpdst, hpg, hcal, hf0, hc0, ht, hq⟩ := dfqOf_some hd
  have hfe : first = #[] := Array.eq_empty_of_size_eq_zero hf0
  obtain ⟨nx, w1, β1, x, h1, h2, h3, h4⟩ := ok_mkf hop hs
  rw [hfe] at h4
  have hrun : (execOp a.eval o).run C.P w = .ok (.value (.func (.func g) #[] (cs.map a.eval))) w := by
    have : first = #[] := Array.eq_empty_of_size_eq_zero hf0
    simp [execOp, hop, Instr.makeFunc, this]
  rw [hrun] at h1
  cases h1
  have hx : x = .func (.func g) #[] (cs.map a.eval) := by
    rcases h2 with h2 | ⟨h2, _⟩
    · cases h2; rfl
    · cases h2
  subst hx
  refine wpIn_region ?_
  have g0 : (#[o, p] : Array Oper)[0]? = some o := rfl
  have g1 : (#[o, p] : Array Oper)[1]? = some p := rfl
  have gw0 : ∀ y, Region.wanted o y = true := fun y => by unfold Region.wanted; rw [hg]
  have gw1 : ∀ y, Region.wanted p y = true := fun y => by unfold Region.wanted; rw [hpg]
  show wpOpsIn C.F 0 C.P #[o, p] (liftQ C Q) [0, 1] a w
  simp only [wpOpsIn, g0, g1, gw0, gw1, if_true]
  have hnd : ∀ c, o.op ≠ .defer c := fun c hc => by rw [hop] at hc; cases hc
  refine ⟨fun _ _ => trivial, ?_⟩
  rw [Oper.semAt_plain _ _ _ hnd, hrun, Oper.uponIn_value, hdst]
  have hp := h3.put (some t) (fun t' e => by cases e; exact ht) h4
  have hev : (a.put (some t) (.func (.func g) #[] (cs.map a.eval))).eval (.tmp t) = .func (.func g) #[] (cs.map a.eval) := by
    have : t < a.tmps.size := by rw [hs.sz]; exact ht
    simp [Act.put, Act.eval, this]
  have hrn : C.F.round = none := by
    show C.rd = none
    exact hrd
  refine ⟨fun _ _ => trivial, ?_⟩
  have hargs : c.args = #[] := Array.eq_empty_of_size_eq_zero hc0
  have hrun2 : (execOp (a.put (some t) (.func (.func g) #[] (cs.map a.eval))).eval p).run C.P w = .ok (.defer { target := .fn (.func g) (cs.map a.eval), args := #[] }) w := by
    simp [execOp, hpop, resolve, hcal, hargs, hev, Deferred.ofValue]
  rw [hrn, Oper.semAt_none, hrun2, Oper.uponIn_defer, hpdst]
  refine ⟨_, h, by rw [DS.nx_put]; exact hR, β1, ?_⟩
  rw [DS.nx_put]
  exact ⟨hp.hh, hp.df.quiet ⟨g, _, hq, rfl⟩, hp.sz, hp.sl, hp.gh, hp.yd⟩

theorem DW.skip (h : Q .normal s) : DW C .skip Q s := by
  intro code hc a w hs
  obtain rfl := compC_skip hc
  exact wpIn_skip ⟨s, h, hs⟩

theorem DW.ret (h : Q .ret s) : DW C .ret Q s := by
  intro code hc a w hs
  obtain rfl := compC_ret hc
  exact wpIn_ret ⟨s, h, hs⟩

theorem DW.exit {id : Nat} (h : Q (.exit id) s) : DW C (.exit id) Q s := by
  intro code hc a w hs
  obtain rfl := compC_exit hc
  exact wpIn_exit ⟨s, h, hs⟩

theorem DW.seq {x y : DC} (h : DW C x (thenQ (DW C y Q) Q) s) : DW C (.seq x y) Q s := by
  intro code hc a w hs
  obtain ⟨p, q, rfl, hx, hy⟩ := compC_seq hc
  refine wpIn_seq (wpIn_mono (h p hx a w hs) ?_)
  rintro e a w ⟨s', h1, h2⟩
  cases e <;> first | exact h1 q hy a w h2 | exact ⟨s', h1, h2⟩

theorem DW.cond {x : Operand} {y z : DC} {b : Bool} (hb : s.ev x = .v (.bool b)) (ht : b = true → DW C y Q s) (hf : b = false → DW C z Q s) : DW C (.cond x y z) Q s := by
  intro code hc a w hs
  obtain ⟨p, q, rfl, hy, hz⟩ := compC_cond hc
  have hs0 := hs
  obtain ⟨hR, β, hh⟩ := hs
  have h1 := hh.ev x
  rw [hb] at h1
  exact wpIn_cond_split (rel_v h1) (fun h => ht h _ hy a w hs0) (fun h => hf h _ hz a w hs0)

theorem DW.blk {id : Nat} {c : DC} (h : DW C c (blkQ id Q) s) : DW C (.blk id c) Q s := by
  intro code hc a w hs
  obtain ⟨p, rfl, hc'⟩ := compC_blk hc
  refine wpIn_block (wpIn_mono (h _ hc' a w hs) ?_)
  rintro e a w ⟨s', h1, h2⟩
  cases e <;> first | exact ⟨s', h1, h2⟩ | skip
  rename_i id'
  simp only [blkQ] at h1
  simp only [Exit.inBlock]
  split
  · rename_i he; rw [if_pos he] at h1; exact ⟨s', h1, h2⟩
  · rename_i he; rw [if_neg he] at h1; exact ⟨s', h1, h2⟩

/-- A loop: what holds at the head of each round, and a number that each round lowers. -/
theorem DW.loop {c : DC} (I : Nat → DS → Prop) (n : Nat) (h0 : I n s) (round : ∀ n s, I n s → DW C c (thenQ (fun s' => ∃ m, m < n ∧ I m s') Q) s) : DW C (.loop c) Q s := by
  intro code hc a w hs
  obtain ⟨p, rfl, hc'⟩ := compC_loop hc
  intro b k cs hro hb hr
  have key : ∀ (n : Nat) (s : DS), I n s → ∀ a w, Holds C s a w → ∃ e a' w', liftQ C Q e a' w' ∧ ArrivesIn (Machine.fenced C.P C.F) C.P (lone (b.atR a (.code p :: .inLoop p :: k)) cs w) b k cs e a' w' := by
    intro n
    induction n using Nat.strongRecOn with
    | _ n ih =>
      intro s hI a w hs
      obtain ⟨e, a₁, w₁, ⟨s', h1, h2⟩, harr⟩ := round n s hI _ hc' a w hs b (.inLoop p :: k) cs hro hb hr
      cases e with
      | normal =>
        obtain ⟨m, hm, hI'⟩ := h1
        obtain ⟨e₂, a₂, w₂, hq₂, harr₂⟩ := ih m hm s' hI' a₁ w₁ h2
        exact ⟨e₂, a₂, w₂, hq₂, .of_steps (StepsIn.trans harr (.one (fenced_calm hb hr rfl) stepR_inLoop)) harr₂⟩
      | exit id => exact ⟨_, a₁, w₁, ⟨s', h1, h2⟩, .pass (x := .inLoop p) rfl (fun _ _ => .inl (by simp)) harr⟩
      | goto l => exact ⟨_, a₁, w₁, ⟨s', h1, h2⟩, .pass (x := .inLoop p) rfl (fun _ _ => .inl (by simp)) harr⟩
      | ret => exact ⟨_, a₁, w₁, ⟨s', h1, h2⟩, .pass (x := .inLoop p) rfl (fun _ _ => .inl (by simp)) harr⟩
      | panic ch => exact ⟨_, a₁, w₁, ⟨s', h1, h2⟩, .pass (x := .inLoop p) rfl (fun _ _ => .inl (by simp)) harr⟩
      | outgrown => exact ⟨_, a₁, w₁, ⟨s', h1, h2⟩, .pass (x := .inLoop p) rfl (fun _ _ => .inl (by simp)) harr⟩
  obtain ⟨e, a', w', hq, harr⟩ := key n s h0 a w hs
  exact ⟨e, a', w', hq, .of_steps (.one (fenced_calm hb hr rfl) stepR_loop) harr⟩

/-- The range over a function. Its record is the next object. -/
theorem DW.rng {g : Operand} {ps : List Nat} {x y : DC} {sl : Sl} (hsl : sl.get = s.sv) (hrd : C.rd = none) {f : FuncId} {caps : List DV}
    (hg : (s.ev g).asFn = some (f, caps)) (hcb : callable C.P f = true)
    (h : callI C.P f (.yl s.nx :: caps) { s with ho := setH s.ho s.nx (some (.loop ⟨C.nt, sl, ps, x, y, .ready, none⟩)), nx := s.nx + 1 } fun s2 _ => ∃ lp, s2.ho s.nx = some (.loop lp) ∧ lp.st ≠ .busy ∧ match lp.pend with
      | none => Q .normal (s2.lay s.nx none)
      | some .ret => Q .ret (s2.lay s.nx none)
      | some (.exit i) => Q (.exit i) (s2.lay s.nx none)
      | _ => False) : DW C (.rng g ps x y) Q s := by
  intro code hc a w ⟨hR, β, hs⟩
  obtain ⟨qs, ac, bc, rfl, hqs, hpslt, hx, hy⟩ := compC_rng hc
  refine wpIn_rangeFunc fun fn _ => ?_
  have hFr : C.F.round = none := hrd
  rw [hFr]
  obtain ⟨rec, hrec⟩ : ∃ rec : Loop, rec = { state := .ready, pending := none, fn, tmps := a.tmps, params := qs, assign := ac, body := bc, defers := w.heap.size } := ⟨_, rfl⟩
  obtain ⟨w1, hw1⟩ : ∃ w1, (w.alloc (.deferred (some []))).alloc (.loop rec) = w1 := ⟨_, rfl⟩
  have hsz1 : w1.heap.size = w.heap.size + 2 := by rw [← hw1]; simp
  have hD : w1.heap[w.heap.size]? = some (.deferred (some [])) := by
    rw [← hw1]; exact (Below.heap_alloc _ _ _ (by simp)).trans (World.alloc_heap_new w _)
  have hL : w1.heap[w.heap.size + 1]? = some (.loop rec) := by
    rw [← hw1]; have := World.alloc_heap_new (w.alloc (.deferred (some []))) (.loop rec); rwa [World.size_alloc] at this
  have hbl : Below w.heap.size w w1 := by
    rw [← hw1]; exact ((Below.refl _ w).alloc (Nat.le_refl _) _).alloc (by simp) _
  obtain ⟨id, hid⟩ : ∃ id, s.nx = id := ⟨_, rfl⟩
  have hfresh : ¬ Us C s.nx id := fun h => by have := h.1; omega
  obtain ⟨s1, hs1⟩ : ∃ s1 : DS, { s with ho := setH s.ho s.nx (some (.loop ⟨C.nt, sl, ps, x, y, .ready, none⟩)), nx := s.nx + 1 } = s1 := ⟨_, rfl⟩
  have hn1 : s1.nx = id + 1 := by rw [← hs1, ← hid]
  have hR1 : ∀ i, C.R i → i < s1.nx := fun i hi => by have := hR i hi; omega
  have hl1 : HoldsB C (Us C s1.nx) s1 (upd β id (some (w.heap.size + 1))) a w1 := by
    have ht := (hs.turned (β' := upd β id (some (w.heap.size + 1))) (w' := w1) hfresh none (fun _ h => by cases h) (.loop ⟨C.nt, sl, ps, x, y, .ready, none⟩) (fun b hb _ => hbl.block b hb) hbl.os hbl.tape hbl.output hbl.size (fun j hj _ => upd_other β _ hj) (fun _ h => by cases h)
      (fun b hb => by rw [upd_same] at hb; cases hb; exact ⟨.inr (by omega), by omega⟩)
      (fun hrel => by
        subst hrec
        exact ⟨_, _, upd_same _ _ _, hL, hqs, hs.sz, hx, hy, rfl, rfl, fun t => by rw [hsl]; exact hrel _ _ (hs.sl t)⟩)).1
    have ht' := ht.grow (U' := Us C s1.nx) fun i hi => by
      rcases hi with hi | rfl
      · exact ⟨by have := hi.1; omega, hi.2⟩
      · exact ⟨by omega, fun hr => by have := hR _ hr; omega⟩
    have e : s1.ho = (s.upd id (.mv none (.loop ⟨C.nt, sl, ps, x, y, .ready, none⟩))).ho := by rw [← hs1, hid]; rfl
    have e2 : s1.vw C = (s.upd id (.mv none (.loop ⟨C.nt, sl, ps, x, y, .ready, none⟩))).vw C := by unfold DS.vw; rw [e]
    have e3 : s1.sv = s.sv := by rw [← hs1]
    obtain ⟨g1, g2, g3, g4, g5, g6⟩ := ht'
    exact ⟨by rw [e2]; exact g1, g2, g3, by rw [e2, e3]; exact g4, by rw [e2]; exact g5, by rw [e]; exact g6⟩
  have hnewD : ∀ (d : Deferred) (D : Nat) (β' : Nat → Option Nat), Mark C β' w d → d = { target := .collected D, args := #[] } → D < w.heap.size := fun d D β' hm e => by
    obtain ⟨D', e', h1, _⟩ := hm
    rw [e] at e'
    simp only [Deferred.mk.injEq, Target.collected.injEq, and_true] at e'
    subst e'
    exact (Array.getElem?_eq_some_iff.1 h1).1
  have hs' : HoldsB C (Us C s1.nx) s1 (upd β id (some (w.heap.size + 1))) { a with defers := [{ target := .collected w.heap.size, args := #[] }] ++ a.defers } w1 := by
    refine ⟨hl1.hh, ⟨?_, fun d hd => ?_, hl1.df.out, fun D hD' hM => ?_⟩, hl1.sz, hl1.sl, hl1.gh, hl1.yd⟩
    · rw [List.singleton_append, List.filter_cons_of_pos (by rfl), List.nodup_cons]
      exact ⟨fun hm => by have := hnewD _ _ _ (hs.df.ownC (List.mem_filter.1 hm).1) rfl; omega, hs.df.nodup⟩
    · rcases List.mem_cons.1 hd with rfl | hd
      · refine .inl ⟨_, rfl, hD, hs.hh.bel.size, fun j hj => ?_⟩
        by_cases hji : j = id
        · subst hji; rw [upd_same] at hj; simp at hj
        · rw [upd_other β _ hji] at hj; have := hs.hh.lt hj; omega
      · exact hl1.df.own d hd
    · rcases List.mem_cons.1 hD' with e | hD'
      · simp only [Deferred.mk.injEq, Target.collected.injEq, and_true] at e
        subst e
        have := hnewD _ _ _ (hs.df.out _ hM) rfl
        omega
      · exact hs.df.apart D hD' hM
  have hge := hs.ev g
  have hg' := asFn_some hg
  simp only at hg'
  rw [hg'] at hge
  obtain ⟨us, vs, e1, hus, hl, _, hrel⟩ := rel_fnB hge
  have hus' : us = [] := List.eq_nil_of_length_eq_zero (by simpa using hus)
  subst hus'
  have e1' : a.eval g = .func (.func f) #[] vs.toArray := by rw [← e1]
  -- what was captured is as it was
  have hcap : ∀ (j : Nat) (v : Value) (d : DV), vs[j]? = some v → caps[j]? = some d → WV C (Us C s1.nx) (s1.vw C) (upd β id (some (w.heap.size + 1))) w1 v d := fun j v d hv hd => by
    have h1 := hs.evp g (hrel j v d hv hd) fun i hi => by rw [hg', DV.refs, DV.refsL]; exact List.mem_append_right _ (DV.refsL_mem (List.mem_of_getElem? hd) hi)
    have ht := (hs.turned (β' := upd β id (some (w.heap.size + 1))) (w' := w1) hfresh none (fun _ h => by cases h) (.loop ⟨C.nt, sl, ps, x, y, .ready, none⟩) (fun b hb _ => hbl.block b hb) hbl.os hbl.tape hbl.output hbl.size (fun j hj _ => upd_other β _ hj) (fun _ h => by cases h)
      (fun b hb => by rw [upd_same] at hb; cases hb; exact ⟨.inr (by omega), by omega⟩)
      (fun hrel => by
        subst hrec
        exact ⟨_, _, upd_same _ _ _, hL, hqs, hs.sz, hx, hy, rfl, rfl, fun t => by rw [hsl]; exact hrel _ _ (hs.sl t)⟩)).2 _ _ h1
    have e2 : s1.vw C = (s.upd id (.mv none (.loop ⟨C.nt, sl, ps, x, y, .ready, none⟩))).vw C := by rw [← hs1, hid]; rfl
    rw [e2]
    refine ht.grow fun i hi => ?_
    rcases hi with hi | rfl
    · exact ⟨by have := hi.1; omega, hi.2⟩
    · exact ⟨by omega, fun hr => by have := hR _ hr; omega⟩
  have hho1 : s1.ho id = some (.loop ⟨C.nt, sl, ps, x, y, .ready, none⟩) := by rw [← hs1, hid]; simp
  have hyl : WV C (Us C s1.nx) (s1.vw C) (upd β id (some (w.heap.size + 1))) w1 (.func (.yield (w.heap.size + 1)) #[] #[]) (.yl id) :=
    hl1.hh.wv (.yl id _ (upd_same _ _ _)) fun i hi => by
      obtain rfl : i = id := by simpa [DV.refs] using hi
      exact vw_alive (by rw [hho1]; rfl)
  rw [hs1, hid] at h
  refine ⟨w.heap.size + 1, [{ target := .collected w.heap.size, args := #[] }], w1, { target := .fn (.func f) vs.toArray, args := #[.func (.yield (w.heap.size + 1)) #[] #[]] }, w1, f,
    #[.func (.yield (w.heap.size + 1)) #[] #[]] ++ vs.toArray, w1, ?_, ?_, fun _ _ => trivial, ?_, fun h => by simp [Ctx.F, Fence.wide] at h, ?_⟩
  · rw [← hw1, hrec]; exact run_enterLoop_outer _ _ _ _ _
  · simp only [resolve, e1']
    simp [go_sem]
  · simp [invoke, run_callFunc hcb]
  · refine calls_in ?_
    have hk' : callI C.P f (.yl id :: caps) s1 fun s2 _ => ∃ lp, s2.ho id = some (.loop lp) ∧ lp.st ≠ .busy ∧ match lp.pend with
      | none => Q .normal (s2.lay id none)
      | some .ret => Q .ret (s2.lay id none)
      | some (.exit i) => Q (.exit i) (s2.lay id none)
      | _ => False := h
    have hX' := hs'
    -- the yield's record goes on lying where it lies: others hold it
    obtain ⟨C2, hC2⟩ : ∃ C2 : Ctx, C2 = { C with X := fun x d => C.X x d ∨ (x = .func (.yield (w.heap.size + 1)) #[] #[] ∧ d = .yl id) } := ⟨_, rfl⟩
    have hsX : HoldsB C2 (Us C2 s1.nx) s1 (upd β id (some (w.heap.size + 1))) { a with defers := [{ target := .collected w.heap.size, args := #[] }] ++ a.defers } w1 := by
      obtain ⟨g1, g2, g3, g4, g5, g6⟩ := hs'
      obtain ⟨q1, q2⟩ := HH.ctx (C := C) (C' := C2) (by rw [hC2]) (by rw [hC2]) (by rw [hC2]) (by rw [hC2]) g1
      have eU : Us C2 s1.nx = Us C s1.nx := by rw [hC2]; rfl
      have eV : s1.vw C2 = s1.vw C := by rw [hC2]; rfl
      refine ⟨by rw [eU, eV]; exact q1, ⟨g2.nodup, fun d hd => ?_, fun D hD => ?_, fun D hD => ?_⟩, by rw [hC2]; exact g3, fun t => by rw [eU, eV]; exact (q2 _ _).2 (g4 t), fun v d hx => ?_, by rw [hC2]; exact g6⟩
      · have := g2.own d hd; rw [hC2]; exact this
      · rw [hC2] at hD ⊢; exact g2.out D hD
      · rw [hC2]; exact g2.apart D hD
      · rw [eU, eV, q2]
        rw [hC2] at hx
        rcases hx with (hx | ⟨rfl, rfl⟩) | hx
        · exact g5 _ _ (.inl hx)
        · exact hyl
        · exact g5 _ _ (.inr hx)
    have hP2 : C2.P = C.P := by rw [hC2]
    have hcall := callI_ok (C := C2) (vs := .func (.yield (w.heap.size + 1)) #[] #[] :: vs) (ds := .yl id :: caps) hsX (by rw [hC2]; exact hR1) (by simp [hl]) (fun j v d hv hd => by
      have e : ∀ v d, WV C2 (Us C2 s1.nx) (s1.vw C2) (upd β id (some (w.heap.size + 1))) w1 v d ↔ WV C (Us C s1.nx) (s1.vw C) (upd β id (some (w.heap.size + 1))) w1 v d := fun v d => by rw [hC2]; exact Iff.rfl
      rw [e]
      cases j with
      | zero => simp at hv hd; subst hv hd; exact hyl
      | succ j => exact hcap j v d (by simpa using hv) (by simpa using hd)) (by rw [hP2]; exact hk')
    rw [hP2] at hcall
    have hargs : (Value.func (.yield (w.heap.size + 1)) #[] #[] :: vs).toArray = #[.func (.yield (w.heap.size + 1)) #[] #[]] ++ vs.toArray := by simp
    rw [hargs] at hcall
    refine hcall.mono ?_
    rintro e w3 ⟨v, d, s2, β2, rfl, ⟨lp, ho2, hst, hpend⟩, hR2, hs2X, _⟩
    have hb2 : β2 id = some (w.heap.size + 1) := by
      have h1 := (hs2X.gh (.func (.yield (w.heap.size + 1)) #[] #[]) (.yl id) (.inl (by rw [hC2]; exact .inr ⟨rfl, rfl⟩))).2.1 fun i hi => by
        obtain rfl : i = id := by simpa [DV.refs] using hi
        exact vw_alive (by rw [ho2]; rfl)
      obtain ⟨b2, e, hb2⟩ := rel_yl h1
      cases e; exact hb2
    have hs2 : HoldsB C (Us C s2.nx) s2 β2 { a with defers := [{ target := .collected w.heap.size, args := #[] }] ++ a.defers } w3 := by
      obtain ⟨g1, g2, g3, g4, g5, g6⟩ := hs2X
      obtain ⟨q1, q2⟩ := HH.ctx (C := C2) (C' := C) (by rw [hC2]) (by rw [hC2]) (by rw [hC2]) (by rw [hC2]) g1
      have eU : Us C2 s2.nx = Us C s2.nx := by rw [hC2]; rfl
      have eV : s2.vw C2 = s2.vw C := by rw [hC2]; rfl
      rw [eU, eV] at q1 q2
      refine ⟨q1, ⟨g2.nodup, fun d hd => ?_, fun D hD => ?_, fun D hD => ?_⟩, by rw [hC2] at g3; exact g3, fun t => (q2 _ _).2 (by have := g4 t; rwa [eU, eV] at this), fun v d hx => (q2 _ _).2 (by have := g5 v d (hx.imp (fun hx => by rw [hC2]; exact .inl hx) (fun h => h)); rwa [eU, eV] at this), by rw [hC2] at g6; exact g6⟩
      · have := g2.own d hd; rw [hC2] at this; exact this
      · have := g2.out D (by rw [hC2]; exact hD); rw [hC2] at this; exact this
      · have := g2.apart D hD; rw [hC2] at this; exact this
    obtain ⟨b', r2, hb', hr2, _, _, _, _, q5, q6, _⟩ := hs2.hh.hp id _ (vw_some ho2)
    rw [hb2] at hb'; cases hb'
    have hlt2 := (Array.getElem?_eq_some_iff.1 hr2).1
    have hend := run_endLoop (P := C.P) hr2 (by rw [q5]; exact hst)
    have hs3 : Holds C (s2.lay id none) { a with defers := [{ target := .collected w.heap.size, args := #[] }] ++ a.defers } (w3.putObj (w.heap.size + 1) (.loop { r2 with state := .exhausted })) := by
      -- first the record is written, then it is forgotten
      have hm := hs2.mark hb2 ho2 hr2 .exhausted r2.pending
      have hless := hm.hh.less (U' := Us C s2.nx) (V' := (s2.lay id none).vw C) (β' := upd β2 id none) (fun _ h => h) (fun i => ?_) (fun i => ?_)
      · refine ⟨by rw [hC2] at hR2; exact hR2, _, hm.carry (s' := s2.lay id none) rfl (fun i o hy => ?_) hless⟩
        by_cases hi : i = id
        · subst hi; simp
        · rw [DS.ho_lay_other _ _ hi]; have := hs2.yd i o hy; exact this
      · by_cases hi : i = id
        · subst hi
          refine .inr ⟨upd_same _ _ _, ?_⟩
          have := hs2.apart (i := i) (by rw [ho2]; rfl)
          simp [DS.vw, vwF, DS.lay, this]
        · exact .inl (upd_other _ _ hi)
      · by_cases hi : i = id
        · subst hi
          have := hs2.apart (i := i) (by rw [ho2]; rfl)
          exact .inr (by simp [DS.vw, vwF, DS.lay, this])
        · exact .inl (by simp [DS.vw, vwF, DS.lay, setH, hi])
    obtain ⟨w4, hw4⟩ : ∃ w4, w3.putObj (w.heap.size + 1) (.loop { r2 with state := .exhausted }) = w4 := ⟨_, rfl⟩
    rw [hw4] at hend hs3
    refine ⟨r2.pending, w4, hend, ?_⟩
    rw [q6]
    split at hpend
    · rename_i hp; rw [hp]; exact ⟨_, hpend, hs3⟩
    · rename_i hp; rw [hp]; exact wpIn_ret ⟨_, hpend, hs3⟩
    · rename_i i hp; rw [hp]; exact wpIn_exit ⟨_, hpend, hs3⟩
    · exact hpend.elim

/-- Another deep state of the same memory. -/
def Imp (s s' : DS) : Prop := ∀ C a w, Holds C s a w → Holds C s' a w
theorem Imp.refl (s : DS) : Imp s s := fun _ _ _ h => h
theorem DW.imp {c : DC} {s' : DS} (h : Imp s s') (hd : DW C c Q s') : DW C c Q s := fun code hc a w hs => hd code hc a w (h C a w hs)
end rules

end Go.DD
