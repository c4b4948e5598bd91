/- Deferred closures that do nothing where nothing panics: they ask recover, and go on only if it is not nil. Conditions: none beyond those that each theorem states. -/
import Derived.Below
import Derived.Orders
import Derived.RecoverIn
import Derived.ControlIn
import Derived.OwnWalkIn
namespace Go.DD

def quiet0 (ops : Array Oper) : Option Nat := match ops.toList with
  | [o] => match o.op, o.dst, o.guard with
    | .call c, some t, none => match c.callee with
      | .builtin .recover => some t
      | _ => none
    | _, _, _ => none
  | _ => none
def ifaceT (P : Program) (T : TypeId) : Bool := match P.underlying T with
  | some (.interface _) => true
  | _ => false
def quiet1 (P : Program) (t5 : Nat) (ops : Array Oper) : Option Nat := match ops.toList with
  | [o] => match o.op, o.dst, o.guard with
    | .binOp .eql T (.tmp t) (.const .nilIface) _, some t7, none => if t = t5 ∧ ifaceT P T = true then some t7 else none
    | _, _, _ => none
  | _ => none
def quiet2 (ops : Array Oper) : Bool := match ops.toList with
  | [o] => match o.op, o.dst, o.guard with
    | .assign (.tmp _), some _, none => true
    | _, _, _ => false
  | _ => false
def quietC (P : Program) (nt : Nat) : Code → Bool
  | .seq (.region _ a false) (.block _ (.seq (.region _ b false) (.cond (.tmp t) (.region _ c false) _))) => match quiet0 a with
    | some t5 => match quiet1 P t5 b with
      | some t7 => decide (t7 = t ∧ t5 < nt ∧ t7 < nt) && quiet2 c
      | none => false
    | none => false
  | _ => false
/-- Is it such a closure? -/
def quietF (P : Program) (g : FuncId) : Bool := match P.funcs[g]? with
  | some fn => fn.name != "runtime.NumGoroutine" && decide (fn.results.size = 0) && match fn.body with
    | some c => quietC P fn.ntmps c
    | none => false
  | none => false

theorem quiet0_some {ops : Array Oper} {t : Nat} (h : quiet0 ops = some t) : ∃ o c, ops = #[o] ∧ o.op = .call c ∧ c.callee = .builtin .recover ∧ o.dst = some t ∧ o.guard = none := by
  unfold quiet0 at h
  split at h
  rotate_left
  · cases h
  rename_i o ho
  have e : ops = #[o] := by apply Array.ext'; simpa using ho
  split at h
  · rename_i c t' h1 h2 h3
    split at h
    · rename_i h4; cases h; exact ⟨o, c, e, h1, h4, h2, h3⟩
    · cases h
  · cases h
theorem quiet1_some {P : Program} {t5 : Nat} {ops : Array Oper} {t : Nat} (h : quiet1 P t5 ops = some t) : ∃ o T T' ms, P.underlying T = some (.interface ms) ∧ ops = #[o] ∧ o.op = .binOp .eql T (.tmp t5) (.const .nilIface) T' ∧ o.dst = some t ∧ o.guard = none := by
  unfold quiet1 at h
  split at h
  rotate_left
  · cases h
  rename_i o ho
  have e : ops = #[o] := by apply Array.ext'; simpa using ho
  split at h
  · rename_i T t6 T' t7 h1 h2 h3
    split at h
    · rename_i h4
      cases h
      obtain ⟨rfl, h5⟩ := h4
      unfold ifaceT at h5
      split at h5
      · rename_i ms hm; exact ⟨o, T, T', ms, hm, e, h1, h2, h3⟩
      · cases h5
    · cases h
  · cases h
theorem quiet2_true {ops : Array Oper} (h : quiet2 ops = true) : ∃ o x t, ops = #[o] ∧ o.op = .assign x ∧ o.dst = some t ∧ o.guard = none := by
  unfold quiet2 at h
  split at h
  rotate_left
  · cases h
  rename_i o ho
  have e : ops = #[o] := by apply Array.ext'; simpa using ho
  split at h
  · rename_i x t h1 h2 h3; exact ⟨o, _, t, e, h1, h2, h3⟩
  · cases h

theorem quiet_ok {P : Program} {g : FuncId} (h : quietF P g = true) (caps : Array Value) (w : World) :
    (invoke (.fn (.func g) caps) #[]).run P w = .ok (.enter g caps) w ∧ CallsDIn Fence.wide 0 P g caps .returning w fun e u' w' => u' = .returning ∧ (∃ v, e = .returned v) ∧ w' = w := by
  unfold quietF at h
  split at h
  rotate_left
  · cases h
  rename_i fn hf
  simp only [Bool.and_eq_true, bne_iff_ne, ne_eq, decide_eq_true_eq] at h
  obtain ⟨⟨hname, hres⟩, h⟩ := h
  split at h
  rotate_left
  · cases h
  rename_i body hb
  refine ⟨?_, callsDIn_of_wpSIn hf hb trivial fun c₀ cs hu => ?_⟩
  · simp [invoke, callFunc, hf, hb, hname, Sem.run]
  unfold quietC at h
  split at h
  rotate_left
  · cases h
  split at h
  rotate_left
  · cases h
  rename_i i0 a i1 i2 b t i3 c y t5 h0
  split at h
  rotate_left
  · cases h
  rename_i t7 h1
  simp only [Bool.and_eq_true, decide_eq_true_eq] at h
  obtain ⟨⟨rfl, hl5, hl7⟩, h2⟩ := h
  obtain ⟨o0, c0, rfl, hop0, hcal, hd0, hg0⟩ := quiet0_some h0
  obtain ⟨o1, T, T', ms, hms, rfl, hop1, hd1, hg1⟩ := quiet1_some h1
  obtain ⟨o2, x, t2, rfl, hop2, hd2, hg2⟩ := quiet2_true h2
  have hrec : recoverD (c₀ :: cs) = none := by simp [recoverD, hu]
  have hex0 : ∀ (ρ : Operand → Value), (execOp ρ o0).run P w = .ok .recover w := fun ρ => by
    simp [execOp, hop0, resolve, hcal, invoke, builtin]
  refine wpSIn_seq (wpSIn_region ?_)
  simp only [wpOpsSIn, List.size_toArray, List.length_singleton, List.range_one, List.getElem?_toArray, List.getElem?_cons_zero, Region.wanted, hg0, if_true]
  refine ⟨fun _ _ => trivial, ?_⟩
  rw [hex0]
  simp only [hrec]
  have hsz : caps.size + (fn.ntmps - caps.size) = (caps ++ Array.replicate (fn.ntmps - caps.size) undef).size := by simp
  obtain ⟨a1, ha1⟩ : ∃ a1, Act.put { tmps := caps ++ Array.replicate (fn.ntmps - caps.size) undef, defers := [] } o0.dst .nilIface = a1 := ⟨_, rfl⟩
  have e5 : a1.tmps.getD t5 undef = .nilIface := by
    rw [← ha1, hd0]
    have : t5 < caps.size + (fn.ntmps - caps.size) := by omega
    simp [Act.put, this]
  have es1 : fn.ntmps ≤ a1.tmps.size := by
    rw [← ha1, hd0]; simp [Act.put]; omega
  have ed1 : a1.defers = [] := by rw [← ha1, hd0]; rfl
  rw [ha1]
  show Code.wpSIn _ _ _ _ _ a1 (c₀ :: cs) w
  refine wpSIn_of_wpIn rfl (wpIn_block (wpIn_seq (wpIn_region ?_)))
  simp only [wpOpsIn, List.size_toArray, List.length_singleton, List.range_one, List.getElem?_toArray, List.getElem?_cons_zero, Region.wanted, hg1, if_true]
  have hnd1 : ∀ c, o1.op ≠ .defer c := fun c hc => by rw [hop1] at hc; cases hc
  have hex1 : (execOp a1.eval o1).run P w = .ok (.value (.bool true)) w := by
    have he : ∀ d, (Op.equalIn (d + 1) T .nilIface .nilIface).run P w = .ok true w := fun d => by simp [Op.equalIn, run_underlying hms]
    have g1 : (eqGuard .eql T (.tmp t5) (.const .nilIface) .nilIface .nilIface).run P w = .ok () w := by simp [eqGuard]
    have g2 : (binOp .eql T .nilIface .nilIface).run P w = .ok (.bool true) w := by simp [binOp, Op.equal, Op.maxDepth, he 9999]
    have e6 : a1.eval (.tmp t5) = .nilIface := e5
    have e7 : a1.eval (.const .nilIface) = .nilIface := rfl
    simp only [execOp, hop1, e6, e7, Sem.run_bind, g1, Result.andThen_ok, g2, Sem.run_pure]
  refine ⟨fun _ _ => trivial, ?_⟩
  rw [Oper.semAt_plain _ _ _ hnd1, hex1, Oper.uponIn_value]
  obtain ⟨a2, ha2⟩ : ∃ a2, a1.put o1.dst (.bool true) = a2 := ⟨_, rfl⟩
  have e7 : a2.eval (.tmp t7) = .bool true := by
    rw [← ha2, hd1]
    have : t7 < a1.tmps.size := by omega
    simp [Act.put, Act.eval, this]
  have ed2 : a2.defers = [] := by rw [← ha2, hd1]; exact ed1
  rw [ha2]
  refine wpIn_cond_true e7 (wpIn_region ?_)
  simp only [wpOpsIn, List.size_toArray, List.length_singleton, List.range_one, List.getElem?_toArray, List.getElem?_cons_zero, Region.wanted, hg2, if_true]
  have hnd2 : ∀ c, o2.op ≠ .defer c := fun c hc => by rw [hop2] at hc; cases hc
  have hex2 : (execOp a2.eval o2).run P w = .ok (.value (a2.eval x)) w := by simp [execOp, hop2]
  refine ⟨fun _ _ => trivial, ?_⟩
  rw [Oper.semAt_plain _ _ _ hnd2, hex2, Oper.uponIn_value]
  rw [hd2]
  show Act.defers a2 = [] ∧ _
  refine ⟨ed2, .returning, ?_, .tuple #[], ?_, rfl, ⟨_, rfl⟩, rfl⟩
  · rw [← hu]
  · have : fn.results = #[] := Array.eq_empty_of_size_eq_zero hres
    simp [results, this]
end Go.DD
