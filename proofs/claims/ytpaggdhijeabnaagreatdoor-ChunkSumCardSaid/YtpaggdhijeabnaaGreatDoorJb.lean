/- Contracts in the evaluator's terms. -/
import Derived.Test.YtpaggdhijeabnaaGreatDoorJa
namespace Go.DD

theorem ev_raw {es : ES} {p : Pa} {d : DV} (h : rawE es (.t p) = d) (hr : d.refs = []) : evE es (.t p) = d := by
  have e : evE es (.t p) = liveE es.hp (rawE es (.t p)) := rfl
  rw [e, h]
  unfold liveE
  rw [refsE_eq, hr]
  rfl
/-- A result that stands by itself. -/
theorem fin1 {es : ES} {t : Nat} {d : DV} (h : rawE es (.t (pth t)) = d) (hr : d.refs = []) : finE [(t, none)] es = some (d, es.hp, es.nx) := by
  have e : resE es (t, none) = some d := congrArg some (ev_raw h hr)
  unfold finE
  simp only [List.mapM_cons, List.mapM_nil, e, Option.pure_def, Option.bind_eq_bind, Option.bind_some, resVE]
theorem fin2 {es : ES} {t u : Nat} {d d' : DV} (h : rawE es (.t (pth t)) = d) (hr : d.refs = []) (h' : rawE es (.t (pth u)) = d') (hr' : d'.refs = []) : finE [(t, none), (u, none)] es = some (.tup [d, d'], es.hp, es.nx) := by
  have e : resE es (t, none) = some d := congrArg some (ev_raw h hr)
  have e' : resE es (u, none) = some d' := congrArg some (ev_raw h' hr')
  unfold finE
  simp only [List.mapM_cons, List.mapM_nil, e, e', Option.pure_def, Option.bind_eq_bind, Option.bind_some, resVE]

/-- A function's code, and its call. -/
theorem fn_of {tb : Nat → Option FE} {n k f : Nat} {fe : FE} {args : List DV} {hp : Tr DObj} {nx : Nat} {d : DV} {hp' : Tr DObj} {nx' : Nat} (hf : tb f = some fe) (hn : args.length ≤ fe.nt)
    (h : EW fe.run (callE tb n k) ⟨argT args, hp, nx⟩ fun e es => (e = .normal ∨ e = .ret) ∧ finE fe.res es = some (d, hp', nx')) : callE tb n (k + 1) (.fn f) args hp nx = some (d, hp', nx') := by
  obtain ⟨e, es, h1, h2, h3⟩ := h
  show (match tb f with
        | some fe => if args.length ≤ fe.nt then match fe.run (callE tb n k) ⟨argT args, hp, nx⟩ with
            | some (.normal, es) => finE fe.res es
            | some (.ret, es) => finE fe.res es
            | _ => none
          else none
        | none => none) = some (d, hp', nx')
  rw [hf]
  simp only
  rw [if_pos hn, h1]
  rcases h2 with rfl | rfl
  · exact h3
  · exact h3

/-- What is new lies behind; all else is as it was. -/
structure Al (hp : Tr DObj) (nx : Nat) (hp' : Tr DObj) (nx' : Nat) : Prop where
  le : nx ≤ nx'
  same : ∀ id, id < nx → hp'.get id = hp.get id
theorem Al.refl (hp : Tr DObj) (nx : Nat) : Al hp nx hp nx := ⟨Nat.le_refl _, fun _ _ => rfl⟩
theorem Al.trans {h1 h2 h3 : Tr DObj} {n1 n2 n3 : Nat} (a : Al h1 n1 h2 n2) (b : Al h2 n2 h3 n3) : Al h1 n1 h3 n3 :=
  ⟨Nat.le_trans a.le b.le, fun id h => by rw [b.same id (by have := a.le; omega), a.same id h]⟩

/-- A function on immutable arguments that lays nothing; one that may. -/
def CC (tb : Nat → Option FE) (k0 f : Nat) (args : List DV) (r : DV) : Prop := ∀ n k hp nx, k0 ≤ k → callE tb n k (.fn f) args hp nx = some (r, hp, nx)
def CA (tb : Nat → Option FE) (k0 f : Nat) (args : List DV) (r : DV) : Prop := ∀ n k hp nx, k0 ≤ k → ∃ hp' nx', callE tb n k (.fn f) args hp nx = some (r, hp', nx') ∧ Al hp nx hp' nx'
theorem CC.ca {tb : Nat → Option FE} {k0 f : Nat} {args : List DV} {r : DV} (h : CC tb k0 f args r) : CA tb k0 f args r := fun n k hp nx hk => ⟨hp, nx, h n k hp nx hk, Al.refl _ _⟩
theorem CC.mono {tb : Nat → Option FE} {k0 k1 f : Nat} {args : List DV} {r : DV} (h : CC tb k0 f args r) (hk : k0 ≤ k1) : CC tb k1 f args r := fun n k hp nx h1 => h n k hp nx (by omega)
theorem CA.mono {tb : Nat → Option FE} {k0 k1 f : Nat} {args : List DV} {r : DV} (h : CA tb k0 f args r) (hk : k0 ≤ k1) : CA tb k1 f args r := fun n k hp nx h1 => h n k hp nx (by omega)
theorem CA.kw {tb : Nat → Option FE} {k0 f : Nat} {args : List DV} {r : DV} (h : CA tb k0 f args r) {n k : Nat} {hp : Tr DObj} {nx : Nat} {K : DV → Tr DObj → Nat → Prop} (hk : k0 ≤ k) (hK : ∀ hp' nx', Al hp nx hp' nx' → K r hp' nx') : KW (callE tb n k) (.fn f) args hp nx K := by
  obtain ⟨hp', nx', h1, h2⟩ := h n k hp nx hk
  exact ⟨r, hp', nx', h1, hK hp' nx' h2⟩
/-- Out of the code. -/
theorem CC.of {tb : Nat → Option FE} {k0 f : Nat} {fe : FE} {args : List DV} {r : DV} (hf : tb f = some fe) (hn : args.length ≤ fe.nt)
    (h : ∀ n k hp nx, k0 ≤ k → EW fe.run (callE tb n k) ⟨argT args, hp, nx⟩ fun e es => (e = .normal ∨ e = .ret) ∧ finE fe.res es = some (r, hp, nx)) : CC tb (k0 + 1) f args r := fun n k hp nx hk => by
  obtain ⟨j, rfl⟩ : ∃ j, k = j + 1 := ⟨k - 1, by omega⟩
  exact fn_of hf hn (h n j hp nx (by omega))
theorem CA.of {tb : Nat → Option FE} {k0 f : Nat} {fe : FE} {args : List DV} {r : DV} (hf : tb f = some fe) (hn : args.length ≤ fe.nt)
    (h : ∀ n k hp nx, k0 ≤ k → EW fe.run (callE tb n k) ⟨argT args, hp, nx⟩ fun e es => (e = .normal ∨ e = .ret) ∧ ∃ hp' nx', finE fe.res es = some (r, hp', nx') ∧ Al hp nx hp' nx') : CA tb (k0 + 1) f args r := fun n k hp nx hk => by
  obtain ⟨j, rfl⟩ : ∃ j, k = j + 1 := ⟨k - 1, by omega⟩
  obtain ⟨e, es, h1, h2, hp', nx', h3, h4⟩ := h n j hp nx (by omega)
  exact ⟨hp', nx', fn_of hf hn ⟨e, es, h1, h2, h3⟩, h4⟩

/-- A call in the program, out of a call of the evaluator: the heap is empty. -/
theorem CA.dcall {P : Program} (hm : P.follows .mixedOrders = true) {tb : Nat → Option FE} {n' : Nat} (htb : TbOK P n' tb) {k0 f : Nat} {args : List DV} {r : DV} (h : CA tb k0 f args r) (hr : ∀ ho, rz ho 6 r = some r) : callable P f = true ∧ DCall P f args fun d => d = r := by
  obtain ⟨hp', nx', h1, _⟩ := h 0 k0 .e 0 (Nat.le_refl _)
  obtain ⟨_, _, hcb, hI⟩ := callE_ok hm htb k0 _ _ _ _ _ _ _ h1 (fun id _ => by cases id <;> rfl)
  refine ⟨hcb, DCall.of_callC (sv := fun _ => .any) ?_⟩
  have := hI (fun _ => .any) (fun s d => ∃ r', rz s.ho 6 d = some r' ∧ r' = r) ⟨r, hr _, rfl⟩
  have e : (Tr.e : Tr DObj).get = fun _ => none := by funext id; cases id <;> rfl
  rw [e] at this
  exact this

/-- What a frame's slots hold as it is entered. -/
def Ent (es : ES) (args : List DV) : Prop := ∀ i d, args[i]? = some d → rawE es (.t (pth i)) = d
theorem ent_arg (args : List DV) (hp : Tr DObj) (nx : Nat) : Ent ⟨argT args, hp, nx⟩ args := fun i d h => by
  have e : rawE ⟨argT args, hp, nx⟩ (.t (pth i)) = argF args i := by
    rw [rawE_t]
    exact argT_get args i
  rw [e]
  simp [argF, h]
/-- Out of the code: one result, that stands by itself. -/
theorem CC.run1 {tb : Nat → Option FE} {k0 f t : Nat} {c : CE} {nt : Nat} {args : List DV} {r : DV} (hf : tb f = some ⟨c, [(t, none)], nt⟩) (hn : args.length ≤ nt) (hr : r.refs = [])
    (h : ∀ n k es, k0 ≤ k → Ent es args → EW c (callE tb n k) es fun e es' => (e = .normal ∨ e = .ret) ∧ es'.hp = es.hp ∧ es'.nx = es.nx ∧ rawE es' (.t (pth t)) = r) : CC tb (k0 + 1) f args r :=
  CC.of hf hn fun n k hp nx hk => (h n k _ hk (ent_arg args hp nx)).mono fun _ es' ⟨h1, h2, h3, h4⟩ => ⟨h1, by
    have e2 : es'.hp = hp := h2
    have e3 : es'.nx = nx := h3
    rw [← e2, ← e3]; exact fin1 h4 hr⟩
/-- .. two. -/
theorem CC.run2 {tb : Nat → Option FE} {k0 f t u : Nat} {c : CE} {nt : Nat} {args : List DV} {r r' : DV} (hf : tb f = some ⟨c, [(t, none), (u, none)], nt⟩) (hn : args.length ≤ nt) (hr : r.refs = []) (hr' : r'.refs = [])
    (h : ∀ n k es, k0 ≤ k → Ent es args → EW c (callE tb n k) es fun e es' => (e = .normal ∨ e = .ret) ∧ es'.hp = es.hp ∧ es'.nx = es.nx ∧ rawE es' (.t (pth t)) = r ∧ rawE es' (.t (pth u)) = r') : CC tb (k0 + 1) f args (.tup [r, r']) :=
  CC.of hf hn fun n k hp nx hk => (h n k _ hk (ent_arg args hp nx)).mono fun _ es' ⟨h1, h2, h3, h4, h5⟩ => ⟨h1, by
    have e2 : es'.hp = hp := h2
    have e3 : es'.nx = nx := h3
    rw [← e2, ← e3]; exact fin2 h4 hr h5 hr'⟩
/-- .. that may lay. -/
theorem CA.run1 {tb : Nat → Option FE} {k0 f t : Nat} {c : CE} {nt : Nat} {args : List DV} {r : DV} (hf : tb f = some ⟨c, [(t, none)], nt⟩) (hn : args.length ≤ nt) (hr : r.refs = [])
    (h : ∀ n k es, k0 ≤ k → Ent es args → EW c (callE tb n k) es fun e es' => (e = .normal ∨ e = .ret) ∧ Al es.hp es.nx es'.hp es'.nx ∧ rawE es' (.t (pth t)) = r) : CA tb (k0 + 1) f args r :=
  CA.of hf hn fun n k hp nx hk => (h n k _ hk (ent_arg args hp nx)).mono fun _ es' ⟨h1, h2, h3⟩ => ⟨h1, es'.hp, es'.nx, fin1 h3 hr, h2⟩
end Go.DD
