/- The evaluator, read with symbols: guards, choices, parts of tuples; contracts without a heap. -/
import Derived.Test.YtpaggdhijeabnaaGreatDoorJd
namespace Go.DD

/-- A guard. -/
def GW (d : DV) (b : Bool) (A B : Prop) : Prop := (∃ c, d = .v (.bool c) ∧ (c = b → A) ∧ (c ≠ b → B)) ∨ (∃ vs, d = .v (.tuple vs) ∧ B)
theorem sw_g {p : Pa} {b : Bool} {dst : Option Pa} {s : Stp} {call : CallT} {es : ES} {Q : ES → Prop} : GW (rawE es (.t p)) b (SW s call es Q) (Q (es.putE dst (.v undef))) → SW (sG p b dst s) call es Q := by
  rintro (⟨c, h1, h2, h3⟩ | ⟨vs, h1, h2⟩)
  · have hw : wantE es p b = some (c == b) := by unfold wantE; rw [h1]; rfl
    unfold SW sG
    rw [hw]
    by_cases hc : c = b
    · obtain ⟨es', h4, h5⟩ := h2 hc
      refine ⟨es', ?_, h5⟩
      subst hc
      simp only [beq_self_eq_true]
      exact h4
    · refine ⟨_, ?_, h3 hc⟩
      have : (c == b) = false := by simpa using hc
      rw [this]
  · have hw : wantE es p b = some false := by unfold wantE; rw [h1]; rfl
    exact ⟨_, by unfold sG; rw [hw], h2⟩
theorem sw_g' {p : Pa} {b : Bool} {dst : Option Pa} {s : Stp} {call : CallT} {es : ES} {Q : ES → Prop} : SW (sG p b dst s) call es Q ↔ GW (rawE es (.t p)) b (SW s call es Q) (Q (es.putE dst (.v undef))) := by
  refine ⟨?_, sw_g⟩
  rintro ⟨es', h1, h2⟩
  unfold sG at h1
  obtain ⟨c, h3, h4⟩ := optR h1
  unfold wantE at h3
  obtain ⟨v, hv, h3⟩ := cV_some h3
  cases v with
  | bool t =>
    refine .inl ⟨t, hv, fun e => ?_, fun e => ?_⟩
    · have h5 : some (t == b) = some c := h3
      cases h5
      subst e
      simp only [beq_self_eq_true] at h4
      exact ⟨es', h4, h2⟩
    · have h5 : some (t == b) = some c := h3
      cases h5
      have : (t == b) = false := by simpa using e
      rw [this] at h4
      cases h4
      exact h2
  | tuple vs =>
    refine .inr ⟨vs, hv, ?_⟩
    have h5 : some false = some c := h3
    cases h5
    cases h4
    exact h2
  | _ => cases h3
theorem gw_b {c b : Bool} {A B : Prop} : GW (.v (.bool c)) b A B ↔ (c = b → A) ∧ (c ≠ b → B) := by
  constructor
  · rintro (⟨c', h1, h2⟩ | ⟨vs, h1, _⟩)
    · cases h1; exact h2
    · cases h1
  · exact fun h => .inl ⟨c, rfl, h⟩
theorem gw_u {b : Bool} {A B : Prop} : GW (.v undef) b A B ↔ B := by
  constructor
  · rintro (⟨c', h1, h2⟩ | ⟨vs, _, h⟩)
    · cases h1
    · exact h
  · exact fun h => .inr ⟨_, rfl, h⟩

/-- A choice between two. -/
def pickD (c x y : DV) : Option DV := match c with
  | .v (.bool t) => some (if t then x else y)
  | _ => none
theorem x_pick (c x y : EO) (es : ES) : xPick c x y es = pickD (rawE es c) (rawE es x) (rawE es y) := by
  unfold xPick
  cases rawE es c with
  | v a => cases a <;> first | rfl | (rename_i t; cases t <;> rfl)
  | _ => rfl
theorem pick_b (t : Bool) (x y : DV) : pickD (.v (.bool t)) x y = some (if t then x else y) := rfl
def unD (op : UnOp) (x : DV) : Option DV := match x with
  | .v v => (unV op (.v v)).map .v
  | _ => none
theorem x_un (op : UnOp) (x : EO) (es : ES) : xUn op x es = unD op (rawE es x) := by
  unfold xUn
  cases rawE es x with
  | v a =>
    show outV _ = _
    rw [outV_eq]; rfl
  | _ => rfl
theorem un_not (b : Bool) : unD .not (.v (.bool b)) = some (.v (.bool !b)) := rfl
theorem un_neg (k : IntKind) (n : Int) : unD .neg (.v (.int k n)) = some (.v (.int k (k.wrap (0 - n)))) := rfl
/-- A part of a tuple that names nothing. -/
theorem x_ext {x : EO} {i : Nat} {es : ES} {ds : List DV} (h : rawE es x = .tup ds) (hr : DV.refsL ds = []) : xExt x i es = ds[i]? := by
  have hev : evE es x = .tup ds := by
    cases x with
    | t p => exact ev_raw h (by rw [DV.refs]; exact hr)
    | c d => exact h
  have hn : nthL i ds = ds[i]? := by
    unfold nthL
    rw [dropL_eq, ← List.head?_drop]
    cases ds.drop i <;> rfl
  unfold xExt
  rw [h, hev]
  show Option.rec (motive := fun _ => Option DV) none (fun d => vD d (fun v => some (.v v)) (nthL i ds)) (nthL i ds) = _
  rw [hn]
  cases ds[i]? with
  | none => rfl
  | some d => cases d <;> rfl

/-! Contracts on immutable arguments, without a heap. -/
/-- A table of contracts. -/
noncomputable def callG (rel : Nat → List DV → Option DV) : CallT := fun tg ds hp nx => match tg with
  | .fn f => match rel f ds with
    | some d => some (d, hp, nx)
    | none => none
  | .yl _ => none
theorem callG_ok {P : Program} {rel : Nat → List DV → Option DV} (h : ∀ f ds d, rel f ds = some d → Known P f ds d) : CallOK P (callG rel) := by
  intro tg ds hp nx d hp' nx' hc _
  cases tg with
  | yl id => cases hc
  | fn f =>
    have hc' : (match rel f ds with
      | some d => some (d, hp, nx)
      | none => none) = some (d, hp', nx') := hc
    split at hc'
    · rename_i d0 hd
      cases hc'
      obtain ⟨k1, k2, k3⟩ := h f ds d hd
      exact ⟨Nat.le_refl _, fun id h2 h3 => absurd h2 h3, k1, fun sv K hK => .inr ⟨_, k2, k3, hK⟩⟩
    · cases hc'
theorem kw_g {rel : Nat → List DV → Option DV} {f : Nat} {ds : List DV} {hp : Tr DObj} {nx : Nat} {d : DV} (h : rel f ds = some d) {K : DV → Tr DObj → Nat → Prop} : KW (callG rel) (.fn f) ds hp nx K ↔ K d hp nx :=
  kw_of (show (match rel f ds with
    | some d => some (d, hp, nx)
    | none => none) = some (d, hp, nx) by rw [h])
/-- A contract out of the code: the results are read as content. -/
theorem Known.of {P : Program} (hm : P.follows .mixedOrders = true) {tb : Nat → Option FE} {n' : Nat} (htb : TbOK P n' tb) {f : Nat} {fe : FE} {args : List DV} {r : DV} {call : CallT} (hc : CallOK P call) (hf : tb f = some fe) (hn : args.length ≤ fe.nt) (hr : ∀ x ∈ args, x.refs = [])
    (h : EW fe.run call ⟨argT args, .e, 0⟩ fun e es => (e = .normal ∨ e = .ret) ∧ ∃ d, finE fe.res es = some (d, es.hp, es.nx) ∧ rz es.hp.get 6 d = some r) : Known P f args r := by
  obtain ⟨e, es, h1, h2, d, h3, h4⟩ := h
  have hs : stepC tb 0 call (.fn f) args .e 0 = some (d, es.hp, es.nx) := by
    show (match tb f with
      | some fe => if args.length ≤ fe.nt then match fe.run call ⟨argT args, .e, 0⟩ with
          | some (.normal, es) => finE fe.res es
          | some (.ret, es) => finE fe.res es
          | _ => none
        else none
      | none => none) = some (d, es.hp, es.nx)
    rw [hf]
    simp only
    rw [if_pos hn, h1]
    rcases h2 with rfl | rfl
    · exact h3
    · exact h3
  obtain ⟨_, _, hcb, hI⟩ := stepC_ok hm htb hc _ _ _ _ _ _ _ hs (fun id _ => by cases id <;> rfl)
  refine ⟨hcb, hr, DCall.of_callC (sv := fun _ => .any) ?_⟩
  have := hI (fun _ => .any) (fun s d => ∃ r', rz s.ho 6 d = some r' ∧ r' = r) ⟨r, h4, rfl⟩
  have e : (Tr.e : Tr DObj).get = fun _ => none := by funext id; cases id <;> rfl
  rw [e] at this
  exact this
theorem rz_flat {ho : Nat → Option DObj} {n : Nat} {d : DV} (h : d.flat = true) : rz ho (n + 1) d = some d := by
  cases d <;> first | rfl | (simp [DV.flat] at h)
theorem rz_tup {ho : Nat → Option DObj} {n : Nat} {ds : List DV} (h : ds.all DV.flat = true) : rz ho (n + 1) (.tup ds) = some (.tup ds) := by
  show (rzL (rz ho n) ds).map DV.tup = _
  unfold rzL
  rw [if_pos h]; rfl
theorem rz_agg {ho : Nat → Option DObj} {n : Nat} {ds : List DV} (h : ds.all DV.flat = true) : rz ho (n + 1) (.agg ds) = some (.agg ds) := by
  show (rzL (rz ho n) ds).map DV.agg = _
  unfold rzL
  rw [if_pos h]; rfl
/-- .. of one result, that stands by itself. -/
theorem Known.run1 {P : Program} (hm : P.follows .mixedOrders = true) {tb : Nat → Option FE} {n' : Nat} (htb : TbOK P n' tb) {f t : Nat} {c : CE} {nt : Nat} {args : List DV} {r : DV} {call : CallT} (hc : CallOK P call) (hf : tb f = some ⟨c, [(t, none)], nt⟩) (hn : args.length ≤ nt) (hr : ∀ x ∈ args, x.refs = []) (hrr : r.refs = []) (hz : ∀ ho, rz ho 6 r = some r)
    (h : ∀ es, Ent es args → EW c call es fun e es' => (e = .normal ∨ e = .ret) ∧ rawE es' (.t (pth t)) = r) : Known P f args r :=
  Known.of hm htb hc hf hn hr ((h _ (ent_arg args .e 0)).mono fun _ _ ⟨h1, h2⟩ => ⟨h1, r, fin1 h2 hrr, hz _⟩)
theorem Known.run2 {P : Program} (hm : P.follows .mixedOrders = true) {tb : Nat → Option FE} {n' : Nat} (htb : TbOK P n' tb) {f t u : Nat} {c : CE} {nt : Nat} {args : List DV} {r r' : DV} {call : CallT} (hc : CallOK P call) (hf : tb f = some ⟨c, [(t, none), (u, none)], nt⟩) (hn : args.length ≤ nt) (hr : ∀ x ∈ args, x.refs = []) (hrr : r.refs = []) (hrr' : r'.refs = []) (hz : ∀ ho, rz ho 6 (.tup [r, r']) = some (.tup [r, r']))
    (h : ∀ es, Ent es args → EW c call es fun e es' => (e = .normal ∨ e = .ret) ∧ rawE es' (.t (pth t)) = r ∧ rawE es' (.t (pth u)) = r') : Known P f args (.tup [r, r']) :=
  Known.of hm htb hc hf hn hr ((h _ (ent_arg args .e 0)).mono fun _ _ ⟨h1, h2, h3⟩ => ⟨h1, .tup [r, r'], fin2 h2 hrr h3 hrr', hz _⟩)
end Go.DD
