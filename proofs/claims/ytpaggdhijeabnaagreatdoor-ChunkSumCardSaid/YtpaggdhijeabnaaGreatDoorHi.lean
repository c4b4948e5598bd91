/- Calls: where they stand, in the caller's own memory; or by contract, on immutable arguments. -/
import Derived.Test.YtpaggdhijeabnaaGreatDoorHp
namespace Go.DD
open Go.RowKit (Below)

theorem refsL_nil {cs : List DV} (h : DV.refsL cs = []) {d : DV} (hd : d ∈ cs) : d.refs = [] := by
  cases hr : d.refs with
  | nil => rfl
  | cons i l => have := DV.refsL_mem hd (id := i) (by rw [hr]; simp); rw [h] at this; cases this

theorem rel_imm {P : Program} {w : World} {al : Nat → Prop} {β : Nat → Option Nat} {x : Value} {d : DV} (h : Rel P w al β x d) (hd : d.refs = []) : RelI w al x d := by
  induction h with
  | imm x d h => exact h
  | agg vs cs hl ho _ ih => exact .agg vs cs hl ho fun j u d hu he => ih j u d hu he (refsL_nil (by simpa [DV.refs] using hd) (List.mem_of_getElem? he))
  | tup vs cs hl _ ih => exact .tup vs cs hl fun j u d hu he => ih j u d hu he (refsL_nil (by simpa [DV.refs] using hd) (List.mem_of_getElem? he))
  | fn f us vs cs hl _ ih => exact .fn f us vs cs hl fun j u d hu he => ih j u d hu he (refsL_nil (by simpa [DV.refs] using hd) (List.mem_of_getElem? he))
  | ifc T u d _ ih => exact .ifc T u d (ih (by simpa [DV.refs] using hd))
  | ms0 id es => simp [DV.refs] at hd
  | ms id off n es b cap c T hβ hw hn hm hcap => simp [DV.refs] at hd
  | pt id off b hβ => simp [DV.refs] at hd
  | mp id b hβ => simp [DV.refs] at hd
  | yl id b hβ => simp [DV.refs] at hd

/-- A value whose reading leans on no memory. -/
inductive Plain : DV → Prop
  | any : Plain .any
  | v (x : Value) : Plain (.v x)
  | agg (cs : List DV) (h : ∀ d ∈ cs, Plain d) : Plain (.agg cs)
  | tup (cs : List DV) (h : ∀ d ∈ cs, Plain d) : Plain (.tup cs)
theorem relI_plain {w w' : World} {al al' : Nat → Prop} {x : Value} {d : DV} (h : RelI w al x d) (hp : Plain d) : RelI w' al' x d := by
  induction h with
  | any x => exact .any x
  | v x => exact .v x
  | agg vs cs hl ho _ ih => cases hp with | agg _ hp => exact .agg vs cs hl ho fun j u d hu hd => ih j u d hu hd (hp d (List.mem_of_getElem? hd))
  | tup vs cs hl _ ih => cases hp with | tup _ hp => exact .tup vs cs hl fun j u d hu hd => ih j u d hu hd (hp d (List.mem_of_getElem? hd))
  | sl0 a cap => cases hp
  | sl ad n cap us cs hl hn ha ho hc _ ih => cases hp
  | ia ad us cs hl ha ho hc _ ih => cases hp
  | fn f us vs cs hl _ ih => cases hp
  | ifc T u d _ ih => cases hp

/-! Own rows read as immutable content. -/
def DV.flat : DV → Bool
  | .any => true
  | .v _ => true
  | .sl _ _ => true
  | .ia _ => true
  | _ => false
theorem flat_refs {d : DV} (h : d.flat = true) : d.refs = [] := by
  cases d <;> first | rfl | (simp [DV.flat] at h)
def rzL (f : DV → Option DV) (cs : List DV) : Option (List DV) := if cs.all DV.flat then some cs else cs.mapM f
def rz (ho : Nat → Option DObj) : Nat → DV → Option DV
  | 0, d => if d.flat then some d else none
  | k + 1, d => match d with
    | .agg cs => (rzL (rz ho k) cs).map .agg
    | .tup cs => (rzL (rz ho k) cs).map .tup
    | .fn f cs => (rzL (rz ho k) cs).map (.fn f)
    | .ifc T d => (rz ho k d).map (.ifc T)
    | .ms id off n es => match ho id with
      | some (.row _ cs) => if off + n * es ≤ cs.length then (rzL (rz ho k) ((cs.drop off).take (n * es))).map fun l => .sl l n else none
      | _ => none
    | .pt id off => match ho id with
      | some (.row _ cs) => (rzL (rz ho k) (cs.drop off)).map .ia
      | _ => none
    | .mp _ => none
    | .yl _ => none
    | d => some d

theorem rzL_some {f : DV → Option DV} {cs l : List DV} (h : rzL f cs = some l) : l.length = cs.length ∧ ∀ (j : Nat) (c d : DV), cs[j]? = some c → l[j]? = some d → (c.flat = true ∧ d = c) ∨ f c = some d := by
  unfold rzL at h
  split at h
  · rename_i hall
    cases h
    refine ⟨rfl, fun j c d hc hd => .inl ?_⟩
    rw [hc] at hd
    cases hd
    exact ⟨List.all_eq_true.1 hall c (List.mem_of_getElem? hc), rfl⟩
  · obtain ⟨h1, h2⟩ := mapM_some h
    exact ⟨h1, fun j c d hc hd => .inr (h2 j c d hc hd)⟩

/-- What is read as immutable is all there. -/
theorem rz_alive {ho : Nat → Option DObj} : ∀ (k : Nat) (d d' : DV), rz ho k d = some d' → ∀ id ∈ d.refs, (ho id).isSome = true := by
  intro k
  induction k with
  | zero =>
    intro d d' h id hi
    simp only [rz] at h
    split at h
    · rename_i hf; rw [flat_refs hf] at hi; cases hi
    · cases h
  | succ k ih =>
    intro d d' h id hi
    have hlist : ∀ cs l, rzL (rz ho k) cs = some l → ∀ id ∈ DV.refsL cs, (ho id).isSome = true := by
      intro cs l hz id hi
      obtain ⟨c, hc, hi⟩ := DV.mem_refsL hi
      obtain ⟨j, hj, rfl⟩ := List.mem_iff_getElem.1 hc
      obtain ⟨h1, h2⟩ := rzL_some hz
      rcases h2 j cs[j] (l[j]'(by omega)) (List.getElem?_eq_getElem hj) (List.getElem?_eq_getElem (by omega)) with ⟨hf, _⟩ | hr
      · rw [flat_refs hf] at hi; cases hi
      · exact ih _ _ hr id hi
    cases d with
    | agg cs => obtain ⟨l, hz, _⟩ := Option.map_eq_some_iff.1 h; exact hlist cs l hz id (by simpa [DV.refs] using hi)
    | tup cs => obtain ⟨l, hz, _⟩ := Option.map_eq_some_iff.1 h; exact hlist cs l hz id (by simpa [DV.refs] using hi)
    | fn f cs => obtain ⟨l, hz, _⟩ := Option.map_eq_some_iff.1 h; exact hlist cs l hz id (by simpa [DV.refs] using hi)
    | ifc T d => obtain ⟨e, hz, _⟩ := Option.map_eq_some_iff.1 h; exact ih _ _ hz id (by simpa [DV.refs] using hi)
    | ms id' off n es =>
      simp only [rz] at h
      obtain rfl : id = id' := by simpa [DV.refs] using hi
      split at h
      · rename_i hrow; rw [hrow]; rfl
      · cases h
    | pt id' off =>
      simp only [rz] at h
      obtain rfl : id = id' := by simpa [DV.refs] using hi
      split at h
      · rename_i hrow; rw [hrow]; rfl
      · cases h
    | mp id => simp [rz] at h
    | yl id => simp [rz] at h
    | any => simp [DV.refs] at hi
    | v x => simp [DV.refs] at hi
    | sl cs n => simp [DV.refs] at hi
    | ia cs => simp [DV.refs] at hi

/-- All that may be read as immutable from now on. -/
def frz (C : Ctx) (w : World) (b : Nat) : Prop := (C.S b ∨ C.w0.heap.size ≤ b ∨ C.G b) ∧ b < w.heap.size

section
variable {C : Ctx} {U : Nat → Prop} {V ho : Nat → Option DObj} {β : Nat → Option Nat} {w : World}

theorem rz_okA (hh : HH C U V β w) (hV : ∀ id o, ho id = some o → V id = some o) (A I : Nat → Prop) (hA : ∀ b, alw C w β b → A b) (hI : ∀ id b, I id → (ho id).isSome = true → β id = some b → A b)
    (hcl : ∀ id T cs, I id → ho id = some (.row T cs) → ∀ j ∈ DV.refsL cs, I j) : ∀ (k : Nat) (x : Value) (d d' : DV), (∀ id ∈ d.refs, I id) → WV C U V β w x d → rz ho k d = some d' → RelI w A x d' := by
  have hflat : ∀ (x : Value) (d : DV), d.flat = true → WV C U V β w x d → RelI w A x d := fun x d hf hr =>
    (rel_imm (hr.2.1 fun id hi => by rw [flat_refs hf] at hi; cases hi) (flat_refs hf)).mono fun b hb => ⟨hA b hb, rfl⟩
  intro k
  induction k with
  | zero =>
    intro x d d' _ hr h
    simp only [rz] at h
    split at h
    · cases h; exact hflat x d (by assumption) hr
    · cases h
  | succ k ih =>
    have hall : ∀ (x : Value) (c d : DV), (∀ id ∈ c.refs, I id) → WV C U V β w x c → ((c.flat = true ∧ d = c) ∨ rz ho k c = some d) → RelI w A x d := by
      intro x c d hc hr h
      rcases h with ⟨h1, rfl⟩ | h
      · exact hflat x d h1 hr
      · exact ih x c d hc hr h
    intro x d d' hid hw h
    have hal := rz_alive _ _ _ h
    have hr : Rel C.P w (alw C w β) β x d := hw.2.1 fun id hi => by
      obtain ⟨o, ho'⟩ := Option.isSome_iff_exists.1 (hal id hi)
      rw [hV id o ho']; rfl
    have hpart : ∀ {u : Value} {e : DV}, Rel C.P w (alw C w β) β u e → (∀ id ∈ e.refs, id ∈ d.refs) → WV C U V β w u e := fun hr he =>
      hh.wv hr fun id hi => by
        obtain ⟨o, ho'⟩ := Option.isSome_iff_exists.1 (hal id (he id hi))
        rw [hV id o ho']; rfl
    have hlist : ∀ (us : List Value) (cs l : List DV), (∀ c ∈ cs, ∀ id ∈ c.refs, I id) → us.length = cs.length → (∀ (j : Nat) (u : Value) (d : DV), us[j]? = some u → cs[j]? = some d → WV C U V β w u d) → rzL (rz ho k) cs = some l →
        us.length = l.length ∧ ∀ (j : Nat) (u : Value) (d : DV), us[j]? = some u → l[j]? = some d → RelI w A u d := by
      intro us cs l hci hl hrel hz
      obtain ⟨h1, h2⟩ := rzL_some hz
      refine ⟨by omega, fun j u d hu hd => ?_⟩
      have hj : j < cs.length := by have := (List.getElem?_eq_some_iff.1 hd).1; omega
      exact hall u cs[j] d (hci _ (List.getElem_mem hj)) (hrel j u _ hu (List.getElem?_eq_getElem hj)) (h2 j _ d (List.getElem?_eq_getElem hj) hd)
    cases d with
    | agg cs =>
      simp only [rz] at h
      obtain ⟨l, hz, rfl⟩ := Option.map_eq_some_iff.1 h
      obtain ⟨vs, rfl, hl, h1, h2⟩ := rel_agg hr
      obtain ⟨h3, h4⟩ := hlist vs cs l (fun c hc id hi => hid id (by simp only [DV.refs]; exact DV.refsL_mem hc hi)) hl (fun j u d hu hd => hpart (h2 j u d hu hd) fun id hi => by simp only [DV.refs]; exact DV.refsL_mem (List.mem_of_getElem? hd) hi) hz
      exact .agg vs l h3 h1 h4
    | tup cs =>
      simp only [rz] at h
      obtain ⟨l, hz, rfl⟩ := Option.map_eq_some_iff.1 h
      obtain ⟨vs, rfl, hl, h2⟩ := rel_tup hr
      obtain ⟨h3, h4⟩ := hlist vs cs l (fun c hc id hi => hid id (by simp only [DV.refs]; exact DV.refsL_mem hc hi)) hl (fun j u d hu hd => hpart (h2 j u d hu hd) fun id hi => by simp only [DV.refs]; exact DV.refsL_mem (List.mem_of_getElem? hd) hi) hz
      exact .tup vs l h3 h4
    | fn f cs =>
      simp only [rz] at h
      obtain ⟨l, hz, rfl⟩ := Option.map_eq_some_iff.1 h
      obtain ⟨us, vs, rfl, hl, h2⟩ := rel_fn hr
      obtain ⟨h3, h4⟩ := hlist (Value.tuple us.toArray :: vs) cs l (fun c hc id hi => hid id (by simp only [DV.refs]; exact DV.refsL_mem hc hi)) hl (fun j u d hu hd => hpart (h2 j u d hu hd) fun id hi => by simp only [DV.refs]; exact DV.refsL_mem (List.mem_of_getElem? hd) hi) hz
      exact .fn f us vs l h3 h4
    | ifc T d =>
      simp only [rz] at h
      obtain ⟨e, hz, rfl⟩ := Option.map_eq_some_iff.1 h
      obtain ⟨u, rfl, h2⟩ := rel_ifc hr
      exact .ifc T u e (ih u d e (fun id hi => hid id (by simpa [DV.refs] using hi)) (hpart h2 fun id hi => by simpa [DV.refs] using hi) hz)
    | ms id off n es =>
      simp only [rz] at h
      split at h
      · rename_i T cs hrow
        split at h
        · rename_i hfit
          obtain ⟨l, hz, rfl⟩ := Option.map_eq_some_iff.1 h
          rcases rel_ms hr with ⟨rfl, rfl, rfl⟩ | ⟨b, cap, c, T', rfl, hb, hw, hn, hm, hcap⟩
          · have : l = [] := by
              have := (rzL_some hz).1
              simpa using this
            subst this
            exact .sl0 _ _
          · rcases hh.hp id _ (hV _ _ hrow) with ⟨h1, _⟩ | ⟨b', c', hb', hc', hl, _, hrel⟩
            · rw [hb] at h1; cases h1
            · rw [hb] at hb'; cases hb'
              rw [hw] at hc'
              injection hc' with hc'
              injection hc' with hcc _
              subst hcc
              have hI1 := hid id (by simp [DV.refs])
              obtain ⟨h3, h4⟩ := hlist ((c.toList.drop off).take (n * es)) _ l (fun e he i hi => hcl id _ _ hI1 hrow i (DV.refsL_mem (List.mem_of_mem_drop (List.mem_of_mem_take he)) hi)) (by simp; omega) (fun j u d hu hd => by
                rw [List.getElem?_take] at hu hd
                split at hu
                · rename_i hj
                  rw [if_pos hj] at hd
                  exact (hrel (off + j) u d (by simpa using hu) (by simpa using hd)).1
                · cases hu) hz
              refine .sl _ n cap ((c.toList.drop off).take (n * es)) l h3 hn (hI id b hI1 (by rw [hrow]; rfl) hb) (fun u hu => ?_) (fun j u hu => ?_) h4
              · obtain ⟨j, hj, rfl⟩ := List.mem_iff_getElem.1 hu
                have hjl : off + j < cs.length := by simp at hj; omega
                refine (hrel (off + j) _ cs[off + j] ?_ (List.getElem?_eq_getElem hjl)).2
                rw [List.getElem_take, List.getElem_drop]
                simp
              · rw [List.getElem?_take] at hu
                split at hu
                · exact cell_row hw j u hu
                · cases hu
        · cases h
      · cases h
    | pt id off =>
      simp only [rz] at h
      split at h
      · rename_i T cs hrow
        obtain ⟨l, hz, rfl⟩ := Option.map_eq_some_iff.1 h
        obtain ⟨b, rfl, hb⟩ := rel_pt hr
        rcases hh.hp id _ (hV _ _ hrow) with ⟨h1, _⟩ | ⟨b', c, hb', hw, hl, _, hrel⟩
        · rw [hb] at h1; cases h1
        · rw [hb] at hb'; cases hb'
          have hI1 := hid id (by simp [DV.refs])
          obtain ⟨h3, h4⟩ := hlist ((c.toList.drop off).take (cs.length - off)) (cs.drop off) l (fun e he i hi => hcl id _ _ hI1 hrow i (DV.refsL_mem (List.mem_of_mem_drop he) hi)) (by simp; omega) (fun j u d hu hd => by
            rw [List.getElem?_take] at hu
            split at hu
            · exact (hrel (off + j) u d (by simpa using hu) (by simpa using hd)).1
            · cases hu) hz
          refine .ia _ ((c.toList.drop off).take (cs.length - off)) l h3 (hI id b hI1 (by rw [hrow]; rfl) hb) (fun u hu => ?_) (fun j u hu => ?_) h4
          · obtain ⟨j, hj, rfl⟩ := List.mem_iff_getElem.1 hu
            have hjl : off + j < cs.length := by simp at hj; omega
            refine (hrel (off + j) _ cs[off + j] ?_ (List.getElem?_eq_getElem hjl)).2
            rw [List.getElem_take, List.getElem_drop]
            simp
          · rw [List.getElem?_take] at hu
            split at hu
            · exact cell_row hw j u hu
            · cases hu
      · cases h
    | mp id => simp [rz] at h
    | yl id => simp [rz] at h
    | any => simp [rz] at h; subst h; exact .any x
    | v y => simp [rz] at h; subst h; exact hflat _ _ rfl hw
    | sl cs n => simp [rz] at h; subst h; exact hflat _ _ rfl hw
    | ia cs => simp [rz] at h; subst h; exact hflat _ _ rfl hw

theorem rz_ok (hh : HH C U V β w) (hV : ∀ id o, ho id = some o → V id = some o) (k : Nat) (x : Value) (d d' : DV) (hr : WV C U V β w x d) (h : rz ho k d = some d') : RelI w (frz C w) x d' :=
  rz_okA hh hV (frz C w) (fun _ => True) (fun _ hb => ⟨hb.1, hb.2.1⟩) (fun id b _ _ hb => ⟨.inr (hh.bge id b hb).1, (hh.bge id b hb).2⟩) (fun _ _ _ _ _ _ _ => trivial) k x d d' (fun _ _ => trivial) hr h
end

/-! Calls. -/
/-- The contract of a function on immutable arguments. -/
def DCall (P : Program) (f : FuncId) (args : List DV) (R : DV → Prop) : Prop :=
  ∀ (w : World) (S : Nat → Prop) (vs : List Value), (∀ b, S b → b < w.heap.size) → vs.length = args.length → (∀ (j : Nat) (v : Value) (d : DV), vs[j]? = some v → args[j]? = some d → RelI w S v d) → (∀ x d, GLV x d → RelI w S x d) →
    Calls P f vs.toArray w fun e w' => ∃ v r, e = .returned v ∧ R r ∧ Below w.heap.size w w' ∧ RelI w' (fun b => (S b ∨ w.heap.size ≤ b) ∧ b < w'.heap.size) v r

theorem DCall.mono {P : Program} {f : FuncId} {args : List DV} {R R' : DV → Prop} (h : DCall P f args R) (hr : ∀ d, R d → R' d) : DCall P f args R' :=
  fun w S vs h1 h2 h3 hg => (h w S vs h1 h2 h3 hg).mono fun _ _ ⟨v, r, h4, h5, h6⟩ => ⟨v, r, h4, hr r h5, h6⟩

/-- A call that is walked through where it stands: the callee has the caller's own objects. -/
def callI (P : Program) (f : FuncId) (ds : List DV) (s : DS) (K : DS → DV → Prop) : Prop :=
  ∃ fn df, P.funcs[f]? = some fn ∧ compFn P fn = some df ∧ ds.length ≤ df.nt ∧ ∀ (S G : Nat → Prop) (w0 : World) (X : Value → DV → Prop) (M : Nat → Prop) (Y : Nat → Option DObj) (R : Nat → Prop),
    DW ⟨P, S, G, w0, df.nt, X, M, none, Y, R⟩ df.code (fun e s' => (e = .normal ∨ e = .ret) ∧ ∃ d, resV s' df.res = some d ∧ K ⟨s.sv, s'.ho, s'.nx⟩ d) ⟨argF ds, s.ho, s.nx⟩

/-- What stands around a frame that is called from another one. 'hid': objects that it is not to see; 'R': numbers that it is not to give. -/
def Ctx.inner (C : Ctx) (U : Nat → Prop) (V : Nat → Option DObj) (β : Nat → Option Nat) (l : List Deferred) (w : World) (nt : Nat) (rd : Option Nat) (hid : Nat → Option DObj) (R : Nat → Prop) : Ctx :=
  ⟨C.P, C.S, C.G, C.w0, nt, fun x d => WV C U V β w x d, fun D => C.M D ∨ ({ target := .collected D, args := #[] } : Deferred) ∈ l, rd, vwF C.Y hid, R⟩

/-- Another frame's context, with the same memory around it. -/
theorem HH.ctx {C C' : Ctx} {U : Nat → Prop} {V : Nat → Option DObj} {β : Nat → Option Nat} {w : World} (hP : C'.P = C.P) (hS : C'.S = C.S) (hG : C'.G = C.G) (h0 : C'.w0 = C.w0) (h : HH C U V β w) :
    HH C' U V β w ∧ ∀ x d, WV C' U V β w x d ↔ WV C U V β w x d := by
  obtain ⟨P, S, G, w0, nt, X, M, rd, Y, R⟩ := C
  obtain ⟨P', S', G', w0', nt', X', M', rd', Y', R'⟩ := C'
  simp only at hP hS hG h0
  subst hP hS hG h0
  have hw : ∀ x d, WV ⟨P', S', G', w0', nt', X', M', rd', Y', R'⟩ U V β w x d ↔ WV ⟨P', S', G', w0', nt, X, M, rd, Y, R⟩ U V β w x d := fun x d => Iff.rfl
  refine ⟨⟨h.ok, ⟨h.bel.os, h.bel.tape, h.bel.output, h.bel.size, h.bel.block⟩, h.bge, h.inj, h.fr, fun id o ho => ?_⟩, hw⟩
  have h1 := h.hp id o ho
  cases o <;> exact h1

theorem vwF_assoc (Y hid ho : Nat → Option DObj) : vwF (vwF Y hid) ho = vwF Y (vwF hid ho) := by
  funext id
  unfold vwF
  cases ho id <;> rfl

section
variable {C : Ctx} {U : Nat → Prop} {s : DS} {β : Nat → Option Nat} {a : Act} {w : World}

/-- A call in place. The callee sees the objects 'vis'; 'hid' are hidden from it. -/
theorem callF_ok {f : FuncId} {ds : List DV} {vs : List Value} {vis hid : Nat → Option DObj} {R : Nat → Prop} {K : DS → DV → Prop} (hs : HoldsB C U s β a w) (hU : ∀ id, U id ↔ id < s.nx ∧ ¬ R id) (hR : ∀ id, R id → id < s.nx)
    (hsplit : s.ho = vwF hid vis) (hdis : ∀ id o, hid id = some o → vis id = none) (hl : vs.length = ds.length)
    (hr : ∀ (j : Nat) (v : Value) (d : DV), vs[j]? = some v → ds[j]? = some d → WV C U (s.vw C) β w v d) (hk : callI C.P f ds ⟨s.sv, vis, s.nx⟩ K) :
    Calls C.P f vs.toArray w fun e w' => ∃ v d ho' nx' β', e = .returned v ∧ K ⟨s.sv, ho', nx'⟩ d ∧ (∀ id o, hid id = some o → ho' id = none) ∧ (∀ id, R id → id < nx') ∧
      HoldsB C (fun id => id < nx' ∧ ¬ R id) ⟨s.sv, vwF hid ho', nx'⟩ β' a w' ∧ WV C (fun id => id < nx' ∧ ¬ R id) ((⟨s.sv, vwF hid ho', nx'⟩ : DS).vw C) β' w' v d := by
  obtain ⟨fn, df, hf, hc, hn, h⟩ := hk
  have hUe : U = fun id => id < s.nx ∧ ¬ R id := funext fun id => propext (hU id)
  unfold compFn at hc
  split at hc
  rotate_left
  · cases hc
  rename_i body hb
  split at hc
  rotate_left
  · cases hc
  rename_i c r hcc hcr
  cases hc
  refine callsIn_wide.1 (callsIn_of_wp_marks (n := 0) hf hb trivial ?_)
  obtain ⟨C', hC'⟩ : ∃ C', C' = C.inner U (s.vw C) β a.defers w fn.ntmps none hid R := ⟨_, rfl⟩
  have hP : C'.P = C.P := by rw [hC']; rfl
  have hview : ∀ ho', vwF C'.Y ho' = vwF C.Y (vwF hid ho') := fun ho' => by rw [hC']; exact vwF_assoc _ _ _
  have hv0 : vwF C'.Y vis = s.vw C := by rw [hview, ← hsplit]; rfl
  obtain ⟨hh1, hw1⟩ := HH.ctx (C' := C') (by rw [hC']; rfl) (by rw [hC']; rfl) (by rw [hC']; rfl) (by rw [hC']; rfl) hs.hh
  have hYs : ∀ id o, C'.Y id = some o → vis id = none := fun id o hy => by
    rw [hC'] at hy
    simp only [Ctx.inner, vwF] at hy
    split at hy
    · rename_i o' ho'; exact hdis id o' ho'
    · have h1 := hs.yd id o hy
      rw [hsplit] at h1
      simp only [vwF] at h1
      split at h1
      · cases h1
      · assumption
  have hMk : ∀ D, C'.M D → Mark C β w { target := .collected D, args := #[] } := fun D hD => by
    rw [hC'] at hD
    exact hD.elim (hs.df.out D) hs.df.ownC
  have hent : HoldsB C' (Us C' s.nx) ⟨argF ds, vis, s.nx⟩ β { tmps := vs.toArray ++ Array.replicate (C'.nt - vs.toArray.size) undef, defers := [] } w := by
    have e1 : Us C' s.nx = U := by rw [hUe, hC']; rfl
    rw [e1]
    refine enters_ok (nx := s.nx) (ho := vis) (by rw [hv0]; exact hh1) (fun x d hx => ?_) hYs (fun D hD => ?_) (by rw [hC']; exact hn) hl (fun j v d hv hd => by rw [hv0]; exact (hw1 _ _).2 (hr j v d hv hd))
    · rw [hv0]
      rw [hC'] at hx
      rcases hx with hx | hx
      · exact (hw1 _ _).2 hx
      · exact (hw1 _ _).2 (hs.gh x d (.inr hx))
    · obtain ⟨D', g1, g2, g3, g4⟩ := hMk D hD
      exact ⟨D', g1, g2, by rw [hC']; exact g3, g4⟩
  have hC2 : C' = ⟨C.P, C.S, C.G, C.w0, fn.ntmps, C'.X, C'.M, none, C'.Y, R⟩ := by rw [hC']; rfl
  have hrun := h C.S C.G C.w0 C'.X C'.M C'.Y R
  rw [← hC2] at hrun
  have hnt : C'.nt = fn.ntmps := by rw [hC']; rfl
  have hbody := hrun body (by rw [hP, hnt]; exact hcc) _ w ⟨by rw [hC']; exact hR, β, hent⟩
  have hF : C'.F = Fence.wide := by rw [hC']; rfl
  rw [hF, hP] at hbody
  rw [hnt] at hbody
  refine wpIn_mono hbody ?_
  have hfin : ∀ (s' : DS) (a' : Act) (w' : World), Holds C' s' a' w' → (∃ d, resV s' r = some d ∧ K ⟨s.sv, s'.ho, s'.nx⟩ d) →
      LeavesInM Fence.wide 0 C.P fn a'.tmps (fun e w' => ∃ v d ho' nx' β', e = .returned v ∧ K ⟨s.sv, ho', nx'⟩ d ∧ (∀ id o, hid id = some o → ho' id = none) ∧ (∀ id, R id → id < nx') ∧
        HoldsB C (fun id => id < nx' ∧ ¬ R id) ⟨s.sv, vwF hid ho', nx'⟩ β' a w' ∧ WV C (fun id => id < nx' ∧ ¬ R id) ((⟨s.sv, vwF hid ho', nx'⟩ : DS).vw C) β' w' v d) a'.defers .returning w' := by
    rintro s' ⟨tmps, l⟩ w' ⟨hR', β', hs'⟩ ⟨d, hd, hK⟩
    have := ends_ok (C := C') (R := fun e w' => ∃ v d ho' nx' β', e = .returned v ∧ K ⟨s.sv, ho', nx'⟩ d ∧ (∀ id o, hid id = some o → ho' id = none) ∧ (∀ id, R id → id < nx') ∧
        HoldsB C (fun id => id < nx' ∧ ¬ R id) ⟨s.sv, vwF hid ho', nx'⟩ β' a w' ∧ WV C (fun id => id < nx' ∧ ¬ R id) ((⟨s.sv, vwF hid ho', nx'⟩ : DS).vw C) β' w' v d) (by rw [hP]; exact hcr) hd tmps (fun v w'' hs'' hrel => by
      have eU : Us C' s'.nx = fun id => id < s'.nx ∧ ¬ R id := by rw [hC']; rfl
      have eV : s'.vw C' = (⟨s.sv, vwF hid s'.ho, s'.nx⟩ : DS).vw C := hview s'.ho
      obtain ⟨hh2, hw2⟩ := HH.ctx (C := C') (C' := C) (by rw [hC']; rfl) (by rw [hC']; rfl) (by rw [hC']; rfl) (by rw [hC']; rfl) hs''.hh
      rw [eU, eV] at hh2
      have hw3 : ∀ x d, WV C' (Us C' s'.nx) (s'.vw C') β' w'' x d → WV C (fun id => id < s'.nx ∧ ¬ R id) ((⟨s.sv, vwF hid s'.ho, s'.nx⟩ : DS).vw C) β' w'' x d := fun x d hx => by
        have := (hw2 x d).2 hx
        rwa [eU, eV] at this
      refine ⟨v, d, s'.ho, s'.nx, β', rfl, hK, fun id o ho' => hs''.yd id o (by rw [hC']; simp only [Ctx.inner, vwF, ho']), fun id hid => hR' id (by rw [hC']; exact hid), ⟨hh2, ⟨hs.df.nodup, fun d hd => ?_, fun D hD => ?_, hs.df.apart⟩, hs.sz, fun t => ?_, fun x d hx => ?_, fun id o hy => ?_⟩, hw3 _ _ hrel⟩
      · rcases hs.df.own d hd with ⟨D, e, _⟩ | hq
        · subst e
          obtain ⟨D', g1, g2, g3, g4⟩ := hs''.df.out D (by rw [hC']; exact .inr hd)
          exact .inl ⟨D', g1, g2, by rw [hC'] at g3; exact g3, g4⟩
        · exact .inr hq
      · obtain ⟨D', g1, g2, g3, g4⟩ := hs''.df.out D (by rw [hC']; exact .inl hD)
        exact ⟨D', g1, g2, by rw [hC'] at g3; exact g3, g4⟩
      · exact hw3 _ _ (hs''.gh _ _ (.inl (by rw [hC']; exact hs.sl t)))
      · exact hw3 _ _ (hs''.gh _ _ (.inl (by rw [hC']; exact hs.gh x d hx)))
      · have h1 := hs.yd id o hy
        rw [hsplit] at h1
        have hhid : hid id = none := by
          simp only [vwF] at h1
          split at h1
          · cases h1
          · exact h1
        have h2 := hs''.yd id o (by rw [hC']; simp only [Ctx.inner, vwF, hhid]; exact hy)
        simp only [vwF, h2, hhid]) l w' hs'
    rw [hP] at this
    exact this
  rintro e a' w' ⟨s', ⟨h1, h2⟩, hs'⟩
  rcases h1 with rfl | rfl
  · exact hfin s' a' w' hs' h2
  · exact hfin s' a' w' hs' h2

theorem vwF_none (ho : Nat → Option DObj) : vwF (fun _ => none) ho = ho := by
  funext id; unfold vwF; cases ho id <;> rfl

/-- .. with nothing hidden. -/
theorem callI_ok {f : FuncId} {ds : List DV} {vs : List Value} {K : DS → DV → Prop} (hs : HoldsB C (Us C s.nx) s β a w) (hR : ∀ id, C.R id → id < s.nx) (hl : vs.length = ds.length)
    (hr : ∀ (j : Nat) (v : Value) (d : DV), vs[j]? = some v → ds[j]? = some d → WV C (Us C s.nx) (s.vw C) β w v d) (hk : callI C.P f ds s K) :
    Calls C.P f vs.toArray w fun e w' => ∃ v d s' β', e = .returned v ∧ K s' d ∧ (∀ id, C.R id → id < s'.nx) ∧ HoldsB C (Us C s'.nx) s' β' a w' ∧ WV C (Us C s'.nx) (s'.vw C) β' w' v d := by
  refine (callF_ok (vis := s.ho) (hid := fun _ => none) (R := C.R) hs (fun _ => Iff.rfl) hR (vwF_none _).symm (fun _ _ h => by cases h) hl hr hk).mono ?_
  rintro e w' ⟨v, d, ho', nx', β', h1, h2, _, h3, h4, h5⟩
  rw [vwF_none] at h4 h5
  exact ⟨v, d, ⟨s.sv, ho', nx'⟩, β', h1, h2, h3, h4, h5⟩

def DS.drops (s : DS) (ids : List Nat) : DS := { s with ho := fun id => if ids.contains id then none else s.ho id }
def giveOK (s : DS) (ids : List Nat) (ds : List DV) : Bool :=
  (ids.all fun id => match s.ho id with | some (.row _ cs) => (DV.refsL cs).all ids.contains | _ => true) && (DV.refsL ds).all ids.contains

/-- A call in a state. The arguments stand by themselves; or own rows are lent, the result leaning on no memory; or own rows are given away; or it is walked where it stands. -/
def callK (P : Program) (f : FuncId) (ds : List DV) (s : DS) (K : DS → DV → Prop) : Prop :=
  (∃ R, (∀ x ∈ ds, x.refs = []) ∧ DCall P f ds R ∧ ∀ d, R d → K s d) ∨
  (∃ ds' R, ds.mapM (rz s.ho 5) = some ds' ∧ DCall P f ds' R ∧ ∀ d, R d → Plain d ∧ K s d) ∨
  (∃ ids ds' R, giveOK s ids ds = true ∧ ds.mapM (rz s.ho 5) = some ds' ∧ DCall P f ds' R ∧ ∀ d, R d → K (s.drops ids) d) ∨
  callI P f ds s K

theorem frz_call {V : Nat → Option DObj} {w' : World} (hh : HH C U V β w) {x : Value} {d : DV} {S : Nat → Prop} (hS : ∀ b, S b → alw C w β b) (h : RelI w' (fun b => (S b ∨ w.heap.size ≤ b) ∧ b < w'.heap.size) x d) : RelI w' (alw C w' β) x d := by
  refine h.mono fun b hb => ⟨?_, rfl⟩
  rcases hb.1 with h1 | h1
  · obtain ⟨h2, h3, h4⟩ := hS b h1
    exact ⟨h2, hb.2, h4⟩
  · refine ⟨.inr (.inl (Nat.le_trans hh.bel.size h1)), hb.2, fun id hid => ?_⟩
    have := hh.lt hid
    omega

theorem glv_in (hs : HoldsB C U s β a w) (x : Value) (d : DV) (h : GLV x d) : RelI w (alw C w β) x d := by
  have h1 := hs.gh x d (.inr h)
  obtain ⟨g, cs, hg, rfl, rfl⟩ := h
  exact rel_imm (h1.2.1 fun id hi => (by simp [DV.refs] at hi)) (by simp [DV.refs])
/-- A call whose arguments are read in allowed blocks. -/
theorem call_in {f : FuncId} {ds : List DV} {vs : List Value} {R : DV → Prop} (hs : HoldsB C U s β a w) (hl : vs.length = ds.length)
    (hr : ∀ (j : Nat) (v : Value) (d : DV), vs[j]? = some v → ds[j]? = some d → RelI w (alw C w β) v d) (hc : DCall C.P f ds R) :
    Calls C.P f vs.toArray w fun e w' => ∃ v d, e = .returned v ∧ R d ∧ HoldsB C U s β a w' ∧ WV C U (s.vw C) β w' v d := by
  refine (hc w (alw C w β) vs (fun b hb => hb.2.1) hl hr (glv_in hs)).mono ?_
  rintro e w' ⟨v, r, rfl, hR, hb, hrel⟩
  exact ⟨v, r, rfl, hR, hs.keep hb, wv_imm (frz_call hs.hh (fun b hb => hb) hrel)⟩

theorem HoldsB.drops (hs : HoldsB C U s β a w) (ids : List Nat) :
    ∃ β', HoldsB C U (s.drops ids) β' a w ∧ (∀ b, alw C w β b → alw C w β' b) ∧ ∀ id ∈ ids, (s.ho id).isSome = true → ∀ b, β id = some b → alw C w β' b := by
  let β' : Nat → Option Nat := fun id => if id ∈ ids ∧ (s.ho id).isSome = true then none else β id
  have hsome : ∀ j b, β' j = some b → β j = some b ∧ ¬ (j ∈ ids ∧ (s.ho j).isSome = true) := fun j b hb => by
    by_cases hj : j ∈ ids ∧ (s.ho j).isSome = true
    · simp only [β', if_pos hj] at hb; cases hb
    · simp only [β', if_neg hj] at hb; exact ⟨hb, hj⟩
  refine ⟨β', ?_, fun b ⟨h1, h2, h3⟩ => ⟨h1, h2, fun j hj => h3 j (hsome j b hj).1⟩, fun id hi ha b hb => ⟨.inr (hs.hh.bge id b hb).1, hs.hh.lt hb, fun j hj => ?_⟩⟩
  · have hl := hs.hh.less (U' := U) (β' := β') (V' := (s.drops ids).vw C) (fun _ h => h) (fun id => ?_) (fun id => ?_)
    · exact hs.carry rfl (fun id o hy => by simp only [DS.drops]; rw [hs.yd id o hy]; simp) hl
    · by_cases hi : id ∈ ids ∧ (s.ho id).isSome = true
      · refine .inr ⟨by simp [β', hi], ?_⟩
        have := hs.apart hi.2
        simp [DS.vw, vwF, DS.drops, hi.1, this]
      · exact .inl (by simp [β', hi])
    · by_cases hi : id ∈ ids
      · cases ho : s.ho id with
        | none => exact .inl (by simp [DS.vw, vwF, DS.drops, ho])
        | some o =>
          have := hs.apart (i := id) (by rw [ho]; rfl)
          exact .inr (by simp [DS.vw, vwF, DS.drops, hi, this])
      · exact .inl (by simp [DS.vw, vwF, DS.drops, hi])
  · obtain ⟨h1, h2⟩ := hsome j b hj
    have := hs.hh.inj j id b h1 hb
    subst this
    exact h2 ⟨hi, ha⟩

theorem call_ok {f : FuncId} {ds : List DV} {vs : List Value} {K : DS → DV → Prop} (hs : HoldsB C (Us C s.nx) s β a w) (hR : ∀ id, C.R id → id < s.nx) (hl : vs.length = ds.length)
    (hr : ∀ (j : Nat) (v : Value) (d : DV), vs[j]? = some v → ds[j]? = some d → WV C (Us C s.nx) (s.vw C) β w v d) (hk : callK C.P f ds s K) :
    Calls C.P f vs.toArray w fun e w' => ∃ v d s' β', e = .returned v ∧ K s' d ∧ (∀ id, C.R id → id < s'.nx) ∧ HoldsB C (Us C s'.nx) s' β' a w' ∧ WV C (Us C s'.nx) (s'.vw C) β' w' v d := by
  rcases hk with ⟨R, himm, hcall, hK⟩ | ⟨ds', R, hm, hcall, hK⟩ | ⟨ids, ds', R, hg, hm, hcall, hK⟩ | hcallI
  · refine (call_in hs hl (fun j v d hv hd => ?_) hcall).mono ?_
    · have h0 := himm d (List.mem_of_getElem? hd)
      exact rel_imm ((hr j v d hv hd).2.1 fun id hi => by rw [h0] at hi; cases hi) h0
    · rintro e w' ⟨v, d, rfl, hR', h1, h2⟩
      exact ⟨v, d, s, β, rfl, hK d hR', hR, h1, h2⟩
  · obtain ⟨hml, hmr⟩ := mapM_some hm
    refine (hcall w (frz C w) vs (fun b hb => hb.2) (by omega) (fun j v d hv hd => ?_) (fun x d hx => (glv_in hs x d hx).mono fun b hb => ⟨⟨hb.1, hb.2.1⟩, rfl⟩)).mono ?_
    · have hj : j < ds.length := by have := (List.getElem?_eq_some_iff.1 hd).1; omega
      exact rz_ok hs.hh (fun _ _ => vw_some) 5 v ds[j] d (hr j v _ hv (List.getElem?_eq_getElem hj)) (hmr j _ d (List.getElem?_eq_getElem hj) hd)
    · rintro e w' ⟨v, r, rfl, hR', hb, hrel⟩
      exact ⟨v, r, s, β, rfl, (hK r hR').2, hR, hs.keep hb, wv_imm (relI_plain hrel (hK r hR').1)⟩
  · obtain ⟨hml, hmr⟩ := mapM_some hm
    simp only [giveOK, Bool.and_eq_true, List.all_eq_true] at hg
    obtain ⟨hg1, hg2⟩ := hg
    obtain ⟨β', h1, h2, h3⟩ := hs.drops ids
    refine (call_in h1 (by omega) (fun j v d hv hd => ?_) hcall).mono ?_
    · have hj : j < ds.length := by have := (List.getElem?_eq_some_iff.1 hd).1; omega
      have hz := hmr j _ d (List.getElem?_eq_getElem hj) hd
      refine rz_okA hs.hh (fun _ _ => vw_some) (alw C w β') (fun id => id ∈ ids) h2 (fun id b hi ha hb => h3 id hi ha b hb) (fun id T cs hi ho k hk => ?_) 5 v ds[j] d (fun id hi => ?_) (hr j v _ hv (List.getElem?_eq_getElem hj)) hz
      · have := hg1 id hi
        rw [ho] at this
        have := List.all_eq_true.1 this k hk
        simpa using this
      · have := hg2 id (DV.refsL_mem (List.getElem_mem hj) hi)
        simpa using this
    · rintro e w' ⟨v, d, rfl, hR', h4, h5⟩
      exact ⟨v, d, s.drops ids, β', rfl, hK d hR', hR, h4, h5⟩
  · exact callI_ok hs hR hl hr hcallI
end

end Go.DD
