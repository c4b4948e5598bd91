/- How the relation is kept: by whatever a callee does, by new own objects, by stores and appends to own rows, by forgetting. -/
import Derived.Test.YtpaggdhijeabnaaGreatDoorHa
namespace Go.DD
open Go.RowKit (Below)

/-- The objects with one put (or struck). -/
def setH (ho : Nat → Option DObj) (id : Nat) (o : Option DObj) : Nat → Option DObj := fun j => if j = id then o else ho j
@[simp] theorem setH_same (ho : Nat → Option DObj) (id : Nat) (o : Option DObj) : setH ho id o id = o := by simp [setH]
theorem setH_other (ho : Nat → Option DObj) {id j : Nat} (o : Option DObj) (h : j ≠ id) : setH ho id o j = ho j := by simp [setH, h]

def upd (β : Nat → Option Nat) (i : Nat) (v : Option Nat) : Nat → Option Nat := fun j => if j = i then v else β j
@[simp] theorem upd_same (β : Nat → Option Nat) (i : Nat) (v : Option Nat) : upd β i v i = v := by simp [upd]
theorem upd_other (β : Nat → Option Nat) {i j : Nat} (v : Option Nat) (h : j ≠ i) : upd β i v j = β j := by simp [upd, h]

section
variable {C : Ctx} {U U' : Nat → Prop} {V V' : Nat → Option DObj} {β β' : Nat → Option Nat} {w w' : World}

theorem HH.lt (h : HH C U V β w) {id b : Nat} (hb : β id = some b) : b < w.heap.size := (h.bge id b hb).2
theorem HH.used (h : HH C U V β w) {id : Nat} (hv : (V id).isSome = true) : U id := by
  apply Classical.byContradiction
  intro hn
  rw [h.fr id hn] at hv; cases hv
theorem TP.of_rel {P : Program} {al : Nat → Prop} {x : Value} {d : DV} (h : Rel P w al β x d) : TP x d := by
  intro ds hd i v hv
  subst hd
  cases h with
  | imm _ _ h =>
    cases h with
    | tup vs cs hl h =>
      obtain ⟨hi, _⟩ := List.getElem?_eq_some_iff.1 hv
      have hlt : i < vs.length := by omega
      have := h i _ _ (List.getElem?_eq_getElem hlt) hv
      generalize he : vs[i] = u at this
      cases this
      exact ⟨_, rfl, by simp [List.getElem?_eq_getElem hlt, he]⟩
  | tup vs cs hl h =>
    obtain ⟨hi, _⟩ := List.getElem?_eq_some_iff.1 hv
    have hlt : i < vs.length := by omega
    have := h i _ _ (List.getElem?_eq_getElem hlt) hv
    generalize he : vs[i] = u at this
    cases this with
    | imm _ _ h => cases h; exact ⟨_, rfl, by simp [List.getElem?_eq_getElem hlt, he]⟩
theorem TP.nt {x : Value} {d : DV} (h : ∀ ds, d ≠ .tup ds) : TP x d := fun ds hd => (h ds hd).elim
/-- A plain value reads as itself. -/
theorem WV.v_eq {x y : Value} (h : WV C U V β w x (.v y)) : x = y := by
  have := h.2.1 (fun id hi => by simp [DV.refs] at hi)
  cases this with
  | imm _ _ h => cases h; rfl
theorem TP.of_wv {us : List Value} {cs : List DV} (hl : us.length = cs.length) (hr : ∀ (j : Nat) (u : Value) (d : DV), us[j]? = some u → cs[j]? = some d → WV C U V β w u d) : TP (.tuple us.toArray) (.tup cs) := by
  intro ds hd i v hv
  cases hd
  obtain ⟨hi, _⟩ := List.getElem?_eq_some_iff.1 hv
  have hlt : i < us.length := by omega
  exact ⟨_, rfl, by simp [List.getElem?_eq_getElem hlt, (hr i _ _ (List.getElem?_eq_getElem hlt) hv).v_eq]⟩
/-- What is there is stored as it is. -/
theorem HH.wv (h : HH C U V β w) {x : Value} {d : DV} (hr : Rel C.P w (alw C w β) β x d) (ha : ∀ id ∈ d.refs, (V id).isSome = true) : WV C U V β w x d :=
  ⟨fun id hi => h.used (ha id hi), fun _ => hr, TP.of_rel hr⟩
theorem WV.flat {x : Value} {d : DV} (hr : Rel C.P w (alw C w β) β x d) (ha : d.refs = []) : WV C U V β w x d := ⟨fun id hi => (by rw [ha] at hi; cases hi), fun _ => hr, TP.of_rel hr⟩
theorem WV.any {x : Value} : WV C U V β w x .any := WV.flat (.imm _ _ (.any x)) rfl
theorem WV.v (x : Value) : WV C U V β w x (.v x) := WV.flat (.imm _ _ (.v x)) rfl

theorem below_keep (h : BelG C w) (hk : Below w.heap.size w w') : BelG C w' :=
  ⟨hk.os.trans h.os, hk.tape.trans h.tape, hk.output.trans h.output, Nat.le_trans h.size hk.size, fun k hk1 hk2 => (hk.block k (Nat.lt_of_lt_of_le hk1 h.size)).trans (h.block k hk1 hk2)⟩

/-- An object's parts, kept one by one. -/
theorem RelO.keep {id : Nat} {o : DObj} (h : RelO C U V β w id o) (hβ : β' id = β id) (hb : ∀ b, β id = some b → w'.heap[b]? = w.heap[b]?) (hw : ∀ x d, WV C U V β w x d → WV C U' V' β' w' x d) : RelO C U' V' β' w' id o := by
  cases o with
  | row T cs =>
    rcases h with ⟨h1, h2⟩ | ⟨b, c, h1, hc, hl, hx, hr⟩
    · exact .inl ⟨hβ.trans h1, h2⟩
    · exact .inr ⟨b, c, hβ.trans h1, (hb b h1).trans hc, hl, hx, fun j u d hu hd => ⟨hw _ _ (hr j u d hu hd).1, (hr j u d hu hd).2⟩⟩
  | mapo ck es =>
    obtain ⟨b, ms, h1, hm, hs, hr⟩ := h
    exact ⟨b, ms, hβ.trans h1, (hb b h1).trans hm, hs, fun j e p he hp => ⟨(hr j e p he hp).1, (hr j e p he hp).2.1, hw _ _ (hr j e p he hp).2.2⟩⟩
  | loop lp =>
    obtain ⟨b, r, h1, hm, q1, q2, q3, q4, q5, q6, hr⟩ := h
    exact ⟨b, r, hβ.trans h1, (hb b h1).trans hm, q1, q2, q3, q4, q5, q6, fun t => hw _ _ (hr t)⟩
  | siter t pos =>
    obtain ⟨b, h1, hm⟩ := h
    exact ⟨b, hβ.trans h1, (hb b h1).trans hm⟩
  | miter m since seen last =>
    obtain ⟨b, mv, h1, hm, hr⟩ := h
    exact ⟨b, mv, hβ.trans h1, (hb b h1).trans hm, hw _ _ hr⟩

/-- Whatever leaves the blocks that are there as they were. -/
theorem HH.keep (h : HH C U V β w) (hk : Below w.heap.size w w') : HH C U V β w' ∧ (∀ x d, WV C U V β w x d → WV C U V β w' x d) ∧ KeepO w β w' β := by
  have hal : ∀ b, alw C w β b → alw C w' β b ∧ ((∃ c T r, w.heap[b]? = some (.cells c T r)) → w'.heap[b]? = w.heap[b]?) := fun b ⟨h1, h2, h3⟩ => ⟨⟨h1, Nat.lt_of_lt_of_le h2 hk.size, h3⟩, fun _ => hk.block b h2⟩
  have hrel : ∀ x d, WV C U V β w x d → WV C U V β w' x d := fun x d ⟨h1, h2, h3⟩ =>
    ⟨h1, fun ha => (h2 ha).mono hal fun id _ b hb => ⟨hb, SameShape.of_eq (hk.block b (h.lt hb))⟩, h3⟩
  refine ⟨⟨h.ok, below_keep h.bel hk, fun id b hb => ⟨(h.bge id b hb).1, Nat.lt_of_lt_of_le (h.lt hb) hk.size⟩, h.inj, h.fr, fun id o ho => ?_⟩, hrel, fun b hb hn => ⟨hk.block b hb, hn⟩⟩
  exact (h.hp id o ho).keep rfl (fun b hb => hk.block b (h.lt hb)) hrel

theorem below_drew (w : World) : Below w.heap.size w w.drew := (Below.refl _ _).drew
theorem below_alloc (w : World) (o : Obj) : Below w.heap.size w (w.alloc o) := (Below.refl _ _).alloc (Nat.le_refl _) o

/-- A new object 'nid' is laid; the object 'old' may go, and hand its block on. -/
theorem HH.turn (h : HH C U V β w) (nid : Nat) (old : Option Nat) (hfresh : ¬ U nid) (hU' : ∀ id, U' id ↔ U id ∨ id = nid) (hold : ∀ i, old = some i → U i)
    (hother : ∀ b, b < w.heap.size → (∀ i, old = some i → β i ≠ some b) → w'.heap[b]? = w.heap[b]?)
    (hos : w'.os = w.os) (htape : w'.tape = w.tape) (hout : w'.output = w.output) (hsz : w.heap.size ≤ w'.heap.size)
    (hβ : ∀ j, j ≠ nid → old ≠ some j → β' j = β j) (hβo : ∀ i, old = some i → β' i = none)
    (hnew : ∀ b, β' nid = some b → ((∃ i, old = some i ∧ β i = some b) ∨ w.heap.size ≤ b) ∧ b < w'.heap.size)
    (hV : ∀ j, j ≠ nid → V' j = if old = some j then none else V j)
    (hobj : ∀ o, V' nid = some o → (∀ x d, WV C U V β w x d → WV C U' V' β' w' x d) → RelO C U' V' β' w' nid o) :
    HH C U' V' β' w' ∧ (∀ x d, WV C U V β w x d → WV C U' V' β' w' x d) ∧ KeepO w β w' β' := by
  have hne : ∀ i, old = some i → i ≠ nid := fun i hi he => hfresh (he ▸ hold i hi)
  have hsome : ∀ j b, β' j = some b → (j = nid) ∨ (j ≠ nid ∧ old ≠ some j ∧ β j = some b) := fun j b hb => by
    by_cases hj : j = nid
    · exact .inl hj
    · by_cases ho : old = some j
      · rw [hβo j ho] at hb; cases hb
      · exact .inr ⟨hj, ho, by rw [← hβ j hj ho]; exact hb⟩
  have hnoown : ∀ b, b < w.heap.size → (∀ id, β id ≠ some b) → ∀ j, β' j ≠ some b := fun b h2 h3 j hj => by
    rcases hsome j b hj with rfl | ⟨_, _, h4⟩
    · rcases (hnew b hj).1 with ⟨i, _, h4⟩ | h4
      · exact h3 i h4
      · omega
    · exact h3 j h4
  have hal : ∀ b, alw C w β b → alw C w' β' b ∧ ((∃ c T r, w.heap[b]? = some (.cells c T r)) → w'.heap[b]? = w.heap[b]?) := fun b ⟨h1, h2, h3⟩ =>
    ⟨⟨h1, Nat.lt_of_lt_of_le h2 hsz, hnoown b h2 h3⟩, fun _ => hother b h2 fun i _ => h3 i⟩
  have hkept : ∀ j b, j ≠ nid → old ≠ some j → β j = some b → w'.heap[b]? = w.heap[b]? := fun j b hj ho hb =>
    hother b (h.lt hb) fun i hi e => ho (by rw [hi, h.inj i j b e hb])
  have hrel : ∀ x d, WV C U V β w x d → WV C U' V' β' w' x d := fun x d ⟨h1, h2, htp⟩ => by
    refine ⟨fun id hi => (hU' id).2 (.inl (h1 id hi)), fun ha => ?_, htp⟩
    have hout : ∀ id ∈ d.refs, id ≠ nid ∧ old ≠ some id := fun id hi => by
      have hn : id ≠ nid := fun e => hfresh (e ▸ h1 id hi)
      refine ⟨hn, fun e => ?_⟩
      have := ha id hi
      rw [hV id hn, if_pos e] at this; cases this
    refine (h2 fun id hi => ?_).mono hal fun id hi b hb => ?_
    · have := ha id hi
      rwa [hV id (hout id hi).1, if_neg (hout id hi).2] at this
    · exact ⟨by rw [hβ id (hout id hi).1 (hout id hi).2]; exact hb, SameShape.of_eq (hkept id b (hout id hi).1 (hout id hi).2 hb)⟩
  have hbelG : BelG C w' := ⟨hos.trans h.bel.os, htape.trans h.bel.tape, hout.trans h.bel.output, Nat.le_trans h.bel.size hsz, fun k hk1 hk2 => by
    refine (hother k (Nat.lt_of_lt_of_le hk1 h.bel.size) fun i _ e => ?_).trans (h.bel.block k hk1 hk2)
    rcases (h.bge _ _ e).1 with h4 | h4
    · omega
    · exact hk2 h4⟩
  refine ⟨⟨h.ok, hbelG, fun j b hb => ?_, fun i j b hi hj => ?_, fun id hn => ?_, fun j o hj => ?_⟩, hrel, fun b hb hn => ⟨hother b hb fun i _ => hn i, hnoown b hb hn⟩⟩
  · rcases hsome j b hb with rfl | ⟨_, _, h4⟩
    · refine ⟨?_, (hnew b hb).2⟩
      rcases (hnew b hb).1 with ⟨i, _, h4⟩ | h4
      · exact (h.bge _ b h4).1
      · exact .inl (Nat.le_trans h.bel.size h4)
    · exact ⟨(h.bge j b h4).1, Nat.lt_of_lt_of_le (h.lt h4) hsz⟩
  · rcases hsome i b hi with rfl | ⟨h1, h2, h3⟩ <;> rcases hsome j b hj with rfl | ⟨g1, g2, g3⟩
    · rfl
    · exfalso
      rcases (hnew b hi).1 with ⟨k, hk, h4⟩ | h4
      · exact g2 (by rw [hk, h.inj k j b h4 g3])
      · have := h.lt g3; omega
    · exfalso
      rcases (hnew b hj).1 with ⟨k, hk, h4⟩ | h4
      · exact h2 (by rw [hk, h.inj k i b h4 h3])
      · have := h.lt h3; omega
    · exact h.inj i j b h3 g3
  · have h1 : ¬ U id := fun hu => hn ((hU' id).2 (.inl hu))
    have h2 : id ≠ nid := fun e => hn ((hU' id).2 (.inr e))
    rw [hV id h2]
    split
    · rfl
    · exact h.fr id h1
  · by_cases hji : j = nid
    · subst hji; exact hobj o hj hrel
    · rw [hV j hji] at hj
      split at hj
      · cases hj
      · rename_i ho
        exact (h.hp j o hj).keep (hβ j hji ho) (fun b hb => hkept j b hji ho hb) hrel

/-- A store into an own object, which keeps its shape: all that refers to it goes on referring to it. -/
theorem HH.write (h : HH C U V β w) (id bid : Nat) (hid : β id = some bid) (hvid : (V id).isSome = true)
    (hother : ∀ b, b ≠ bid → w'.heap[b]? = w.heap[b]?)
    (hsz : w'.heap.size = w.heap.size) (hos : w'.os = w.os) (htape : w'.tape = w.tape) (hout : w'.output = w.output)
    (hshape : SameShape w w' bid)
    (hV : ∀ j, j ≠ id → V' j = V j) (hVi : (V' id).isSome = true)
    (hobj : ∀ o, V' id = some o → (∀ x d, WV C U V β w x d → WV C U V' β w' x d) → RelO C U V' β w' id o) :
    HH C U V' β w' ∧ (∀ x d, WV C U V β w x d → WV C U V' β w' x d) ∧ KeepO w β w' β := by
  have hal : ∀ b, alw C w β b → alw C w' β b ∧ ((∃ c T r, w.heap[b]? = some (.cells c T r)) → w'.heap[b]? = w.heap[b]?) := by
    rintro b ⟨h1, h2, h3⟩
    exact ⟨⟨h1, by omega, h3⟩, fun _ => hother b (fun e => h3 id (by rw [hid, e]))⟩
  have hrel : ∀ x d, WV C U V β w x d → WV C U V' β w' x d := fun x d ⟨h1, h2, htp⟩ => by
    refine ⟨h1, fun ha => (h2 fun j hj => ?_).mono hal fun j _ b hb => ?_, htp⟩
    · by_cases hji : j = id
      · subst hji; exact hvid
      · rw [← hV j hji]; exact ha j hj
    · refine ⟨hb, ?_⟩
      by_cases hbb : b = bid
      · subst hbb; exact hshape
      · exact SameShape.of_eq (hother b hbb)
  have hb0 := (h.bge id bid hid).1
  have hbelG : BelG C w' := ⟨hos.trans h.bel.os, htape.trans h.bel.tape, hout.trans h.bel.output, by have := h.bel.size; omega, fun k hk1 hk2 => by
    refine (hother k fun e => ?_).trans (h.bel.block k hk1 hk2)
    rcases hb0 with h4 | h4
    · omega
    · exact hk2 (e ▸ h4)⟩
  refine ⟨⟨h.ok, hbelG, fun j b hb => ⟨(h.bge j b hb).1, by have := h.lt hb; omega⟩, h.inj, fun j hj => ?_, fun j o hj => ?_⟩, hrel, fun b _ hn => ⟨hother b (fun e => hn id (by rw [hid, e])), hn⟩⟩
  · have hne : j ≠ id := fun e => hj (e ▸ h.used hvid)
    rw [hV j hne]; exact h.fr j hj
  · by_cases hji : j = id
    · subst hji; exact hobj o hj hrel
    · rw [hV j hji] at hj
      exact (h.hp j o hj).keep rfl (fun b hb => hother b fun e => hji (h.inj j id b hb (by rw [e]; exact hid))) hrel

/-- Fewer objects; blocks that are handed out; more numbers. -/
theorem HH.less (h : HH C U V β w) (hU : ∀ id, U id → U' id) (hβ : ∀ id, β' id = β id ∨ (β' id = none ∧ V' id = none)) (hV : ∀ id, V' id = V id ∨ V' id = none) :
    HH C U' V' β' w ∧ (∀ x d, WV C U V β w x d → WV C U' V' β' w x d) ∧ KeepO w β w β' := by
  have hsome : ∀ j b, β' j = some b → β j = some b := fun j b hb => by
    rcases hβ j with e | e
    · rw [← e]; exact hb
    · rw [e.1] at hb; cases hb
  have hal : ∀ b, alw C w β b → alw C w β' b ∧ ((∃ c T r, w.heap[b]? = some (.cells c T r)) → w.heap[b]? = w.heap[b]?) := fun b ⟨h1, h2, h3⟩ => ⟨⟨h1, h2, fun j hj => h3 j (hsome j b hj)⟩, fun _ => rfl⟩
  have hrel : ∀ x d, WV C U V β w x d → WV C U' V' β' w x d := fun x d ⟨h1, h2, htp⟩ => by
    refine ⟨fun id hi => hU id (h1 id hi), fun ha => (h2 fun id hi => ?_).mono hal fun id hi b hb => ⟨?_, SameShape.of_eq rfl⟩, htp⟩
    · have := ha id hi
      rcases hV id with e | e
      · rw [← e]; exact this
      · rw [e] at this; cases this
    · rcases hβ id with e | e
      · rw [e]; exact hb
      · have := ha id hi
        rw [e.2] at this; cases this
  refine ⟨⟨h.ok, h.bel, fun id b hb => h.bge id b (hsome id b hb), fun i j b hi hj => h.inj i j b (hsome i b hi) (hsome j b hj), fun id hn => ?_, fun id o ho => ?_⟩, hrel, fun b _ hn => ⟨rfl, fun j hj => hn j (hsome j b hj)⟩⟩
  · rcases hV id with e | e
    · rw [e]; exact h.fr id fun hu => hn (hU id hu)
    · exact e
  · rcases hV id with e | e
    · rw [e] at ho
      have hβ' : β' id = β id := by
        rcases hβ id with e' | e'
        · exact e'
        · rw [e'.2] at e; rw [← e] at ho; cases ho
      exact (h.hp id o ho).keep hβ' (fun _ _ => rfl) hrel
    · rw [e] at ho; cases ho
end

/-! The state's own operations. -/
/-- Lay, write or strike the object 'id'. -/
def DS.lay (s : DS) (id : Nat) (o : Option DObj) : DS := { s with ho := setH s.ho id o }
def DS.put (s : DS) (dst : Option Nat) (d : DV) : DS :=
  match dst with
  | some t => { s with sv := fun u => if t = u then d else s.sv u }
  | none => s

@[simp] theorem DS.ho_lay_same (s : DS) (id : Nat) (o : Option DObj) : (s.lay id o).ho id = o := by simp [DS.lay]
theorem DS.ho_lay_other (s : DS) {id j : Nat} (o : Option DObj) (h : j ≠ id) : (s.lay id o).ho j = s.ho j := by simp [DS.lay, setH, h]
@[simp] theorem DS.sv_lay (s : DS) (id : Nat) (o : Option DObj) (t : Nat) : (s.lay id o).sv t = s.sv t := rfl
@[simp] theorem DS.ho_put (s : DS) (dst : Option Nat) (d : DV) : (s.put dst d).ho = s.ho := by cases dst <;> rfl
@[simp] theorem DS.nx_put (s : DS) (dst : Option Nat) (d : DV) : (s.put dst d).nx = s.nx := by cases dst <;> rfl
@[simp] theorem DS.vw_put (C : Ctx) (s : DS) (dst : Option Nat) (d : DV) : (s.put dst d).vw C = s.vw C := by cases dst <;> rfl
theorem DS.sv_put_same (s : DS) (t : Nat) (d : DV) : (s.put (some t) d).sv t = d := by simp [DS.put]
theorem DS.sv_put_other (s : DS) {t u : Nat} (d : DV) (h : t ≠ u) : (s.put (some t) d).sv u = s.sv u := by simp [DS.put, h]
theorem vw_some {C : Ctx} {s : DS} {id : Nat} {o : DObj} (h : s.ho id = some o) : s.vw C id = some o := by simp [DS.vw, vwF, h]
theorem vw_alive {C : Ctx} {s : DS} {id : Nat} (h : (s.ho id).isSome = true) : (s.vw C id).isSome = true := by
  obtain ⟨o, ho⟩ := Option.isSome_iff_exists.1 h
  rw [vw_some ho]; rfl

section
variable {C : Ctx} {U : Nat → Prop} {s : DS} {β : Nat → Option Nat} {a : Act} {w : World}

theorem HoldsB.put (h : HoldsB C U s β a w) (dst : Option Nat) (hd : ∀ t, dst = some t → t < C.nt) {x : Value} {d : DV}
    (hr : WV C U (s.vw C) β w x d) : HoldsB C U (s.put dst d) β (a.put dst x) w := by
  cases dst with
  | none => exact h
  | some t =>
    refine ⟨by rw [DS.vw_put]; exact h.hh, h.df, by simp [Act.put, h.sz], fun u => ?_, by rw [DS.vw_put]; exact h.gh, by rw [DS.ho_put]; exact h.yd⟩
    rw [DS.vw_put]
    by_cases htu : t = u
    · subst htu
      rw [DS.sv_put_same]
      have hlt : t < a.tmps.size := by rw [h.sz]; exact hd t rfl
      have : (a.put (some t) x).tmps.getD t undef = x := by simp [Act.put, hlt]
      rw [this]; exact hr
    · rw [DS.sv_put_other s d htu]
      have : (a.put (some t) x).tmps.getD u undef = a.tmps.getD u undef := by simp [Act.put, Array.getElem?_setIfInBounds_ne htu]
      rw [this]; exact h.sl u

/-- Carried over, where the heap's part and all that is stored are. -/
theorem HoldsB.carry {U' : Nat → Prop} {s' : DS} {β' : Nat → Option Nat} {w' : World} (hs : HoldsB C U s β a w) (hsv : s'.sv = s.sv) (hyd : ∀ id o, C.Y id = some o → s'.ho id = none)
    (h : HH C U' (s'.vw C) β' w' ∧ (∀ x d, WV C U (s.vw C) β w x d → WV C U' (s'.vw C) β' w' x d) ∧ KeepO w β w' β') : HoldsB C U' s' β' a w' :=
  ⟨h.1, h.2.2.mark hs.df, hs.sz, fun t => by rw [hsv]; exact h.2.1 _ _ (hs.sl t), fun x d hx => h.2.1 _ _ (hs.gh x d hx), hyd⟩

theorem HoldsB.keep {w' : World} (hs : HoldsB C U s β a w) (hb : Below w.heap.size w w') : HoldsB C U s β a w' := hs.carry rfl hs.yd (hs.hh.keep hb)
theorem HoldsB.grow {U' : Nat → Prop} (hs : HoldsB C U s β a w) (hU : ∀ id, U id → U' id) : HoldsB C U' s β a w := hs.carry rfl hs.yd (hs.hh.less hU (fun _ => .inl rfl) (fun _ => .inl rfl))
end

end Go.DD
