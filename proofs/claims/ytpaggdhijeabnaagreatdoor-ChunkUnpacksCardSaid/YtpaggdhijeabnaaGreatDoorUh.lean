/- The evaluator, read with symbols: regions that draw their order, with guards, calls and new objects; rows of bytes. -/
import Derived.Test.YtpaggdhijeabnaaGreatDoorUg
namespace Go.DD
open Go

section
variable {call : CallT} {n0 m i : Nat} {es : ES} {lo an : List Nat} {ws : List Look} {pp : List Past} {Q : DSt → Prop} {ps : List Pa} {dst : Option Pa}
theorem tw_g {p : Pa} {b : Bool} {s : DStp} : TW (dG p b dst s) call n0 m ⟨es, lo, ws, pp⟩ Q ↔ GW (rawE es (.t p)) b (TW s call n0 m ⟨es, lo, ws, pp⟩ Q) (Q ⟨es.putE dst (.v undef), lo, ws, pp⟩) := by
  have key : ∀ c, wantE es p b = some c → dG p b dst s call n0 m ⟨es, lo, ws, pp⟩ = Bool.rec (motive := fun _ => Option DSt) (some ⟨es.putE dst (.v undef), lo, ws, pp⟩) (s call n0 m ⟨es, lo, ws, pp⟩) c := by
    intro c hc
    unfold dG
    show Option.rec (motive := fun _ => Option DSt) none _ (wantE es p b) = _
    rw [hc]; rfl
  constructor
  · rintro ⟨δ', h1, h2⟩
    have h0 : ∃ c, wantE es p b = some c := by
      unfold dG at h1
      obtain ⟨c, h3, _⟩ := optR h1
      exact ⟨c, h3⟩
    obtain ⟨c, hc⟩ := h0
    rw [key c hc] at h1
    rcases want_some hc with ⟨t, h3, rfl⟩ | ⟨vs, h3, rfl⟩
    · refine .inl ⟨t, h3, fun e => ?_, fun e => ?_⟩
      · subst e
        simp only [beq_self_eq_true] at h1
        exact ⟨δ', h1, h2⟩
      · have : (t == b) = false := by simpa using e
        rw [this] at h1
        cases h1
        exact h2
    · cases h1
      exact .inr ⟨vs, h3, h2⟩
  · rintro (⟨c, h1, h2, h3⟩ | ⟨vs, h1, h2⟩)
    · have hw : wantE es p b = some (c == b) := by unfold wantE; rw [h1]; rfl
      by_cases hc : c = b
      · obtain ⟨δ', h4, h5⟩ := h2 hc
        refine ⟨δ', ?_, h5⟩
        rw [key _ hw]
        subst hc
        simp only [beq_self_eq_true]
        exact h4
      · have : (c == b) = false := by simpa using hc
        exact ⟨_, by rw [key _ hw, this], h3 hc⟩
    · have hw : wantE es p b = some false := by unfold wantE; rw [h1]; rfl
      exact ⟨_, by rw [key _ hw], h2⟩
/-- One that orders: nothing that is laid beside it. -/
theorem tw_main {s : Stp} (hid : (lo.filter fun j => !an.contains j) = []) : TW (dMain i an s) call n0 m ⟨es, lo, ws, pp⟩ Q ↔ SW s call es fun es' => es.nx ≤ es'.nx ∧ Q ⟨es', [], ws, ⟨i, an, es.hp, es'.hp⟩ :: pp⟩ := by
  have key : dMain i an s call n0 m ⟨es, lo, ws, pp⟩ = Option.rec (motive := fun _ => Option DSt) none (fun es' => iteB (Nat.ble es.nx es'.nx) (some ⟨es', [], ws, ⟨i, an, es.hp, es'.hp⟩ :: pp⟩) none) (s call es) := by
    unfold dMain
    show forceL (lo.filter fun j => !an.contains j) _ = _
    rw [forceL_eq, hid]
    rfl
  constructor
  · rintro ⟨δ', h1, h2⟩
    rw [key] at h1
    obtain ⟨es', h3, h4⟩ := optR h1
    obtain ⟨h5, h6⟩ := iteB_some h4
    cases h6
    exact ⟨es', h3, Nat.le_of_ble_eq_true h5, h2⟩
  · rintro ⟨es', h1, h2, h3⟩
    refine ⟨_, ?_, h3⟩
    rw [key, h1]
    show iteB (Nat.ble es.nx es'.nx) _ _ = _
    rw [iteB_eq, if_pos (Nat.ble_eq_true_of_le h2)]
/-- A new object. -/
def LW (x : Option (DV × Upd)) (K : DV → DObj → Prop) : Prop := ∃ d o, x = some (d, .lay o) ∧ K d o
theorem lw_some {d : DV} {o : DObj} {K : DV → DObj → Prop} : LW (some (d, .lay o)) K ↔ K d o := ⟨fun ⟨_, _, h1, h2⟩ => (by cases h1; exact h2), fun h => ⟨d, o, rfl, h⟩⟩
@[congr] theorem lw_congr {x x' : Option (DV × Upd)} {K : DV → DObj → Prop} (h : x = x') : LW x K = LW x' K := by rw [h]
noncomputable def ES.layAt (es : ES) (id : Nat) (o : DObj) : ES := ⟨es.sl, setN es.hp id (some o), es.nx⟩
theorem lay_raw (es : ES) (id : Nat) (o : DObj) (p : Pa) : rawE (es.layAt id o) (.t p) = rawE es (.t p) := nr rfl
theorem lay_hp (es : ES) (id : Nat) (o : DObj) : (es.layAt id o).hp = setN es.hp id (some o) := nr rfl
theorem lay_nx (es : ES) (id : Nat) (o : DObj) : (es.layAt id o).nx = es.nx := nr rfl
theorem tw_lay {wide c : Bool} {x : XU} : TW (dLay i an wide c dst x ps) call n0 m ⟨es, lo, ws, pp⟩ Q ↔ LW (x es (n0 + i)) fun d o => Q ⟨(es.layAt (n0 + i) o).putE dst d, i :: lo, lookE i an wide c (refsL es ps) n0 lo ws, pp⟩ := by
  have key : dLay i an wide c dst x ps call n0 m ⟨es, lo, ws, pp⟩ = Option.rec (motive := fun _ => Option DSt) none (fun p => Upd.casesOn (motive := fun _ => Option DSt) p.2 none
    (fun o => some ⟨(ES.mk es.sl (setN es.hp (n0 + i) (some o)) es.nx).putE dst p.1, i :: lo, lookE i an wide c (refsL es ps) n0 lo ws, pp⟩) (fun _ _ => none) (fun _ _ => none)) (x es (n0 + i)) := by
    obtain ⟨sl, hp, nx⟩ := es
    unfold dLay DSt.cs ES.cs
    dsimp only
    rw [forceN_eq]
  constructor
  · rintro ⟨δ', h1, h2⟩
    rw [key] at h1
    obtain ⟨⟨d, u⟩, h3, h4⟩ := optR h1
    cases u with
    | lay o => cases h4; exact ⟨d, o, h3, h2⟩
    | _ => cases h4
  · rintro ⟨d, o, h1, h2⟩
    exact ⟨_, by rw [key, h1]; rfl, h2⟩

theorem gw_tt {A B : Prop} : GW (.v (.bool true)) true A B ↔ A := by rw [gw_b]; simp
theorem gw_ff {A B : Prop} : GW (.v (.bool false)) false A B ↔ A := by rw [gw_b]; simp
theorem gw_tf {A B : Prop} : GW (.v (.bool true)) false A B ↔ B := by rw [gw_b]; simp
theorem gw_ft {A B : Prop} : GW (.v (.bool false)) true A B ↔ B := by rw [gw_b]; simp
theorem cw_t {A B : Prop} : CW (.v (.bool true)) A B ↔ A := by rw [cw_b]; simp
theorem cw_f {A B : Prop} : CW (.v (.bool false)) A B ↔ B := by rw [cw_b]; simp
/-! What operands name. -/
def RefsOK (d : DV) (f : Nat → Bool) : Prop := ∀ id ∈ d.refs, f id = true
theorem chk_nil (f : Nat → Bool) : (allL (refsL es []) f = true) ↔ True := ⟨fun _ => trivial, fun _ => rfl⟩
theorem allL_iff {α : Type} (l : List α) (f : α → Bool) : allL l f = true ↔ ∀ x ∈ l, f x = true := by rw [allL_eq]; simp
theorem refsL_cons (es : ES) (p : Pa) (ps : List Pa) : refsL es (p :: ps) = (rawE es (.t p)).refs ++ refsL es ps := by
  show appL (refsE (rawE es (.t p))) (refsL es ps) = _
  rw [appL_eq, refsE_eq]
theorem chk_cons (p : Pa) (f : Nat → Bool) : (allL (refsL es (p :: ps)) f = true) ↔ RefsOK (rawE es (.t p)) f ∧ allL (refsL es ps) f = true := by
  rw [refsL_cons, allL_iff, allL_iff]
  simp only [List.mem_append, RefsOK]
  exact ⟨fun h => ⟨fun x hx => h x (.inl hx), fun x hx => h x (.inr hx)⟩, fun h x hx => hx.elim (h.1 x) (h.2 x)⟩
theorem ro_nil {d : DV} {f : Nat → Bool} (h : d.refs = []) : RefsOK d f ↔ True := ⟨fun _ => trivial, fun _ id hid => by rw [h] at hid; cases hid⟩
theorem ro_v (v : Value) (f : Nat → Bool) : RefsOK (.v v) f ↔ True := ro_nil rfl
theorem ro_sl (cs : List DV) (n : Nat) (f : Nat → Bool) : RefsOK (.sl cs n) f ↔ True := ro_nil rfl
theorem ro_ia (cs : List DV) (f : Nat → Bool) : RefsOK (.ia cs) f ↔ True := ro_nil rfl
theorem ro_ms (id off n e : Nat) (f : Nat → Bool) : RefsOK (.ms id off n e) f ↔ f id = true := by simp [RefsOK, DV.refs]
theorem ro_pt (id off : Nat) (f : Nat → Bool) : RefsOK (.pt id off) f ↔ f id = true := by simp [RefsOK, DV.refs]
theorem ro_mp (id : Nat) (f : Nat → Bool) : RefsOK (.mp id) f ↔ f id = true := by simp [RefsOK, DV.refs]
theorem ro_yl (id : Nat) (f : Nat → Bool) : RefsOK (.yl id) f ↔ f id = true := by simp [RefsOK, DV.refs]
theorem okRef_iff (hp : Tr DObj) (id : Nat) : (okRef n0 m an hp id = true) ↔ (hp.get id).isSome = true ∧ (id < n0 ∨ n0 + m ≤ id ∨ an.contains (id - n0) = true) := by
  unfold okRef
  rw [iteB_eq, someB_eq, gN_eq, iteB_eq, iteB_eq]
  by_cases h1 : (hp.get id).isSome = true
  · by_cases h2 : id < n0
    · simp [h1, h2, Nat.blt_eq]
    · by_cases h3 : n0 + m ≤ id
      · simp [h1, h3, Nat.ble_eq]
      · simp [h1, h2, h3, Nat.blt_eq, Nat.ble_eq]
  · simp [h1]
theorem okl_nops (ws : List Look) : okLook n0 m ws [] = true := by
  unfold okLook
  simp
theorem look_nil (wide c : Bool) : lookE i an wide c [] n0 lo ws = ws := by cases wide <;> rfl
theorem xk_k {x : XU} {X : XP} (h : ∀ es nid, x es nid = keepU (X es)) (nid : Nat) : xKeep x nid es = X es := by
  unfold xKeep
  rw [h]
  unfold keepU
  cases X es <;> rfl
end
theorem xk_cvi (k : IntKind) (x : Operand) (nid : Nat) (es : ES) : xKeep (xAny (.cvi k x)) nid es = cviE k (es.ds.ev x) := xk_k (X := fun es => cviE k (es.ds.ev x)) (k_cvi k x) nid
theorem xk_mm (b : Bool) (x y : Operand) (nid : Nat) (es : ES) : xKeep (xAny (.mm b x y)) nid es = mmD b (es.ds.ev x) (es.ds.ev y) := xk_k (X := fun es => mmD b (es.ds.ev x) (es.ds.ev y)) (k_mm b x y) nid

/-! Rows of bytes. -/
def ub (n : Nat) : DV := .v (.int .u8 (n : Int))
def bytesL (l : List Nat) : DV := .sl (l.map ub) l.length
def nilS : DV := .v (.slice none 0 0)
/-- Bytes that are read: none; content; a part of an own row. -/
inductive Src (hp : Tr DObj) : DV → List Nat → Prop where
  | nil : Src hp nilS []
  | sl (l : List Nat) : Src hp (.sl (l.map ub) l.length) l
  | ms (id off : Nat) (fl l : List Nat) (h : hp.get id = some (.row 5 (fl.map ub))) (hl : off + l.length ≤ fl.length) (hc : (fl.drop off).take l.length = l) : Src hp (.ms id off l.length 1) l
/-- An own row of bytes, or none. -/
inductive Own (hp : Tr DObj) : DV → List Nat → Prop where
  | nil : Own hp nilS []
  | ms (id : Nat) (l : List Nat) (h : hp.get id = some (.row 5 (l.map ub))) : Own hp (.ms id 0 l.length 1) l
theorem Own.src {hp : Tr DObj} {d : DV} {l : List Nat} (h : Own hp d l) : Src hp d l := by
  cases h with
  | nil => exact .nil
  | ms id l h => exact .ms id 0 l l h (by simp) (by rw [List.drop_zero, List.take_length])
def adr : DV → Nat → DV
  | .sl cs _, i => .ia (cs.drop (i * 1))
  | .ms id off _ _, i => .pt id (off + i * 1)
  | _, _ => .any
theorem ms_cs {fl l : List Nat} {off : Nat} (hl : off + l.length ≤ fl.length) (hc : (fl.drop off).take l.length = l) : off + l.length ≤ (fl.map ub).length ∧ ((fl.map ub).drop off).take l.length = l.map ub := ⟨by simpa using hl, by rw [← List.map_drop, ← List.map_take, hc]⟩
theorem Src.len {hp : Tr DObj} {d : DV} {l : List Nat} (h : Src hp d l) : lenD hp d = some (.v (.int .i64 (l.length : Int))) := by
  cases h with
  | nil => rfl
  | sl => rfl
  | ms id off fl l h hl0 hc0 =>
    obtain ⟨hl, hc⟩ := ms_cs hl0 hc0
    generalize hfl : fl.map ub = cs at *
    show (if alv hp id = true then _ else none) = _
    rw [if_pos (by unfold alv; rw [h]; rfl)]
theorem Src.live {hp : Tr DObj} {d : DV} {l : List Nat} (h : Src hp d l) : liveE hp d = d := by
  cases h with
  | nil => exact live_nil rfl
  | sl => exact live_nil rfl
  | ms id off fl l h hl0 hc0 =>
    obtain ⟨hl, hc⟩ := ms_cs hl0 hc0
    exact live_ms h
theorem Src.ia {hp : Tr DObj} {d : DV} {l : List Nat} (h : Src hp d l) {i : Nat} (hi : i < l.length) : iaD hp 1 d (.v (.int .i64 (i : Int))) = some (adr d i) := by
  cases h with
  | nil => simp at hi
  | sl => exact ia_s hi
  | ms id off fl l h hl0 hc0 =>
    obtain ⟨hl, hc⟩ := ms_cs hl0 hc0
    generalize hfl : fl.map ub = cs at *
    show (if alv hp id = true ∧ 0 ≤ (i : Int) ∧ (i : Int) < (l.length : Int) then some (DV.pt id (off + (i : Int).toNat * 1)) else none) = _
    rw [if_pos ⟨by unfold alv; rw [h]; rfl, by omega, by omega⟩]; rfl
theorem getD_map {l : List Nat} {i : Nat} (hi : i < l.length) : (l.map ub)[i]? = some (ub (l.getD i 0)) := by
  rw [List.getElem?_map, List.getD, List.getElem?_eq_getElem hi]; rfl
theorem part_get {cs : List DV} {i : Nat} {d : DV} (h : cs[i]? = some d) : partD none (cs.drop i) = some d := by
  obtain ⟨hi, rfl⟩ := List.getElem?_eq_some_iff.1 h
  rw [List.drop_eq_getElem_cons hi]; rfl
theorem Src.ld {hp : Tr DObj} {d : DV} {l : List Nat} (h : Src hp d l) {i : Nat} (hi : i < l.length) : ldD hp none (adr d i) = some (ub (l.getD i 0)) := by
  cases h with
  | nil => simp at hi
  | sl =>
    show partD none ((l.map ub).drop (i * 1)) = _
    rw [Nat.mul_one]
    exact part_get (getD_map hi)
  | ms id off fl l h hl0 hc0 =>
    obtain ⟨hl, hc⟩ := ms_cs hl0 hc0
    generalize hfl : fl.map ub = cs at *
    have e : ldD hp none (adr (.ms id off l.length 1) i) = partD none (cs.drop (off + i)) := by
      show ldD hp none (.pt id (off + i * 1)) = _
      rw [ld_p h, Nat.mul_one]
    rw [e]
    refine part_get ?_
    have := getD_map hi
    rw [← hc, List.getElem?_take_of_lt hi, List.getElem?_drop] at this
    exact this
def Old (n : Nat) (d : DV) : Prop := ∀ id ∈ d.refs, id < n
theorem Src.keep {hp hp' : Tr DObj} {d : DV} {l : List Nat} (h : Src hp d l) (hk : ∀ id ∈ d.refs, hp'.get id = hp.get id) : Src hp' d l := by
  cases h with
  | nil => exact .nil
  | sl => exact .sl _
  | ms id off fl l h hl hc => exact .ms id off fl l ((hk id (by simp [DV.refs])).trans h) hl hc
theorem Own.keep {hp hp' : Tr DObj} {d : DV} {l : List Nat} (h : Own hp d l) (hk : ∀ id ∈ d.refs, hp'.get id = hp.get id) : Own hp' d l := by
  cases h with
  | nil => exact .nil
  | ms id l h => exact .ms id l ((hk id (by simp [DV.refs])).trans h)
theorem Src.al {hp hp' : Tr DObj} {n n' : Nat} {d : DV} {l : List Nat} (h : Src hp d l) (ho : Old n d) (ha : Al hp n hp' n') : Src hp' d l := h.keep fun id hid => ha.same id (ho id hid)
theorem Src.alive {hp : Tr DObj} {d : DV} {l : List Nat} (h : Src hp d l) : ∀ id ∈ d.refs, (hp.get id).isSome = true := by
  cases h with
  | nil => intro id h; cases h
  | sl => intro id h; cases h
  | ms id off fl l h hl0 hc0 =>
    obtain ⟨hl, hc⟩ := ms_cs hl0 hc0
    generalize hfl : fl.map ub = cs at *
    intro j hj
    have : j = id := by simpa [DV.refs] using hj
    rw [this, h]; rfl
/-- .. and in a region that draws its order. -/
theorem Src.ro {hp : Tr DObj} {d : DV} {l : List Nat} {n0 m : Nat} {an : List Nat} (h : Src hp d l) (ho : Old n0 d) : RefsOK d (fun id => okRef n0 m an hp id) := fun id hid => (okRef_iff hp id).2 ⟨h.alive id hid, .inl (ho id hid)⟩
theorem adr_refs (d : DV) (i : Nat) : ∀ id ∈ (adr d i).refs, id ∈ d.refs := by
  cases d with
  | ms id off n e => intro j hj; exact hj
  | _ => intro j hj; cases hj
theorem Src.roa {hp : Tr DObj} {d : DV} {l : List Nat} {n0 m i : Nat} {an : List Nat} (h : Src hp d l) (ho : Old n0 d) : RefsOK (adr d i) (fun id => okRef n0 m an hp id) := fun id hid => (okRef_iff hp id).2 ⟨h.alive id (adr_refs d i id hid), .inl (ho id (adr_refs d i id hid))⟩
theorem b_eqlN (k : IntKind) (a b : Nat) : binD .eql (.v (.int k (a : Int))) (.v (.int k (b : Int))) = some (.v (.bool (decide (a = b)))) := by
  rw [b_eql]
  congr 3
  by_cases h : a = b
  · subst h; simp
  · have : ¬ (a : Int) = (b : Int) := by omega
    simp [h, this]
theorem b_lssN (k : IntKind) (a b : Nat) : binD .lss (.v (.int k (a : Int))) (.v (.int k (b : Int))) = some (.v (.bool (decide (a < b)))) := by
  rw [b_lss]
  congr 3
  by_cases h : a < b
  · simp [h, show (a : Int) < b by omega]
  · simp [h, show ¬ (a : Int) < b by omega]
theorem b_addN {a b : Nat} (h : a + b < 9223372036854775808) : binD .add (.v (.int .i64 (a : Int))) (.v (.int .i64 (b : Int))) = some (.v (.int .i64 ((a + b : Nat) : Int))) := by
  rw [b_add, wrap_in (by omega)]; rfl
theorem b_add1 {a : Nat} (h : a < 9000000000000000000) : binD .add (.v (.int .i64 (a : Int))) (.v (.int .i64 1)) = some (.v (.int .i64 ((a + 1 : Nat) : Int))) := by
  rw [b_add, wrap_in (by omega)]; rfl
theorem b_subN {a b : Nat} (h : b ≤ a) (h2 : a < 9000000000000000000) : binD .sub (.v (.int .i64 (a : Int))) (.v (.int .i64 (b : Int))) = some (.v (.int .i64 ((a - b : Nat) : Int))) := by
  rw [b_sub, wrap_in (by omega)]
  congr 3; omega
end Go.DD

/- The evaluator, read with symbols: where simp is to stop; rows that grow; stores. -/
namespace Go.DD
open Go

/-- What comes behind, out of simp's reach. -/
class Hold (α : Type) where
  val : α
def SWs (s : Stp) (call : CallT) (es : ES) [q : Hold (ES → Prop)] : Prop := SW s call es q.val
def EWs (c : CE) (call : CallT) (es : ES) [q : Hold (Exit → ES → Prop)] : Prop := EW c call es q.val
def KWs (call : CallT) (tg : Tg) (ds : List DV) (hp : Tr DObj) (nx : Nat) [q : Hold (DV → Tr DObj → Nat → Prop)] : Prop := KW call tg ds hp nx q.val
def TWs (s : DStp) (call : CallT) (n0 m : Nat) (es : ES) (lo : List Nat) (ws : List Look) (pp : List Past) [q : Hold (DSt → Prop)] : Prop := TW s call n0 m ⟨es, lo, ws, pp⟩ q.val
section
variable {call : CallT} {es : ES} {Q : ES → Prop} {dst : Option Pa} {R : Exit → ES → Prop}
theorem z_app {T e b : Nat} {d x : Operand} : SW (sU dst (xAny (.app T e b d x))) call es Q ↔ @SWs (sU dst (xAny (.app T e b d x))) call es ⟨Q⟩ := Iff.rfl
theorem z_bsl {T n e : Nat} {z : List Value} {ps : List (Nat × Nat × Operand)} : SW (sU dst (xAny (.bsl T n e z ps))) call es Q ↔ @SWs (sU dst (xAny (.bsl T n e z ps))) call es ⟨Q⟩ := Iff.rfl
theorem z_st {n : Nat} {a x : EO} : SW (sU dst (xSt n a x)) call es Q ↔ @SWs (sU dst (xSt n a x)) call es ⟨Q⟩ := Iff.rfl
theorem z_sli {e : Nat} {x : Operand} {lo hi : Option Operand} : SW (sU dst (xAny (.sli e x lo hi))) call es Q ↔ @SWs (sU dst (xAny (.sli e x lo hi))) call es ⟨Q⟩ := Iff.rfl
theorem z_b2s {x : Operand} : SW (sU dst (xAny (.b2s x))) call es Q ↔ @SWs (sU dst (xAny (.b2s x))) call es ⟨Q⟩ := Iff.rfl
theorem z_cv {tb : Option (List (TypeId × FuncId))} {x : EO} {args : List EO} : SW (sCv tb x args dst) call es Q ↔ @SWs (sCv tb x args dst) call es ⟨Q⟩ := Iff.rfl
theorem z_call {f : Nat} {args : List EO} : SW (sCall f args dst) call es Q ↔ @KWs call (.fn f) (args.map (rawE es)) es.hp es.nx ⟨fun d hp nx => Q ((ES.mk es.sl hp nx).putE dst d)⟩ := sw_call
theorem z_reg {m : Nat} {s : DStp} : SW (regE m s) call es Q ↔ @SWs (regE m s) call es ⟨Q⟩ := Iff.rfl
theorem z_l {k : Nat} {c : CE} : EW (cL k c) call es R ↔ @EWs (cL k c) call es ⟨R⟩ := Iff.rfl
theorem z_r {nt : Nat} {rd : Bool} {g : EO} {ps : List Nat} {a b : DC} : EW (cR nt rd g ps a b) call es R ↔ @EWs (cR nt rd g ps a b) call es ⟨R⟩ := Iff.rfl
theorem z_e {u v : CE} {x : EO} : EW (cC x u v) call es R ↔ @EWs (cC x u v) call es ⟨R⟩ := Iff.rfl
end

section
variable {call : CallT} {es : ES} {dst : Option Pa} {q : Hold (ES → Prop)}
theorem Src.srcD {d : DV} {l : List Nat} (h : Src es.hp d l) : srcD es.ds 5 1 d = some (l.map ub, l.length) := by
  cases h with
  | nil => rfl
  | sl => rfl
  | ms id off fl l h hl0 hc0 =>
    obtain ⟨hl, hc⟩ := ms_cs hl0 hc0
    generalize hfl : fl.map ub = cs at *
    show (match es.hp.get id with
    | some (.row T' cs) => if T' = 5 ∧ 1 = 1 ∧ off + l.length * 1 ≤ cs.length then some ((cs.drop off).take (l.length * 1), l.length) else none
    | _ => none) = _
    rw [h]
    simp only []
    rw [if_pos ⟨trivial, trivial, by omega⟩, Nat.mul_one, hc]
theorem Own.dstD {d : DV} {l : List Nat} (h : Own es.hp d l) : ∃ o, dstD es.ds 5 1 d = some (o, l.map ub, l.length) ∧ (∀ id, o = some id → id ∈ d.refs) := by
  cases h with
  | nil => exact ⟨none, rfl, fun _ h => by cases h⟩
  | ms id l h =>
    refine ⟨some id, ?_, fun _ h => by cases h; simp [DV.refs]⟩
    show (match es.hp.get id with
    | some (.row T' cs) => if T' = 5 ∧ 1 = 1 ∧ cs.length = l.length * 1 then some (some id, cs, l.length) else none
    | _ => none) = _
    rw [h]
    simp only []
    rw [if_pos ⟨trivial, trivial, by simp⟩]
/-- A row grows. -/
theorem sw_app {b t u : Nat} {d d2 : DV} {l m : List Nat} (e1 : rawE es (.t (pth t)) = d) (hd : Own es.hp d l) (e2 : rawE es (.t (pth u)) = d2) (hm : Src es.hp d2 m) (hl : l.length + m.length ≤ 2147483648) (hb : b ≤ 65536)
    (h : ∀ hp', hp'.get es.nx = some (.row 5 ((l ++ m).map ub)) → (∀ j, j ≠ es.nx → j ∉ d.refs → hp'.get j = es.hp.get j) → q.val ((ES.mk es.sl hp' (es.nx + 1)).putE dst (.ms es.nx 0 (l ++ m).length 1))) :
    SWs (sU dst (xAny (.app 5 1 b (.tmp t) (.tmp u)))) call es := by
  obtain ⟨o, ho, hor⟩ := hd.dstD
  show SW _ _ _ _
  rw [sw_u, x_any]
  refine ⟨.ms es.nx 0 (l.length + m.length) 1, .mv o (.row 5 (l.map ub ++ m.map ub)), ?_, ?_⟩
  · have f1 : es.ds.ev (.tmp t) = d := by rw [ev_live, e1, hd.src.live]
    have f2 : es.ds.ev (.tmp u) = d2 := by rw [ev_live, e2, hm.live]
    simp only [execU, f1, f2, ho, hm.srcD]
    rw [if_pos ⟨by simp, by omega, hl, hb⟩]
  · have hh := h (es.up (.mv o (.row 5 (l.map ub ++ m.map ub)))).hp (by
      cases o with
      | none => rw [up_mvn, List.map_append, get_set, if_pos rfl]
      | some i => rw [up_mvs, List.map_append, get_set, if_pos rfl]) (by
      intro j hj hjd
      cases o with
      | none => rw [up_mvn, get_set, if_neg hj]
      | some i => rw [up_mvs, get_set, if_neg hj, get_set, if_neg (fun e => hjd (by rw [e]; exact hor i rfl))])
    rw [List.length_append] at hh
    exact hh
/-- A slice is laid of so many bytes. -/
theorem sw_bsl {n : Nat} {z : List Value} {ps : List (Nat × Nat × Operand)} {l : List Nat} (hz : z.length = 1) (hn : n = l.length) (hf : fillD ((List.replicate n (z.map .v)).flatten) (ps.map fun p => (p.1, p.2.1, es.ds.ev p.2.2)) = some (l.map ub))
    (h : ∀ hp', hp'.get es.nx = some (.row 5 (l.map ub)) → (∀ j, j ≠ es.nx → hp'.get j = es.hp.get j) → q.val ((ES.mk es.sl hp' (es.nx + 1)).putE dst (.ms es.nx 0 l.length 1))) :
    SWs (sU dst (xAny (.bsl 5 n 1 z ps))) call es := by
  show SW _ _ _ _
  rw [sw_u, x_any]
  refine ⟨.ms es.nx 0 l.length 1, .lay (.row 5 (l.map ub)), ?_, ?_⟩
  · simp only [execU, hf, hz]
    rw [if_pos trivial, hn]
  · exact h (es.up (.lay (.row 5 (l.map ub)))).hp (by rw [up_lay, get_set, if_pos rfl]) fun j hj => by rw [up_lay, get_set, if_neg hj]
/-- A store of one cell into an own row. -/
theorem sw_sto {a x : EO} {id off T : Nat} {v : DV} {cs : List DV} (ea : rawE es a = .pt id off) (hg : es.hp.get id = some (.row T cs)) (ev : evE es x = v) (hv : v.okC = true ∧ v.cells = [v]) (hoff : off < cs.length)
    (h : ∀ hp', hp'.get id = some (.row T (cs.set off v)) → (∀ j, j ≠ id → hp'.get j = es.hp.get j) → q.val ((ES.mk es.sl hp' es.nx).putE dst .any)) :
    SWs (sU dst (xSt 1 a x)) call es := by
  show SW _ _ _ _
  rw [sw_st, ea, st_pt, hg, ev, st_r id off 1 v T cs hv.1 (by rw [hv.2]; rfl) (by omega), uw_some]
  have e : cs.take off ++ v.cells ++ cs.drop (off + 1) = cs.set off v := by
    rw [hv.2, List.set_eq_take_append_cons_drop, if_pos hoff]; simp
  rw [e]
  exact h (es.up (.wr id (.row T (cs.set off v)))).hp (by rw [up_wr, get_set, if_pos rfl]) fun j hj => by rw [up_wr, get_set, if_neg hj]
/-- .. of a record into the whole of one. -/
theorem sw_sta {n : Nat} {a x : EO} {id T : Nat} {ds cs : List DV} (ea : rawE es a = .pt id 0) (hg : es.hp.get id = some (.row T cs)) (ev : evE es x = .agg ds) (h2 : ds.length = n) (h3 : cs.length = n)
    (h : ∀ hp', hp'.get id = some (.row T ds) → (∀ j, j ≠ id → hp'.get j = es.hp.get j) → q.val ((ES.mk es.sl hp' es.nx).putE dst .any)) :
    SWs (sU dst (xSt n a x)) call es := by
  show SW _ _ _ _
  rw [sw_st, ea, st_pt, hg, ev, st_all id n ds T cs h2 h3, uw_some]
  exact h (es.up (.wr id (.row T ds))).hp (by rw [up_wr, get_set, if_pos rfl]) fun j hj => by rw [up_wr, get_set, if_neg hj]
theorem bndD_some (es : ES) (x : Operand) (n : Int) : bndD es.ds n (some x) = intD (es.ds.ev x) := rfl
theorem bndD_none (es : ES) (n : Int) : bndD es.ds n none = some n := rfl
/-- A part of bytes. -/
theorem sw_sli {t a z : Nat} {lo hi : Option Operand} {d : DV} {l : List Nat} (e1 : rawE es (.t (pth t)) = d) (hd : Src es.hp d l) (hlo : bndD es.ds 0 lo = some (a : Int)) (hhi : ∀ n : Int, n = l.length → bndD es.ds n hi = some (z : Int)) (haz : a ≤ z) (hz : z ≤ l.length)
    (h : ∀ d', Src es.hp d' ((l.drop a).take (z - a)) → (∀ id ∈ d'.refs, id ∈ d.refs) → q.val (es.putE dst d')) :
    SWs (sU dst (xAny (.sli 1 (.tmp t) lo hi))) call es := by
  show SW _ _ _ _
  rw [sw_u, x_any]
  have f1 : es.ds.ev (.tmp t) = d := by rw [ev_live, e1, hd.live]
  have hlen : ((l.drop a).take (z - a)).length = z - a := by rw [List.length_take, List.length_drop]; omega
  have hc : (((l.map ub).drop (a * 1)).take ((z - a) * 1)) = ((l.drop a).take (z - a)).map ub := by
    rw [Nat.mul_one, Nat.mul_one, List.map_take, List.map_drop]
  cases hd with
  | nil =>
    have ha : a = 0 ∧ z = 0 := by simp at hz; omega
    obtain ⟨rfl, rfl⟩ := ha
    have hh := hhi 0 rfl
    refine ⟨nilS, .keep, ?_, h nilS (by simpa using Src.nil) (fun id hid => by cases hid)⟩
    simp only [execU, f1, nilS, hlo, hh]
    rfl
  | sl =>
    have hh := hhi l.length rfl
    refine ⟨.sl (((l.drop a).take (z - a)).map ub) (z - a), .keep, ?_, h _ (by have := Src.sl (hp := es.hp) ((l.drop a).take (z - a)); rwa [hlen] at this) (fun id hid => by cases hid)⟩
    simp only [execU, f1, hlo, hh]
    rw [if_pos ⟨by omega, by omega, by omega⟩]
    simp only [Int.toNat_natCast, hc]
  | ms id off fl l hg hl0 hc0 =>
    obtain ⟨hl, hcs⟩ := ms_cs hl0 hc0
    have hh := hhi l.length rfl
    have hx : ∃ d', (if (a : Int) < z ∨ (a : Int) = 0 then DV.ms id (off + a * 1) (z - a) 1 else .sl [] 0) = d' ∧ Src es.hp d' ((l.drop a).take (z - a)) ∧ ∀ j ∈ d'.refs, j ∈ (DV.ms id off l.length 1).refs := by
      refine ⟨_, rfl, ?_, ?_⟩
      · by_cases hlt : (a : Int) < z ∨ (a : Int) = 0
        · rw [if_pos hlt]
          have := Src.ms (hp := es.hp) id (off + a * 1) fl ((l.drop a).take (z - a)) hg (by rw [hlen]; omega) (by
            have e : l.drop a = ((fl.drop off).take l.length).drop a := by rw [hc0]
            rw [hlen, e, List.drop_take, List.drop_drop, List.take_take, Nat.mul_one]
            congr 1; omega)
          rwa [hlen] at this
        · rw [if_neg hlt]
          have : z - a = 0 := by omega
          rw [this, List.take_zero]
          exact Src.sl []
      · split
        · intro j hj; exact hj
        · intro j hj; cases hj
    obtain ⟨d', e', h1, h2⟩ := hx
    refine ⟨d', .keep, ?_, h d' h1 h2⟩
    simp only [execU, f1, hlo, hh]
    rw [if_pos ⟨trivial, by omega, by omega, by omega⟩]
    simp only [Int.toNat_natCast]
    rw [e']
end
theorem evt (es : ES) (p : Pa) : evE es (.t p) = liveE es.hp (rawE es (.t p)) := nr rfl
theorem evc (es : ES) (d : DV) : evE es (.c d) = d := nr rfl
theorem ok_1 (v : Value) (h : v.oneCell' = true) : (DV.v v).okC = true ∧ (DV.v v).cells = [.v v] := ⟨h, rfl⟩
theorem ok_i (k : IntKind) (n : Int) : (DV.v (.int k n)).okC = true ∧ (DV.v (.int k n)).cells = [.v (.int k n)] := ⟨rfl, rfl⟩
theorem ok_ms (id off n e : Nat) : (DV.ms id off n e).okC = true ∧ (DV.ms id off n e).cells = [.ms id off n e] := ⟨rfl, rfl⟩
theorem ok_s {hp : Tr DObj} {d : DV} {l : List Nat} (h : Src hp d l) : d.okC = true ∧ d.cells = [d] := by
  cases h <;> exact ⟨rfl, rfl⟩
theorem cvi_u8 {k : IntKind} {n : Nat} (h : n < 256) : cviE .u8 (.v (.int k (n : Int))) = some (ub n) := by
  show some (DV.v (.int .u8 (IntKind.u8.wrap (n : Int)))) = _
  rw [IntWalk.u8_in _ (by omega)]; rfl
theorem cvi_i64 {k : IntKind} {n : Nat} (h : n < 9223372036854775808) : cviE .i64 (.v (.int k (n : Int))) = some (.v (.int .i64 (n : Int))) := by
  show some (DV.v (.int .i64 (IntKind.i64.wrap (n : Int)))) = _
  rw [wrap_in (by omega)]
theorem put_n (es : ES) (d : DV) : ES.putE es none d = es := nr rfl
/-! Stops in regions that draw their order. -/
section
variable {call : CallT} {n0 m i : Nat} {es : ES} {lo an : List Nat} {ws : List Look} {pp : List Past} {Q : DSt → Prop} {q : Hold (DSt → Prop)} {ps : List Pa} {dst : Option Pa}
theorem z_main {s : Stp} : TW (dMain i an s) call n0 m ⟨es, lo, ws, pp⟩ Q ↔ @TWs (dMain i an s) call n0 m es lo ws pp ⟨Q⟩ := Iff.rfl
theorem z_lay {wide c : Bool} {x : XU} : TW (dLay i an wide c dst x ps) call n0 m ⟨es, lo, ws, pp⟩ Q ↔ @TWs (dLay i an wide c dst x ps) call n0 m es lo ws pp ⟨Q⟩ := Iff.rfl
theorem tws_main {s : Stp} (hid : (lo.filter fun j => !an.contains j) = []) (h : @SWs s call es ⟨fun es' => es.nx ≤ es'.nx ∧ q.val ⟨es', [], ws, ⟨i, an, es.hp, es'.hp⟩ :: pp⟩⟩) : TWs (dMain i an s) call n0 m es lo ws pp := (tw_main hid).2 h
theorem tws_bsl {wide c : Bool} {n : Nat} {z : List Value} {xs : List (Nat × Nat × Operand)} {l : List Nat} (hz : z.length = 1) (hn : n = l.length) (hf : fillD ((List.replicate n (z.map .v)).flatten) (xs.map fun p => (p.1, p.2.1, es.ds.ev p.2.2)) = some (l.map ub))
    (h : ∀ hp', hp'.get (n0 + i) = some (.row 5 (l.map ub)) → (∀ j, j ≠ n0 + i → hp'.get j = es.hp.get j) → q.val ⟨(ES.mk es.sl hp' es.nx).putE dst (.ms (n0 + i) 0 l.length 1), i :: lo, lookE i an wide c (refsL es ps) n0 lo ws, pp⟩) :
    TWs (dLay i an wide c dst (xAny (.bsl 5 n 1 z xs)) ps) call n0 m es lo ws pp := by
  show TW _ _ _ _ _ _
  rw [tw_lay]
  refine ⟨.ms (n0 + i) 0 l.length 1, .row 5 (l.map ub), ?_, ?_⟩
  · rw [x_any]
    simp only [execU, hf, hz]
    rw [if_pos trivial, hn]
  · exact h _ (by rw [setN_get]; simp) fun j hj => by rw [setN_get]; simp [hj]
theorem okRef_old {hp : Tr DObj} {id : Nat} {o : DObj} (h : hp.get id = some o) (hl : id < n0) : okRef n0 m an hp id = true := (okRef_iff hp id).2 ⟨by rw [h]; rfl, .inl hl⟩
theorem okRef_new {hp : Tr DObj} {o : DObj} (h : hp.get (n0 + i) = some o) (hc : an.contains i = true) : okRef n0 m an hp (n0 + i) = true := (okRef_iff hp _).2 ⟨by rw [h]; rfl, .inr (.inr (by rw [Nat.add_sub_cancel_left]; exact hc))⟩
theorem ld_box {hp : Tr DObj} {id T : Nat} {d : DV} (h : hp.get id = some (.row T [d])) : ldD hp none (.pt id 0) = some d := by rw [ld_p h]; rfl
end
/-- A part of a tuple. -/
noncomputable def extD (hp : Tr DObj) (d : DV) (i : Nat) : Option DV := match d with
  | .tup ds => match ds[i]? with
    | some (.v v) => some (.v v)
    | some _ => match liveE hp (.tup ds) with
      | .tup ds => ds[i]?
      | _ => none
    | none => none
  | _ => none
theorem x_xe (p : Pa) (i : Nat) (es : ES) : xExt (.t p) i es = extD es.hp (rawE es (.t p)) i := by
  have hev : evE es (.t p) = liveE es.hp (rawE es (.t p)) := rfl
  have hn : ∀ ds : List DV, nthL i ds = ds[i]? := by
    intro ds
    unfold nthL
    rw [dropL_eq, ← List.head?_drop]
    cases ds.drop i <;> rfl
  unfold xExt extD
  rw [hev]
  cases rawE es (.t p) with
  | tup ds =>
    show Option.rec (motive := fun _ => Option DV) none (fun d => vD d (fun v => some (.v v)) (cTup (liveE es.hp (.tup ds)) (fun ds => nthL i ds) none)) (nthL i ds) = _
    rw [hn]
    simp only []
    cases ds[i]? with
    | none => rfl
    | some d =>
      have e : ∀ x : DV, cTup x (fun ds => nthL i ds) (none : Option DV) = match x with
        | .tup ds => ds[i]?
        | _ => none := by
        intro x
        cases x <;> first | rfl | exact hn _
      cases d <;> first | rfl | exact e _
  | _ => rfl
theorem live_tup {hp : Tr DObj} {ds : List DV} (h : ∀ id ∈ DV.refsL ds, (hp.get id).isSome = true) : liveE hp (.tup ds) = .tup ds := live_o fun id hid => h id (by rwa [DV.refs] at hid)
theorem ext_get {hp : Tr DObj} {ds : List DV} {i : Nat} (h : ∀ id ∈ DV.refsL ds, (hp.get id).isSome = true) : extD hp (.tup ds) i = ds[i]? := by
  unfold extD
  simp only [live_tup h]
  cases ds[i]? with
  | none => rfl
  | some d => cases d <;> rfl
theorem ext20 {hp : Tr DObj} {d : DV} {l : List Nat} {v : Value} (h : Src hp d l) : extD hp (.tup [d, .v v]) 0 = some d := ext_get fun id hid => h.alive id (by simpa [DV.refsL, DV.refs] using hid)
theorem ext21 {hp : Tr DObj} {d : DV} {v : Value} : extD hp (.tup [d, .v v]) 1 = some (.v v) := nr rfl
theorem ext30 {hp : Tr DObj} {d e : DV} {l m : List Nat} {v : Value} (h : Src hp d l) (h2 : Src hp e m) : extD hp (.tup [d, e, .v v]) 0 = some d := ext_get fun id hid => by
  have : id ∈ d.refs ∨ id ∈ e.refs := by simpa [DV.refsL, DV.refs] using hid
  exact this.elim (h.alive id) (h2.alive id)
theorem ext31' {hp : Tr DObj} {d e : DV} {l m : List Nat} {v : Value} (h : Src hp d l) (h2 : Src hp e m) : extD hp (.tup [d, e, .v v]) 1 = some e := ext_get fun id hid => by
  have : id ∈ d.refs ∨ id ∈ e.refs := by simpa [DV.refsL, DV.refs] using hid
  exact this.elim (h.alive id) (h2.alive id)
theorem ext31 {hp : Tr DObj} {d : DV} {w v : Value} : extD hp (.tup [d, .v w, .v v]) 1 = some (.v w) := nr rfl
theorem ext32 {hp : Tr DObj} {d e : DV} {v : Value} : extD hp (.tup [d, e, .v v]) 2 = some (.v v) := nr rfl
theorem p0 : pth 0 = .o := nr rfl
theorem p1 : pth 1 = .l .o := nr rfl
theorem p2 : pth 2 = .r .o := nr rfl
theorem p3 : pth 3 = .l (.l .o) := nr rfl
theorem p4 : pth 4 = .r (.l .o) := nr rfl
theorem p5 : pth 5 = .l (.r .o) := nr rfl
theorem p6 : pth 6 = .r (.r .o) := nr rfl
theorem p7 : pth 7 = .l (.l (.l .o)) := nr rfl
theorem p8 : pth 8 = .r (.l (.l .o)) := nr rfl
theorem p9 : pth 9 = .l (.r (.l .o)) := nr rfl
theorem p10 : pth 10 = .r (.r (.l .o)) := nr rfl
theorem p11 : pth 11 = .l (.l (.r .o)) := nr rfl
theorem p12 : pth 12 = .r (.l (.r .o)) := nr rfl
theorem p13 : pth 13 = .l (.r (.r .o)) := nr rfl
theorem p14 : pth 14 = .r (.r (.r .o)) := nr rfl
theorem p15 : pth 15 = .l (.l (.l (.l .o))) := nr rfl
theorem p16 : pth 16 = .r (.l (.l (.l .o))) := nr rfl
theorem p17 : pth 17 = .l (.r (.l (.l .o))) := nr rfl
theorem p18 : pth 18 = .r (.r (.l (.l .o))) := nr rfl
theorem p19 : pth 19 = .l (.l (.r (.l .o))) := nr rfl
theorem p20 : pth 20 = .r (.l (.r (.l .o))) := nr rfl
theorem p21 : pth 21 = .l (.r (.r (.l .o))) := nr rfl
theorem p22 : pth 22 = .r (.r (.r (.l .o))) := nr rfl
theorem p23 : pth 23 = .l (.l (.l (.r .o))) := nr rfl
theorem p24 : pth 24 = .r (.l (.l (.r .o))) := nr rfl
theorem p25 : pth 25 = .l (.r (.l (.r .o))) := nr rfl
theorem p26 : pth 26 = .r (.r (.l (.r .o))) := nr rfl
theorem p27 : pth 27 = .l (.l (.r (.r .o))) := nr rfl
theorem p28 : pth 28 = .r (.l (.r (.r .o))) := nr rfl
theorem p29 : pth 29 = .l (.r (.r (.r .o))) := nr rfl
theorem p30 : pth 30 = .r (.r (.r (.r .o))) := nr rfl
theorem p31 : pth 31 = .l (.l (.l (.l (.l .o)))) := nr rfl
theorem p32 : pth 32 = .r (.l (.l (.l (.l .o)))) := nr rfl
theorem p33 : pth 33 = .l (.r (.l (.l (.l .o)))) := nr rfl
theorem p34 : pth 34 = .r (.r (.l (.l (.l .o)))) := nr rfl
theorem p35 : pth 35 = .l (.l (.r (.l (.l .o)))) := nr rfl
theorem p36 : pth 36 = .r (.l (.r (.l (.l .o)))) := nr rfl
theorem p37 : pth 37 = .l (.r (.r (.l (.l .o)))) := nr rfl
theorem p38 : pth 38 = .r (.r (.r (.l (.l .o)))) := nr rfl
theorem p39 : pth 39 = .l (.l (.l (.r (.l .o)))) := nr rfl
theorem p40 : pth 40 = .r (.l (.l (.r (.l .o)))) := nr rfl
theorem p41 : pth 41 = .l (.r (.l (.r (.l .o)))) := nr rfl
theorem p42 : pth 42 = .r (.r (.l (.r (.l .o)))) := nr rfl
theorem p43 : pth 43 = .l (.l (.r (.r (.l .o)))) := nr rfl
theorem p44 : pth 44 = .r (.l (.r (.r (.l .o)))) := nr rfl
theorem p45 : pth 45 = .l (.r (.r (.r (.l .o)))) := nr rfl
theorem p46 : pth 46 = .r (.r (.r (.r (.l .o)))) := nr rfl
theorem p47 : pth 47 = .l (.l (.l (.l (.r .o)))) := nr rfl
theorem p48 : pth 48 = .r (.l (.l (.l (.r .o)))) := nr rfl
theorem p49 : pth 49 = .l (.r (.l (.l (.r .o)))) := nr rfl
theorem p50 : pth 50 = .r (.r (.l (.l (.r .o)))) := nr rfl
theorem p51 : pth 51 = .l (.l (.r (.l (.r .o)))) := nr rfl
theorem p52 : pth 52 = .r (.l (.r (.l (.r .o)))) := nr rfl
theorem p53 : pth 53 = .l (.r (.r (.l (.r .o)))) := nr rfl
theorem p54 : pth 54 = .r (.r (.r (.l (.r .o)))) := nr rfl
theorem p55 : pth 55 = .l (.l (.l (.r (.r .o)))) := nr rfl
theorem p56 : pth 56 = .r (.l (.l (.r (.r .o)))) := nr rfl
theorem p57 : pth 57 = .l (.r (.l (.r (.r .o)))) := nr rfl
theorem p58 : pth 58 = .r (.r (.l (.r (.r .o)))) := nr rfl
theorem p59 : pth 59 = .l (.l (.r (.r (.r .o)))) := nr rfl
theorem p60 : pth 60 = .r (.l (.r (.r (.r .o)))) := nr rfl
theorem p61 : pth 61 = .l (.r (.r (.r (.r .o)))) := nr rfl
theorem p62 : pth 62 = .r (.r (.r (.r (.r .o)))) := nr rfl
theorem p63 : pth 63 = .l (.l (.l (.l (.l (.l .o))))) := nr rfl
theorem p64 : pth 64 = .r (.l (.l (.l (.l (.l .o))))) := nr rfl
theorem p65 : pth 65 = .l (.r (.l (.l (.l (.l .o))))) := nr rfl
theorem p66 : pth 66 = .r (.r (.l (.l (.l (.l .o))))) := nr rfl
theorem p67 : pth 67 = .l (.l (.r (.l (.l (.l .o))))) := nr rfl
theorem p68 : pth 68 = .r (.l (.r (.l (.l (.l .o))))) := nr rfl
theorem p69 : pth 69 = .l (.r (.r (.l (.l (.l .o))))) := nr rfl
theorem p70 : pth 70 = .r (.r (.r (.l (.l (.l .o))))) := nr rfl
theorem p71 : pth 71 = .l (.l (.l (.r (.l (.l .o))))) := nr rfl
theorem p72 : pth 72 = .r (.l (.l (.r (.l (.l .o))))) := nr rfl
theorem p73 : pth 73 = .l (.r (.l (.r (.l (.l .o))))) := nr rfl
theorem p74 : pth 74 = .r (.r (.l (.r (.l (.l .o))))) := nr rfl
theorem p75 : pth 75 = .l (.l (.r (.r (.l (.l .o))))) := nr rfl
theorem p76 : pth 76 = .r (.l (.r (.r (.l (.l .o))))) := nr rfl
theorem p77 : pth 77 = .l (.r (.r (.r (.l (.l .o))))) := nr rfl
theorem p78 : pth 78 = .r (.r (.r (.r (.l (.l .o))))) := nr rfl
theorem p79 : pth 79 = .l (.l (.l (.l (.r (.l .o))))) := nr rfl
theorem p80 : pth 80 = .r (.l (.l (.l (.r (.l .o))))) := nr rfl
theorem p81 : pth 81 = .l (.r (.l (.l (.r (.l .o))))) := nr rfl
theorem p82 : pth 82 = .r (.r (.l (.l (.r (.l .o))))) := nr rfl
theorem p83 : pth 83 = .l (.l (.r (.l (.r (.l .o))))) := nr rfl
theorem p84 : pth 84 = .r (.l (.r (.l (.r (.l .o))))) := nr rfl
theorem p85 : pth 85 = .l (.r (.r (.l (.r (.l .o))))) := nr rfl
theorem p86 : pth 86 = .r (.r (.r (.l (.r (.l .o))))) := nr rfl
theorem p87 : pth 87 = .l (.l (.l (.r (.r (.l .o))))) := nr rfl
theorem p88 : pth 88 = .r (.l (.l (.r (.r (.l .o))))) := nr rfl
theorem p89 : pth 89 = .l (.r (.l (.r (.r (.l .o))))) := nr rfl
theorem p90 : pth 90 = .r (.r (.l (.r (.r (.l .o))))) := nr rfl
theorem p91 : pth 91 = .l (.l (.r (.r (.r (.l .o))))) := nr rfl
theorem p92 : pth 92 = .r (.l (.r (.r (.r (.l .o))))) := nr rfl
theorem p93 : pth 93 = .l (.r (.r (.r (.r (.l .o))))) := nr rfl
theorem p94 : pth 94 = .r (.r (.r (.r (.r (.l .o))))) := nr rfl
theorem p95 : pth 95 = .l (.l (.l (.l (.l (.r .o))))) := nr rfl
theorem p96 : pth 96 = .r (.l (.l (.l (.l (.r .o))))) := nr rfl
theorem p97 : pth 97 = .l (.r (.l (.l (.l (.r .o))))) := nr rfl
theorem p98 : pth 98 = .r (.r (.l (.l (.l (.r .o))))) := nr rfl
theorem p99 : pth 99 = .l (.l (.r (.l (.l (.r .o))))) := nr rfl
end Go.DD

/- The evaluator, read with symbols: calls of function values and of rounds; what a drawn region has looked at. -/
namespace Go.DD
open Go

section
variable {call : CallT} {es : ES} {dst : Option Pa} {q : Hold (ES → Prop)}
theorem sws_call {f : Nat} {args : List EO} (h : KW call (.fn f) (args.map (rawE es)) es.hp es.nx fun d hp nx => q.val ((ES.mk es.sl hp nx).putE dst d)) : SWs (sCall f args dst) call es := sw_call.2 h
theorem doc {tg : Tg} {ds : List DV} (h : KW call tg ds es.hp es.nx fun d hp nx => q.val ((ES.mk es.sl hp nx).putE dst d)) : SW (doCall tg ds dst) call es q.val := by
  obtain ⟨d, hp', nx', h1, h2⟩ := h
  refine ⟨_, ?_, h2⟩
  unfold doCall
  rw [h1]; rfl
/-- A round is asked for. -/
theorem sws_y {p : Pa} {args : List EO} {L : Nat} {o : DObj} (h0 : rawE es (.t p) = .yl L) (hL : es.hp.get L = some o) (h : KW call (.yl L) (args.map (rawE es)) es.hp es.nx fun d hp nx => q.val ((ES.mk es.sl hp nx).putE dst d)) : SWs (sCv none (.t p) args dst) call es := by
  have he : evE es (.t p) = .yl L := by
    rw [evt, h0]
    exact live_o fun i hi => by
      have : i = L := by simpa [DV.refs] using hi
      rw [this, hL]; rfl
  obtain ⟨es', h1, h2⟩ := doc h
  refine ⟨es', ?_, h2⟩
  unfold sCv
  rw [he]
  have e : evL es args = args.map (rawE es) := by unfold evL; rw [mapL_eq]
  show doCall (.yl L) (evL es args) dst call es = _
  rw [e]; exact h1
/-- A function value is called. -/
theorem sws_f {p : Pa} {args : List EO} {f : Nat} {fs cs : List DV} (h0 : evE es (.t p) = .fn (.func f) (.tup fs :: cs)) (h : KW call (.fn f) (fs ++ (args.map (rawE es) ++ cs)) es.hp es.nx fun d hp nx => q.val ((ES.mk es.sl hp nx).putE dst d)) : SWs (sCv none (.t p) args dst) call es := by
  obtain ⟨es', h1, h2⟩ := doc h
  refine ⟨es', ?_, h2⟩
  unfold sCv
  rw [h0]
  have e : evL es args = args.map (rawE es) := by unfold evL; rw [mapL_eq]
  show doCall (.fn f) (appL fs (appL (evL es args) cs)) dst call es = _
  rw [e, appL_eq, appL_eq]; exact h1
end

section
variable {call : CallT} {es : ES} {dst : Option Pa} {q : Hold (ES → Prop)} {Q : ES → Prop}
theorem z_al {T : TypeId} {z : List DV} : SW (sU dst (xAl T z)) call es Q ↔ @SWs (sU dst (xAl T z)) call es ⟨Q⟩ := Iff.rfl
theorem z_bx {T : TypeId} {x : EO} : SW (sU dst (xBx T x)) call es Q ↔ @SWs (sU dst (xBx T x)) call es ⟨Q⟩ := Iff.rfl
theorem sws_al {T : TypeId} {z : List DV} (h : ∀ hp', hp'.get es.nx = some (.row T z) → (∀ j, j ≠ es.nx → hp'.get j = es.hp.get j) → q.val ((ES.mk es.sl hp' (es.nx + 1)).putE dst (.pt es.nx 0))) : SWs (sU dst (xAl T z)) call es :=
  sw_al.2 (h (es.up (.lay (.row T z))).hp (by rw [up_lay, get_set, if_pos rfl]) fun j hj => by rw [up_lay, get_set, if_neg hj])
theorem sws_bx {T : TypeId} {x : EO} {v : DV} (hv : evE es x = v) (hk : v.okC = true ∧ v.cells = [v]) (h : ∀ hp', hp'.get es.nx = some (.row T [v]) → (∀ j, j ≠ es.nx → hp'.get j = es.hp.get j) → q.val ((ES.mk es.sl hp' (es.nx + 1)).putE dst (.pt es.nx 0))) : SWs (sU dst (xBx T x)) call es := by
  refine sw_bx.2 ⟨.pt es.nx 0, .lay (.row T [v]), ?_, h (es.up (.lay (.row T [v]))).hp (by rw [up_lay, get_set, if_pos rfl]) fun j hj => by rw [up_lay, get_set, if_neg hj]⟩
  unfold bxD
  rw [hv, if_pos hk.1, hk.2]
theorem z_mkm : SW (sU dst (xAny .mkm)) call es Q ↔ @SWs (sU dst (xAny .mkm)) call es ⟨Q⟩ := Iff.rfl
theorem sws_mkm (h : ∀ hp', hp'.get es.nx = some (.mapo 0 []) → (∀ j, j ≠ es.nx → hp'.get j = es.hp.get j) → q.val ((ES.mk es.sl hp' (es.nx + 1)).putE dst (.mp es.nx))) : SWs (sU dst (xAny .mkm)) call es :=
  sw_u.2 ⟨.mp es.nx, .lay (.mapo 0 []), rfl, h (es.up (.lay (.mapo 0 []))).hp (by rw [up_lay, get_set, if_pos rfl]) fun j hj => by rw [up_lay, get_set, if_neg hj]⟩
end
/-! What is the same as itself. -/
theorem sameL_refl {f : DV → DV → Bool} : ∀ {l : List DV}, (∀ c ∈ l, f c c = true) → sameL f l l = true
  | [], _ => rfl
  | a :: l, h => by
    show (f a a && sameL f l l) = true
    rw [h a (List.mem_cons_self ..), sameL_refl fun c hc => h c (List.mem_cons_of_mem _ hc)]; rfl
theorem same_i (n : Nat) (k : IntKind) (x : Int) : sameDV (n + 1) (.v (.int k x)) (.v (.int k x)) = true := by simp [sameDV, sameV]
theorem same_ub (n x : Nat) : sameDV (n + 1) (ub x) (ub x) = true := same_i n .u8 x
theorem same_src {hp : Tr DObj} {d : DV} {l : List Nat} (h : Src hp d l) : sameDV 6 d d = true := by
  cases h with
  | nil => simp [sameDV, sameV, nilS]
  | sl =>
    show (l.length == l.length && sameL (sameDV 5) (l.map ub) (l.map ub)) = true
    rw [sameL_refl fun c hc => by obtain ⟨x, _, rfl⟩ := List.mem_map.1 hc; exact same_ub 4 x]
    simp
  | ms id off fl l h hl hc => simp [sameDV]
theorem sameAt_row {H : Tr DObj} {id : Nat} {T : TypeId} {cs : List DV} (h : H.get id = some (.row T cs)) (hc : ∀ c ∈ cs, sameDV 6 c c = true) : sameAt H H id = true := by
  unfold sameAt
  rw [h]
  show (T == T && sameL (sameDV 6) cs cs) = true
  rw [sameL_refl hc]; simp
theorem sameAt_row' {H H' : Tr DObj} {id : Nat} {T : TypeId} {cs : List DV} (h : H.get id = some (.row T cs)) (he : H'.get id = H.get id) (hc : ∀ c ∈ cs, sameDV 6 c c = true) : sameAt H H' id = true := by
  unfold sameAt
  rw [he, h]
  show (T == T && sameL (sameDV 6) cs cs) = true
  rw [sameL_refl hc]; simp
theorem sameAt_src {H : Tr DObj} {d : DV} {l : List Nat} (h : Src H d l) : ∀ id ∈ d.refs, sameAt H H id = true := by
  cases h with
  | nil => intro id h; cases h
  | sl => intro id h; cases h
  | ms i off fl l h hl hc =>
    intro j hj
    have : j = i := by simpa [DV.refs] using hj
    subst this
    exact sameAt_row h fun c hc => by obtain ⟨x, _, rfl⟩ := List.mem_map.1 hc; exact same_ub 5 x
theorem bothAt_refl (H : Tr DObj) (id : Nat) : bothAt H H id = true := by simp [bothAt]
section
variable {n0 m i : Nat} {an refs lo : List Nat} {c : Bool} {ws : List Look} {ps : List Past}
theorem okl_cons {w : Look} : okLook n0 m (w :: ws) ps = true ↔ (∀ p ∈ ps, (w.an.contains p.q || p.an.contains w.i || (if Nat.blt w.id n0 || Nat.ble (n0 + m) w.id then (if w.c then sameAt p.a p.b w.id else bothAt p.a p.b w.id) else w.own && !p.an.contains (w.id - n0))) = true) ∧ okLook n0 m ws ps = true := by
  unfold okLook
  rw [List.all_cons, Bool.and_eq_true, List.all_eq_true]
/-- One that looks at old objects, which no ordered operation beside it turns. -/
theorem okl_look (h : ∀ id ∈ refs, id < n0 ∧ ∀ p ∈ ps, p.an.contains i = true ∨ an.contains p.q = true ∨ (if c = true then sameAt p.a p.b id = true else bothAt p.a p.b id = true)) (h2 : okLook n0 m ws ps = true) : okLook n0 m (lookE i an true c refs n0 lo ws) ps = true := by
  have e : lookE i an true c refs n0 lo ws = (refs.map fun id => ⟨i, an, id, lo.contains (id - n0), c⟩) ++ ws := by
    show appL (mapL _ refs) ws = _
    rw [appL_eq, mapL_eq]
  rw [e]
  clear e
  induction refs with
  | nil => exact h2
  | cons id refs ih =>
    rw [List.map_cons, List.cons_append, okl_cons]
    refine ⟨fun p hp => ?_, ih fun id hid => h id (List.mem_cons_of_mem _ hid)⟩
    obtain ⟨h3, h4⟩ := h id (List.mem_cons_self ..)
    simp only
    have hb : (Nat.blt id n0 || Nat.ble (n0 + m) id) = true := by
      rw [Bool.or_eq_true]; exact .inl (by simpa [Nat.blt_eq] using h3)
    rw [if_pos hb]
    rcases h4 p hp with h | h | h
    · rw [h]; simp
    · rw [h]; simp
    · cases c with
      | true => simp only [if_true] at h; simp [h]
      | false => simp at h; simp [h]
end
end Go.DD

/- The evaluator, read with symbols: rows of integers; maps of numbers. -/
namespace Go.DD
open Go

def ib (n : Nat) : DV := .v (.int .i64 (n : Int))
/-- An own row of integers, or none. -/
inductive OwnI (hp : Tr DObj) : DV → List Nat → Prop where
  | nil : OwnI hp nilS []
  | ms (id : Nat) (l : List Nat) (h : hp.get id = some (.row 3 (l.map ib))) : OwnI hp (.ms id 0 l.length 1) l
theorem OwnI.keep {hp hp' : Tr DObj} {d : DV} {l : List Nat} (h : OwnI hp d l) (hk : ∀ id ∈ d.refs, hp'.get id = hp.get id) : OwnI hp' d l := by
  cases h with
  | nil => exact .nil
  | ms id l h => exact .ms id l ((hk id (by simp [DV.refs])).trans h)
theorem OwnI.live {hp : Tr DObj} {d : DV} {l : List Nat} (h : OwnI hp d l) : liveE hp d = d := by
  cases h with
  | nil => exact live_nil rfl
  | ms id l h => exact live_ms h
theorem OwnI.alive {hp : Tr DObj} {d : DV} {l : List Nat} (h : OwnI hp d l) : ∀ id ∈ d.refs, (hp.get id).isSome = true := by
  cases h with
  | nil => intro id h; cases h
  | ms id l h =>
    intro j hj
    have : j = id := by simpa [DV.refs] using hj
    rw [this, h]; rfl
theorem OwnI.ok {hp : Tr DObj} {d : DV} {l : List Nat} (h : OwnI hp d l) : d.okC = true ∧ d.cells = [d] := by
  cases h <;> exact ⟨rfl, rfl⟩
theorem OwnI.len {hp : Tr DObj} {d : DV} {l : List Nat} (h : OwnI hp d l) : lenD hp d = some (.v (.int .i64 (l.length : Int))) := by
  cases h with
  | nil => rfl
  | ms id l h =>
    show (if alv hp id = true then _ else none) = _
    rw [if_pos (by unfold alv; rw [h]; rfl)]
theorem OwnI.ia {hp : Tr DObj} {d : DV} {l : List Nat} (h : OwnI hp d l) {i : Nat} (hi : i < l.length) : iaD hp 1 d (.v (.int .i64 (i : Int))) = some (adr d i) := by
  cases h with
  | nil => simp at hi
  | ms id l h =>
    show (if alv hp id = true ∧ 0 ≤ (i : Int) ∧ (i : Int) < (l.length : Int) then some (DV.pt id (0 + (i : Int).toNat * 1)) else none) = _
    rw [if_pos ⟨by unfold alv; rw [h]; rfl, by omega, by omega⟩]; rfl
theorem OwnI.ld {hp : Tr DObj} {d : DV} {l : List Nat} (h : OwnI hp d l) {i : Nat} (hi : i < l.length) : ldD hp none (adr d i) = some (ib (l.getD i 0)) := by
  cases h with
  | nil => simp at hi
  | ms id l h =>
    have e : ldD hp none (adr (.ms id 0 l.length 1) i) = partD none ((l.map ib).drop (0 + i * 1)) := by
      show ldD hp none (.pt id (0 + i * 1)) = _
      rw [ld_p h]
    rw [e, Nat.zero_add, Nat.mul_one]
    refine part_get ?_
    rw [List.getElem?_map, List.getD, List.getElem?_eq_getElem hi]; rfl
theorem live_ib (hp : Tr DObj) (n : Nat) : liveE hp (ib n) = ib n := live_v hp _
theorem fill1i (z : Value) (v : Nat) : fillD ((List.replicate 1 ([z].map DV.v)).flatten) [(0, 1, ib v)] = some ([v].map ib) := by
  simp [fillD, ib, DV.okC, DV.cells, Value.oneCell']
section
variable {call : CallT} {es : ES} {dst : Option Pa} {q : Hold (ES → Prop)} {n0 m i : Nat} {lo an : List Nat} {ws : List Look} {pp : List Past} {r : Hold (DSt → Prop)} {ps : List Pa}
/-- A row of integers grows by one. -/
theorem sw_appi {b t u id : Nat} {d : DV} {l : List Nat} {x : Nat} (e1 : rawE es (.t (pth t)) = d) (hd : OwnI es.hp d l) (e2 : rawE es (.t (pth u)) = .ms id 0 1 1) (hm : es.hp.get id = some (.row 3 ([x].map ib))) (hl : l.length + 1 ≤ 2147483648) (hb : b ≤ 65536)
    (h : ∀ hp', hp'.get es.nx = some (.row 3 ((l ++ [x]).map ib)) → (∀ j, j ≠ es.nx → j ∉ d.refs → hp'.get j = es.hp.get j) → q.val ((ES.mk es.sl hp' (es.nx + 1)).putE dst (.ms es.nx 0 (l ++ [x]).length 1))) :
    SWs (sU dst (xAny (.app 3 1 b (.tmp t) (.tmp u)))) call es := by
  have ho : ∃ o, dstD es.ds 3 1 d = some (o, l.map ib, l.length) ∧ (∀ id, o = some id → id ∈ d.refs) := by
    cases hd with
    | nil => exact ⟨none, rfl, fun _ h => by cases h⟩
    | ms id l hg =>
      refine ⟨some id, ?_, fun _ h => by cases h; simp [DV.refs]⟩
      show (match es.hp.get id with
      | some (.row T' cs) => if T' = 3 ∧ 1 = 1 ∧ cs.length = l.length * 1 then some (some id, cs, l.length) else none
      | _ => none) = _
      rw [hg]
      simp only []
      rw [if_pos ⟨trivial, trivial, by simp⟩]
  obtain ⟨o, ho, hor⟩ := ho
  have hs : srcD es.ds 3 1 (.ms id 0 1 1) = some ([ib x], 1) := by
    show (match es.hp.get id with
    | some (.row T' cs) => if T' = 3 ∧ 1 = 1 ∧ 0 + 1 * 1 ≤ cs.length then some ((cs.drop 0).take (1 * 1), 1) else none
    | _ => none) = _
    rw [hm]; rfl
  show SW _ _ _ _
  rw [sw_u, x_any]
  refine ⟨.ms es.nx 0 (l.length + 1) 1, .mv o (.row 3 (l.map ib ++ [ib x])), ?_, ?_⟩
  · have f1 : es.ds.ev (.tmp t) = d := by rw [ev_live, e1, hd.live]
    have f2 : es.ds.ev (.tmp u) = .ms id 0 1 1 := by rw [ev_live, e2]; exact live_ms hm
    simp only [execU, f1, f2, ho, hs]
    rw [if_pos ⟨by simp, by omega, hl, hb⟩]
  · have hh := h (es.up (.mv o (.row 3 (l.map ib ++ [ib x])))).hp (by
      rw [List.map_append]
      cases o with
      | none => rw [up_mvn, get_set, if_pos rfl]; rfl
      | some i => rw [up_mvs, get_set, if_pos rfl]; rfl) (by
      intro j hj hjd
      cases o with
      | none => rw [up_mvn, get_set, if_neg hj]
      | some i => rw [up_mvs, get_set, if_neg hj, get_set, if_neg (fun e => hjd (by rw [e]; exact hor i rfl))])
    simp only [List.length_append, List.length_singleton] at hh
    exact hh
theorem tws_bsli {wide c : Bool} {z : List Value} {xs : List (Nat × Nat × Operand)} {x : Nat} (hz : z.length = 1) (hf : fillD ((List.replicate 1 (z.map .v)).flatten) (xs.map fun p => (p.1, p.2.1, es.ds.ev p.2.2)) = some ([x].map ib))
    (h : ∀ hp', hp'.get (n0 + i) = some (.row 3 ([x].map ib)) → (∀ j, j ≠ n0 + i → hp'.get j = es.hp.get j) → r.val ⟨(ES.mk es.sl hp' es.nx).putE dst (.ms (n0 + i) 0 1 1), i :: lo, lookE i an wide c (refsL es ps) n0 lo ws, pp⟩) :
    TWs (dLay i an wide c dst (xAny (.bsl 3 1 1 z xs)) ps) call n0 m es lo ws pp := by
  show TW _ _ _ _ _ _
  rw [tw_lay]
  refine ⟨.ms (n0 + i) 0 1 1, .row 3 ([x].map ib), ?_, ?_⟩
  · rw [x_any]
    simp only [execU, hf, hz]
    rw [if_pos trivial]
  · exact h _ (by rw [setN_get]; simp) fun j hj => by rw [setN_get]; simp [hj]

/-! Maps of numbers of 32 bits. -/
def Keys32 (es : List ME) : Prop := ∀ e ∈ es, ∃ n : Nat, e.k = .int .u32 (n : Int)
def valM : List ME → Nat → DV
  | [], _ => nilS
  | e :: es, key => match e.k with
    | .int .u32 n => if n = (key : Int) then e.v else valM es key
    | _ => valM es key
theorem valM_cons {e : ME} {n : Nat} (hn : e.k = .int .u32 (n : Int)) (es : List ME) (key : Nat) : valM (e :: es) key = if key = n then e.v else valM es key := by
  have e1 : valM (e :: es) key = if (n : Int) = (key : Int) then e.v else valM es key := by
    conv => lhs; unfold valM
    rw [hn]
  rw [e1]
  by_cases h : key = n
  · subst h; simp
  · rw [if_neg (by omega), if_neg h]
theorem same32 (a b : Nat) : sameK (.p (.int .u32)) (.int .u32 (a : Int)) (.int .u32 (b : Int)) = some (decide (a = b)) := by
  show (if IntKind.u32 = IntKind.u32 then some ((a : Int) == (b : Int)) else none) = _
  rw [if_pos rfl]
  congr 1
  by_cases h : a = b
  · subst h; simp
  · have : ¬ (a : Int) = (b : Int) := by omega
    simp [h, this]
theorem find32 : ∀ (es : List ME) (key i : Nat), Keys32 es → (findD (.p (.int .u32)) (.int .u32 (key : Int)) es i = some none ∧ valM es key = nilS ∧ ∀ v ck, ∀ key', valM (es ++ [⟨.int .u32 (key : Int), v, ck⟩]) key' = if key' = key then v else valM es key') ∨
    ∃ j e, findD (.p (.int .u32)) (.int .u32 (key : Int)) es i = some (some (i + j, e)) ∧ e.v = valM es key ∧ ∀ v, (∀ key', valM (es.set j ⟨.int .u32 (key : Int), v, e.b⟩) key' = if key' = key then v else valM es key') ∧ Keys32 (es.set j ⟨.int .u32 (key : Int), v, e.b⟩)
  | [], key, i, _ => .inl ⟨rfl, rfl, fun v ck key' => valM_cons rfl [] key'⟩
  | e :: es, key, i, hk => by
    obtain ⟨n, hn⟩ := hk e (List.mem_cons_self ..)
    have hk' : Keys32 es := fun e he => hk e (List.mem_cons_of_mem _ he)
    have hs : sameK (.p (.int .u32)) (.int .u32 (key : Int)) e.k = some (decide (key = n)) := by rw [hn]; exact same32 key n
    by_cases h : key = n
    · refine .inr ⟨0, e, ?_, ?_, fun v => ⟨fun key' => ?_, ?_⟩⟩
      · unfold findD; rw [hs]; simp [h]
      · rw [valM_cons hn, if_pos h]
      · show valM (⟨.int .u32 (key : Int), v, e.b⟩ :: es) key' = _
        rw [valM_cons (n := key) rfl, valM_cons hn]
        subst h
        by_cases h' : key' = key
        · rw [if_pos h', if_pos h']
        · rw [if_neg h', if_neg h', if_neg h']
      · intro x hx
        rcases List.mem_cons.1 hx with rfl | hx
        · exact ⟨key, rfl⟩
        · exact hk' x hx
    · have hv : valM (e :: es) key = valM es key := by rw [valM_cons hn, if_neg h]
      have hc : ∀ (es' : List ME) (key' : Nat) (v : DV), (∀ key', valM es' key' = if key' = key then v else valM es key') → valM (e :: es') key' = if key' = key then v else valM (e :: es) key' := by
        intro es' key' v h1
        rw [valM_cons hn, valM_cons hn, h1 key']
        by_cases h' : key' = key
        · rw [if_neg (by omega), if_pos h']; rw [if_pos h']
        · rw [if_neg h', if_neg h']
      have hfd : findD (.p (.int .u32)) (.int .u32 (key : Int)) (e :: es) i = findD (.p (.int .u32)) (.int .u32 (key : Int)) es (i + 1) := by
        conv => lhs; unfold findD
        rw [hs, decide_eq_false h]
      rcases find32 es key (i + 1) hk' with ⟨h1, h2, h3⟩ | ⟨j, e', h1, h2, h3⟩
      · exact .inl ⟨hfd.trans h1, hv.trans h2, fun v ck key' => hc _ key' v (h3 v ck)⟩
      · refine .inr ⟨j + 1, e', by rw [hfd, h1, Nat.add_assoc, Nat.add_comm 1 j], h2.trans hv.symm, fun v => ⟨fun key' => hc _ key' v (h3 v).1, ?_⟩⟩
        intro x hx
        rcases List.mem_cons.1 hx with rfl | hx
        · exact ⟨n, hn⟩
        · exact (h3 v).2 x hx
def lkpD (hp : Tr DObj) (kd : KD) (z : Value) (x k : DV) : Option DV := match kvOf k with
  | some kv => if isKeyK kd kv = true then (match x with
    | .v (.map none) => some (lkRes false (.v z) false)
    | .mp id => match hp.get id with
      | some (.mapo _ es) => match findD kd kv es 0 with
        | some (some p) => some (lkRes false p.2.v true)
        | some none => some (lkRes false (.v z) false)
        | none => none
      | _ => none
    | _ => none) else none
  | none => none
theorem xk_lkp (kd : KD) (z : Value) (x k : Operand) (nid : Nat) (es : ES) : xKeep (xAny (.lkp kd z x k false)) nid es = lkpD es.hp kd z (es.ds.ev x) (es.ds.ev k) := by
  refine xk_k (X := fun es => lkpD es.hp kd z (es.ds.ev x) (es.ds.ev k)) (fun es nid => ?_) nid
  rw [x_any]
  simp only [execU, lkpD]
  cases kvOf (es.ds.ev k) with
  | none => rfl
  | some kv =>
    simp only []
    by_cases hk : isKeyK kd kv = true
    · rw [if_pos hk, if_pos hk]
      cases es.ds.ev x with
      | v a =>
        cases a with
        | map a => cases a <;> rfl
        | _ => rfl
      | mp id =>
        show (match es.hp.get id with
          | some (.mapo _ es) => match findD kd kv es 0 with
            | some (some p) => some (lkRes false p.2.v true, Upd.keep)
            | some none => some (lkRes false (.v z) false, .keep)
            | none => none
          | _ => none) = keepU (match es.hp.get id with
          | some (.mapo _ es) => match findD kd kv es 0 with
            | some (some p) => some (lkRes false p.2.v true)
            | some none => some (lkRes false (.v z) false)
            | none => none
          | _ => none)
        cases es.hp.get id with
        | none => rfl
        | some o =>
          cases o with
          | mapo c l => 
            simp only []
            cases findD kd kv l 0 with
            | none => rfl
            | some r => cases r <;> rfl
          | _ => rfl
      | _ => rfl
    · rw [if_neg hk, if_neg hk]; rfl
theorem lk32 {hp : Tr DObj} {im ck : Nat} {es : List ME} (h : hp.get im = some (.mapo ck es)) (hk : Keys32 es) (key : Nat) : lkpD hp (.p (.int .u32)) (.slice none 0 0) (.mp im) (.v (.int .u32 (key : Int))) = some (valM es key) := by
  unfold lkpD
  show (if isKeyK (.p (.int .u32)) (.int .u32 (key : Int)) = true then _ else none) = _
  rw [if_pos (by rfl)]
  simp only [h]
  rcases find32 es key 0 hk with ⟨h1, h2, _⟩ | ⟨j, e, h1, h2, _⟩
  · rw [h1, h2]; rfl
  · rw [h1]; simp only []; rw [← h2]; rfl
/-- An entry of a map is written. -/
theorem sws_mup {t u v im ck : Nat} {es' : List ME} {key : Nat} {d : DV} (e1 : es.ds.ev (.tmp t) = .mp im) (hm : es.hp.get im = some (.mapo ck es')) (hk : Keys32 es') (e2 : es.ds.ev (.tmp u) = .v (.int .u32 (key : Int))) (e3 : es.ds.ev (.tmp v) = d)
    (h : ∀ hp' ck' es2, hp'.get im = some (.mapo ck' es2) → Keys32 es2 → (∀ key', valM es2 key' = if key' = key then d else valM es' key') → (∀ j, j ≠ im → hp'.get j = es.hp.get j) → q.val ((ES.mk es.sl hp' es.nx).putE dst .any)) :
    SWs (sU dst (xAny (.mup (.p (.int .u32)) (.tmp t) (.tmp u) (.tmp v)))) call es := by
  show SW _ _ _ _
  rw [sw_u, x_any]
  have key0 : ∀ p, putD (.p (.int .u32)) (.int .u32 (key : Int)) d ck es' = some p → execU es.nx es.ds (.mup (.p (.int .u32)) (.tmp t) (.tmp u) (.tmp v)) = some (.any, .wr im (.mapo p.1 p.2)) := by
    intro p hp
    simp only [execU, e1, e2, e3, kvOf]
    rw [if_pos (by rfl)]
    show (match es.hp.get im with
      | some (.mapo ck es) => match putD (.p (.int .u32)) (.int .u32 (key : Int)) d ck es with
        | some p => some (DV.any, Upd.wr im (.mapo p.1 p.2))
        | none => none
      | _ => none) = _
    rw [hm]
    simp only [hp]
  have fin : ∀ ck2 es2, execU es.nx es.ds (.mup (.p (.int .u32)) (.tmp t) (.tmp u) (.tmp v)) = some (.any, .wr im (.mapo ck2 es2)) → Keys32 es2 → (∀ key', valM es2 key' = if key' = key then d else valM es' key') → UW (execU es.nx es.ds (.mup (.p (.int .u32)) (.tmp t) (.tmp u) (.tmp v))) fun d u => q.val ((es.up u).putE dst d) := by
    intro ck2 es2 h1 h2 h3
    exact ⟨_, _, h1, h (es.up (.wr im (.mapo ck2 es2))).hp ck2 es2 (by rw [up_wr, get_set, if_pos rfl]) h2 h3 fun j hj => by rw [up_wr, get_set, if_neg hj]⟩
  rcases find32 es' key 0 hk with ⟨h1, h2, h3⟩ | ⟨j, e, h1, h2, h3⟩
  · refine fin _ _ (key0 (ck + 1, es' ++ [⟨.int .u32 (key : Int), d, ck⟩]) (by unfold putD; rw [h1])) ?_ (h3 d ck)
    intro x hx
    rcases List.mem_append.1 hx with hx | hx
    · exact hk x hx
    · simp at hx; subst hx; exact ⟨key, rfl⟩
  · exact fin _ _ (key0 (ck, es'.set j ⟨.int .u32 (key : Int), d, e.b⟩) (by unfold putD; rw [h1]; simp)) (h3 d).2 (h3 d).1
end
section
variable {call : CallT} {es : ES} {dst : Option Pa} {q : Hold (ES → Prop)}
/-- A function value is called, in a region that draws its order. -/
theorem sws_cf {p : Pa} {args : List EO} {f : Nat} {fs cs : List DV} (h0 : evE es (.t p) = .fn (.func f) (.tup fs :: cs)) (h : KW call (.fn f) (fs ++ (args.map (rawE es) ++ cs)) es.hp es.nx fun d hp nx => q.val ((ES.mk es.sl hp nx).putE dst d)) : SWs (sCf none (.t p) args dst) call es := by
  obtain ⟨es', h1, h2⟩ := doc h
  refine ⟨es', ?_, h2⟩
  unfold sCf
  rw [h0]
  have e : evL es args = args.map (rawE es) := by unfold evL; rw [mapL_eq]
  show doCall (.fn f) (appL fs (appL (evL es args) cs)) dst call es = _
  rw [e, appL_eq, appL_eq]; exact h1
end
theorem ro_fn (f : Nat) (id off : Nat) (g : Nat → Bool) : RefsOK (.fn (.func f) [.tup [], .pt id off]) g ↔ g id = true := by simp [RefsOK, DV.refs, DV.refsL]
theorem live_fn1 {hp : Tr DObj} {f id off : Nat} {o : DObj} (h : hp.get id = some o) : liveE hp (.fn (.func f) [.tup [], .pt id off]) = .fn (.func f) [.tup [], .pt id off] := live_o fun i hi => by
  have : i = id := by simpa [DV.refs, DV.refsL] using hi
  rw [this, h]; rfl
theorem b_shlN {a c : Nat} {r : Nat} (h : a * 2 ^ c = r) (hr : r < 4294967296) (hc : c ≤ 32) : binD .shl (.v (.int .u32 (a : Int))) (.v (.int .u64 (c : Int))) = some (.v (.int .u32 (r : Int))) := by
  have e : shI .shl .u32 (a : Int) (c : Int) = some (.int .u32 (r : Int)) := by
    unfold shI
    rw [if_neg (by omega)]
    simp only [Int.toNat_natCast, IntKind.bits]
    rw [show min c 32 = c by omega]
    have : (a : Int) * 2 ^ c = (r : Int) := by rw [← h]; push_cast; rfl
    rw [this, IntWalk.u32_in _ (by omega)]
  simp [binD, binV, isSh, e]
theorem b_orN {a b r : Nat} (h : a ||| b = r) (ha : a < 4294967296) (hb : b < 4294967296) (hr : r < 4294967296) : binD .or (.v (.int .u32 (a : Int))) (.v (.int .u32 (b : Int))) = some (.v (.int .u32 (r : Int))) := by
  show some (DV.v (.int .u32 (IntKind.u32.wrap (((BitVec.ofInt 32 (a : Int) ||| BitVec.ofInt 32 (b : Int)).toNat : Nat) : Int)))) = _
  rw [BitVec.ofInt_natCast, BitVec.ofInt_natCast, BitVec.toNat_or, BitVec.toNat_ofNat, BitVec.toNat_ofNat, Nat.mod_eq_of_lt ha, Nat.mod_eq_of_lt hb, h, IntWalk.u32_in _ (by omega)]
theorem cvi_u32 {k : IntKind} {n : Nat} (h : n < 4294967296) : cviE .u32 (.v (.int k (n : Int))) = some (.v (.int .u32 (n : Int))) := by
  show some (DV.v (.int .u32 (IntKind.u32.wrap (n : Int)))) = _
  rw [IntWalk.u32_in _ (by omega)]
theorem or_add {c b : Nat} (i : Nat) (h : b < 2 ^ i) : c * 2 ^ i ||| b = c * 2 ^ i + b := by
  rw [Nat.mul_comm, Nat.two_pow_add_eq_or_of_lt h]
end Go.DD

/- The evaluator, read with symbols: bytes as strings; empty slices; numbers that are turned and divided. -/
namespace Go.DD
open Go

def strB (l : List Nat) : ByteArray := strOfNums (l.map fun (n : Nat) => (n : Int))
theorem numsV_ub : ∀ l : List Nat, numsV (l.map ub) = some (l.map fun (n : Nat) => (n : Int))
  | [] => rfl
  | a :: l => by
    show (numsV (l.map ub)).map ((a : Int) :: ·) = _
    rw [numsV_ub l]; rfl
section
variable {call : CallT} {es : ES} {dst : Option Pa} {q : Hold (ES → Prop)}
theorem Src.srcC {d : DV} {l : List Nat} (h : Src es.hp d l) : srcC es.ds 1 d = some (l.map ub, l.length) := by
  cases h with
  | nil => rfl
  | sl => rfl
  | ms id off fl l h hl0 hc0 =>
    obtain ⟨hl, hc⟩ := ms_cs hl0 hc0
    generalize hfl : fl.map ub = cs at *
    show (match es.hp.get id with
    | some (.row _ cs) => if 1 = 1 ∧ off + l.length * 1 ≤ cs.length then some ((cs.drop off).take (l.length * 1), l.length) else none
    | _ => none) = _
    rw [h]
    simp only []
    rw [if_pos ⟨trivial, by omega⟩, Nat.mul_one, hc]
/-- Bytes as a string. -/
theorem sws_b2s {t : Nat} {d : DV} {l : List Nat} (e1 : rawE es (.t (pth t)) = d) (hd : Src es.hp d l) (h : q.val (es.putE dst (.v (.string (strB l))))) : SWs (sU dst (xAny (.b2s (.tmp t)))) call es := by
  show SW _ _ _ _
  rw [sw_u, x_any]
  have f1 : es.ds.ev (.tmp t) = d := by rw [ev_live, e1, hd.live]
  refine ⟨.v (.string (strB l)), .keep, ?_, h⟩
  simp only [execU, f1, hd.srcC]
  rw [if_pos (by simp), numsV_ub]; rfl
end
theorem b_eqlS (x y : ByteArray) : binD .eql (.v (.string x)) (.v (.string y)) = some (.v (.bool (x.toList == y.toList))) := by simp [binD, binV, binS]
theorem b_eqlSS (x : ByteArray) : binD .eql (.v (.string x)) (.v (.string x)) = some (.v (.bool true)) := by rw [b_eqlS, beq_self_eq_true]
theorem b_neqS (x y : ByteArray) : binD .neq (.v (.string x)) (.v (.string y)) = some (.v (.bool (!(x.toList == y.toList)))) := by simp [binD, binV, binS]
theorem b_shrN {k' : IntKind} {a c : Nat} (hc : c < 64) : binD .shr (.v (.int .i64 (a : Int))) (.v (.int k' (c : Int))) = some (.v (.int .i64 ((a / 2 ^ c : Nat) : Int))) := by
  have e : shI .shr .i64 (a : Int) (c : Int) = some (.int .i64 ((a / 2 ^ c : Nat) : Int)) := by
    unfold shI
    rw [if_neg (by omega)]
    simp only [Int.toNat_natCast, IntKind.bits]
    rw [show min c 64 = c by omega]
    have : (a : Int).fdiv (2 ^ c) = ((a / 2 ^ c : Nat) : Int) := by
      rw [Int.fdiv_eq_ediv_of_nonneg _ (Int.pow_nonneg (by decide))]
      push_cast; rfl
    rw [this]
  simp [binD, binV, isSh, e]
theorem cvi_u8m {k : IntKind} {n : Nat} : cviE .u8 (.v (.int k (n : Int))) = some (ub (n % 256)) := by
  show some (DV.v (.int .u8 (IntKind.u8.wrap (n : Int)))) = _
  have : IntKind.u8.wrap (n : Int) = ((n % 256 : Nat) : Int) := by
    simp [IntKind.wrap, IntKind.bits, IntKind.signed]
  rw [this]; rfl
end Go.DD

/- The evaluator, read with symbols: records and rows of them; the test for nil. -/
namespace Go.DD
open Go

section
variable {call : CallT} {es : ES} {dst : Option Pa} {q : Hold (ES → Prop)} {Q : ES → Prop}
theorem z_bld {z : List Value} {ps : List (Nat × Nat × Operand)} : SW (sU dst (xAny (.bld z ps))) call es Q ↔ @SWs (sU dst (xAny (.bld z ps))) call es ⟨Q⟩ := Iff.rfl
theorem z_nil {k : Nat} {neg : Bool} {x y : Operand} : SW (sU dst (xAny (.nilq k neg x y))) call es Q ↔ @SWs (sU dst (xAny (.nilq k neg x y))) call es ⟨Q⟩ := Iff.rfl
theorem sws_bld {z : List Value} {ps : List (Nat × Nat × Operand)} {cs : List DV} (hf : fillD (z.map .v) (ps.map fun p => (p.1, p.2.1, es.ds.ev p.2.2)) = some cs) (h : q.val (es.putE dst (.agg cs))) : SWs (sU dst (xAny (.bld z ps))) call es := by
  show SW _ _ _ _
  rw [sw_u, x_any]
  refine ⟨.agg cs, .keep, ?_, h⟩
  simp only [execU, hf]
theorem sws_bslG {T n e : Nat} {z : List Value} {ps : List (Nat × Nat × Operand)} {cs : List DV} (hz : z.length = e) (hf : fillD ((List.replicate n (z.map .v)).flatten) (ps.map fun p => (p.1, p.2.1, es.ds.ev p.2.2)) = some cs)
    (h : ∀ hp', hp'.get es.nx = some (.row T cs) → (∀ j, j ≠ es.nx → hp'.get j = es.hp.get j) → q.val ((ES.mk es.sl hp' (es.nx + 1)).putE dst (.ms es.nx 0 n e))) :
    SWs (sU dst (xAny (.bsl T n e z ps))) call es := by
  show SW _ _ _ _
  rw [sw_u, x_any]
  refine ⟨.ms es.nx 0 n e, .lay (.row T cs), ?_, ?_⟩
  · simp only [execU, hf, hz]
    rw [if_pos trivial]
  · exact h (es.up (.lay (.row T cs))).hp (by rw [up_lay, get_set, if_pos rfl]) fun j hj => by rw [up_lay, get_set, if_neg hj]
theorem sws_nil {k : Nat} {neg : Bool} {x y : Operand} (b : Bool) (hx : isNil k (es.ds.ev x) = some b) (hy : isNil k (es.ds.ev y) = some true) (h : q.val (es.putE dst (.v (.bool (xor neg b))))) : SWs (sU dst (xAny (.nilq k neg x y))) call es := by
  show SW _ _ _ _
  rw [sw_u, x_any]
  refine ⟨.v (.bool (xor neg b)), .keep, ?_, h⟩
  cases b <;> simp only [execU, hx, hy]
end
end Go.DD

/- The evaluator, read with symbols: parts of slices in regions that draw their order; new rows of bytes; copies. -/
namespace Go.DD
open Go

def bdD (n : Int) : Option DV → Option Int
  | none => some n
  | some d => intD d
theorem bnd_bd (es : ES) (n : Int) (o : Option Operand) : bndD es.ds n o = bdD n (o.map es.ds.ev) := by cases o <;> rfl
def sliE (e : Nat) (x : DV) (lo hi : Option DV) : Option DV := match x with
  | .sl cs n => match bdD 0 lo, bdD n hi with
    | some l, some h => if 0 ≤ l ∧ l ≤ h ∧ h ≤ n then some (.sl ((cs.drop (l.toNat * e)).take ((h.toNat - l.toNat) * e)) (h.toNat - l.toNat)) else none
    | _, _ => none
  | .ms id off n e' => match bdD 0 lo, bdD n hi with
    | some l, some h => if e' = e ∧ 0 ≤ l ∧ l ≤ h ∧ h ≤ n then some (if l < h ∨ l = 0 then .ms id (off + l.toNat * e) (h.toNat - l.toNat) e else .sl [] 0) else none
    | _, _ => none
  | .v (.slice none 0 0) => match bdD 0 lo, bdD 0 hi with
    | some l, some h => if l = 0 ∧ h = 0 then some (.v (.slice none 0 0)) else none
    | _, _ => none
  | _ => none
theorem xk_sli (e : Nat) (x : Operand) (lo hi : Option Operand) (nid : Nat) (es : ES) : xKeep (xAny (.sli e x lo hi)) nid es = sliE e (es.ds.ev x) (lo.map es.ds.ev) (hi.map es.ds.ev) := by
  refine xk_k (X := fun es => sliE e (es.ds.ev x) (lo.map es.ds.ev) (hi.map es.ds.ev)) (fun es nid => ?_) nid
  rw [x_any]
  simp only [execU, sliE, bnd_bd]
  cases es.ds.ev x with
  | sl cs n =>
    simp only
    cases bdD 0 (lo.map es.ds.ev) with
    | none => rfl
    | some l =>
      cases bdD n (hi.map es.ds.ev) with
      | none => rfl
      | some h => simp only; split <;> rfl
  | ms id off n e' =>
    simp only
    cases bdD 0 (lo.map es.ds.ev) with
    | none => rfl
    | some l =>
      cases bdD n (hi.map es.ds.ev) with
      | none => rfl
      | some h => simp only; split <;> rfl
  | v a =>
    cases a with
    | slice a n c =>
      cases a with
      | none =>
        cases n with
        | zero =>
          cases c with
          | zero =>
            simp only
            cases bdD 0 (lo.map es.ds.ev) with
            | none => rfl
            | some l =>
              cases bdD 0 (hi.map es.ds.ev) with
              | none => rfl
              | some h => simp only; split <;> rfl
          | succ c => rfl
        | succ n => rfl
      | some a => rfl
    | _ => rfl
  | _ => rfl
theorem Src.sliE {hp : Tr DObj} {d : DV} {l : List Nat} (hd : Src hp d l) {a z : Nat} {lo hi : Option DV} (hlo : bdD 0 lo = some (a : Int)) (hhi : ∀ n : Int, n = l.length → bdD n hi = some (z : Int)) (haz : a ≤ z) (hz : z ≤ l.length) :
    ∃ d', sliE 1 d lo hi = some d' ∧ Src hp d' ((l.drop a).take (z - a)) ∧ ∀ id ∈ d'.refs, id ∈ d.refs := by
  have hlen : ((l.drop a).take (z - a)).length = z - a := by rw [List.length_take, List.length_drop]; omega
  have hc : (((l.map ub).drop (a * 1)).take ((z - a) * 1)) = ((l.drop a).take (z - a)).map ub := by
    rw [Nat.mul_one, Nat.mul_one, List.map_take, List.map_drop]
  cases hd with
  | nil =>
    have ha : a = 0 ∧ z = 0 := by simp at hz; omega
    obtain ⟨rfl, rfl⟩ := ha
    have hh := hhi 0 rfl
    refine ⟨nilS, ?_, by simpa using Src.nil, fun id hid => by cases hid⟩
    simp only [Go.DD.sliE, nilS, hlo, hh]
    rfl
  | sl =>
    have hh := hhi l.length rfl
    refine ⟨.sl (((l.drop a).take (z - a)).map ub) (z - a), ?_, by have := Src.sl (hp := hp) ((l.drop a).take (z - a)); rwa [hlen] at this, fun id hid => by cases hid⟩
    simp only [Go.DD.sliE, hlo, hh]
    rw [if_pos ⟨by omega, by omega, by omega⟩]
    simp only [Int.toNat_natCast, hc]
  | ms id off fl l hg hl0 hc0 =>
    obtain ⟨hl, hcs⟩ := ms_cs hl0 hc0
    have hh := hhi l.length rfl
    have hx : ∃ d', (if (a : Int) < z ∨ (a : Int) = 0 then DV.ms id (off + a * 1) (z - a) 1 else .sl [] 0) = d' ∧ Src hp d' ((l.drop a).take (z - a)) ∧ ∀ j ∈ d'.refs, j ∈ (DV.ms id off l.length 1).refs := by
      refine ⟨_, rfl, ?_, ?_⟩
      · by_cases hlt : (a : Int) < z ∨ (a : Int) = 0
        · rw [if_pos hlt]
          have := Src.ms (hp := hp) id (off + a * 1) fl ((l.drop a).take (z - a)) hg (by rw [hlen]; omega) (by
            have e : l.drop a = ((fl.drop off).take l.length).drop a := by rw [hc0]
            rw [hlen, e, List.drop_take, List.drop_drop, List.take_take, Nat.mul_one]
            congr 1; omega)
          rwa [hlen] at this
        · rw [if_neg hlt]
          have : z - a = 0 := by omega
          rw [this, List.take_zero]
          exact Src.sl []
      · split
        · intro j hj; exact hj
        · intro j hj; cases hj
    obtain ⟨d', e', h1, h2⟩ := hx
    refine ⟨d', ?_, h1, h2⟩
    simp only [Go.DD.sliE, hlo, hh]
    rw [if_pos ⟨trivial, by omega, by omega, by omega⟩]
    simp only [Int.toNat_natCast]
    rw [e']
theorem sli_from {id n i : Nat} (h : i < n) : sliE 1 (.ms id 0 n 1) (some (ib i)) none = some (.ms id i (n - i) 1) := by
  show (if 1 = 1 ∧ (0 : Int) ≤ (i : Int) ∧ (i : Int) ≤ (n : Int) ∧ (n : Int) ≤ (n : Int) then some (if (i : Int) < (n : Int) ∨ (i : Int) = 0 then DV.ms id (0 + (i : Int).toNat * 1) ((n : Int).toNat - (i : Int).toNat) 1 else .sl [] 0) else none) = _
  rw [if_pos ⟨rfl, by omega, by omega, by omega⟩, if_pos (.inl (by omega))]
  simp
theorem sli_to {id n i : Nat} (h : i ≤ n) : sliE 1 (.ms id 0 n 1) none (some (ib i)) = some (.ms id 0 i 1) := by
  show (if 1 = 1 ∧ (0 : Int) ≤ 0 ∧ (0 : Int) ≤ (i : Int) ∧ (i : Int) ≤ (n : Int) then some (if (0 : Int) < (i : Int) ∨ (0 : Int) = 0 then DV.ms id (0 + (0 : Int).toNat * 1) ((i : Int).toNat - (0 : Int).toNat) 1 else .sl [] 0) else none) = _
  rw [if_pos ⟨rfl, by omega, by omega, by omega⟩, if_pos (.inr rfl)]
  simp
section
variable {call : CallT} {es : ES} {dst : Option Pa} {q : Hold (ES → Prop)} {Q : ES → Prop}
theorem z_mks {T e b : Nat} {z : List Value} {x y : Operand} : SW (sU dst (xAny (.mks T e b z x y))) call es Q ↔ @SWs (sU dst (xAny (.mks T e b z x y))) call es ⟨Q⟩ := Iff.rfl
theorem z_cpy {e : Nat} {x y : Operand} : SW (sU dst (xAny (.cpy e x y))) call es Q ↔ @SWs (sU dst (xAny (.cpy e x y))) call es ⟨Q⟩ := Iff.rfl
/-- A new row of bytes. -/
theorem sws_mks {x y : Operand} {n : Nat} (hx : es.ds.ev x = ib n) (hy : es.ds.ev y = ib n) (hn : n ≤ 2147483648)
    (h : ∀ hp', hp'.get es.nx = some (.row 5 ((List.replicate n 0).map ub)) → (∀ j, j ≠ es.nx → hp'.get j = es.hp.get j) → q.val ((ES.mk es.sl hp' (es.nx + 1)).putE dst (.ms es.nx 0 n 1))) : SWs (sU dst (xAny (.mks 5 1 1 [.int .u8 0] x y))) call es := by
  show SW _ _ _ _
  rw [sw_u, x_any]
  have e : (List.replicate n ([Value.int .u8 0].map DV.v)).flatten = (List.replicate n 0).map ub := by
    clear h hx hy hn
    induction n with
    | zero => rfl
    | succ n ih => rw [List.replicate_succ, List.flatten_cons, ih]; rfl
  refine ⟨.ms es.nx 0 n 1, .lay (.row 5 ((List.replicate n 0).map ub)), ?_, ?_⟩
  · simp only [execU, hx, hy, ib, intD]
    rw [if_pos ⟨by omega, by omega, by omega, by omega, rfl, by omega⟩, Int.toNat_natCast, e]
  · exact h (es.up (.lay (.row 5 ((List.replicate n 0).map ub)))).hp (by rw [up_lay, get_set, if_pos rfl]) fun j hj => by rw [up_lay, get_set, if_neg hj]
/-- A copy of bytes into a part of an own row. -/
theorem sws_cpy {x y : Operand} {id off n : Nat} {d : DV} {fl l : List Nat} (hx : es.ds.ev x = .ms id off n 1) (hg : es.hp.get id = some (.row 5 (fl.map ub))) (hy : es.ds.ev y = d) (hd : Src es.hp d l) (hn : 0 < n) (hf : off + n ≤ fl.length)
    (h : ∀ hp', hp'.get id = some (.row 5 ((fl.take off ++ l.take (min l.length n) ++ fl.drop (off + min l.length n)).map ub)) → (∀ j, j ≠ id → hp'.get j = es.hp.get j) → q.val ((ES.mk es.sl hp' es.nx).putE dst (ib (min l.length n)))) : SWs (sU dst (xAny (.cpy 1 x y))) call es := by
  show SW _ _ _ _
  rw [sw_u, x_any]
  refine ⟨ib (min l.length n), .wr id (.row 5 ((fl.take off ++ l.take (min l.length n) ++ fl.drop (off + min l.length n)).map ub)), ?_, ?_⟩
  · simp only [execU, hx, hy, hd.srcC]
    show (match es.hp.get id with
      | some (.row T cs) => if True ∧ 0 < n ∧ off + n * 1 ≤ cs.length ∧ (l.map ub).length = l.length * 1 then
          some (DV.v (.int .i64 (min l.length n : Nat)), Upd.wr id (.row T (cs.take off ++ (l.map ub).take (min l.length n * 1) ++ cs.drop (off + min l.length n * 1)))) else none
      | _ => none) = _
    rw [hg]
    simp only
    rw [if_pos ⟨trivial, hn, by rw [List.length_map]; omega, by rw [List.length_map]; omega⟩]
    simp only [Nat.mul_one, ib, List.map_append, List.map_take, List.map_drop]
  · exact h (es.up (.wr id (.row 5 ((fl.take off ++ l.take (min l.length n) ++ fl.drop (off + min l.length n)).map ub)))).hp (by rw [up_wr, get_set, if_pos rfl]) fun j hj => by rw [up_wr, get_set, if_neg hj]
end
theorem cvi_u64 {k : IntKind} {n : Nat} (h : n < 9223372036854775808) : cviE .u64 (.v (.int k (n : Int))) = some (.v (.int .u64 (n : Int))) := by
  show some (DV.v (.int .u64 (IntKind.u64.wrap (n : Int)))) = _
  rw [IntWalk.u64_in _ (by omega)]
end Go.DD

/- The evaluator, read with symbols: bytes as strings in regions that draw their order; when strings of bytes are equal. -/
namespace Go.DD
open Go

def b2sE (hp : Tr DObj) (d : DV) : Option DV := match srcC ⟨fun _ => .any, hp.get, 0⟩ 1 d with
  | some (news, m) => if news.length = m then (numsV news).map fun ns => .v (.string (strOfNums ns)) else none
  | none => none
theorem xk_b2s (x : Operand) (nid : Nat) (es : ES) : xKeep (xAny (.b2s x)) nid es = b2sE es.hp (es.ds.ev x) := by
  refine xk_k (X := fun es => b2sE es.hp (es.ds.ev x)) (fun es nid => ?_) nid
  rw [x_any]
  have e : srcC ⟨fun _ => .any, es.hp.get, 0⟩ 1 (es.ds.ev x) = srcC es.ds 1 (es.ds.ev x) := by
    generalize es.ds.ev x = d
    cases d with
    | v a =>
      cases a with
      | slice a n c => cases a <;> cases n <;> rfl
      | _ => rfl
    | _ => rfl
  simp only [execU, b2sE, e]
  cases srcC es.ds 1 (es.ds.ev x) with
  | none => rfl
  | some p =>
    obtain ⟨news, m⟩ := p
    simp only
    split
    · cases numsV news <;> rfl
    · rfl
theorem Src.b2sE {hp : Tr DObj} {d : DV} {l : List Nat} (h : Src hp d l) : b2sE hp d = some (.v (.string (strB l))) := by
  have e := Src.srcC (es := ⟨.e, hp, 0⟩) h
  have e2 : Go.DD.srcC ⟨fun _ => .any, hp.get, 0⟩ 1 d = some (l.map ub, l.length) := by
    rw [← e]
    cases h <;> rfl
  unfold Go.DD.b2sE
  rw [e2]
  simp only
  rw [if_pos (by simp), numsV_ub]; rfl
theorem strB_list (l : List Nat) : (strB l).toList = l.map fun n => UInt8.ofNat n := by
  rw [ByteArray.toList_eq]
  show ((l.map fun (n : Nat) => (n : Int)).map fun n => UInt8.ofNat n.toNat) = _
  rw [List.map_map]
  rfl
theorem strB_eq {l1 l2 : List Nat} (h1 : ∀ x ∈ l1, x < 256) (h2 : ∀ x ∈ l2, x < 256) : ((strB l1).toList == (strB l2).toList) = decide (l1 = l2) := by
  rw [strB_list, strB_list]
  by_cases h : l1 = l2
  · rw [h, decide_eq_true rfl, beq_self_eq_true]
  · rw [decide_eq_false h, beq_eq_false_iff_ne]
    intro he
    apply h
    have hm : ∀ {l : List Nat}, (∀ x ∈ l, x < 256) → (l.map fun n => UInt8.ofNat n).map UInt8.toNat = l := fun {l} hl => by
      rw [List.map_map]
      conv => rhs; rw [← List.map_id l]
      refine List.map_congr_left fun x hx => ?_
      show (UInt8.ofNat x).toNat = x
      rw [UInt8.toNat_ofNat']
      exact Nat.mod_eq_of_lt (hl x hx)
    rw [← hm h1, ← hm h2, he]
end Go.DD
