/- The evaluator, read with symbols: regions that draw their order. -/
import Derived.Test.YtpaggdhijeabnaaGreatDoorJb
namespace Go.DD

def TW (s : DStp) (call : CallT) (n0 m : Nat) (δ : DSt) (Q : DSt → Prop) : Prop := ∃ δ', s call n0 m δ = some δ' ∧ Q δ'
theorem sw_reg {m : Nat} {s : DStp} {call : CallT} {es : ES} {Q : ES → Prop} : SW (regE m s) call es Q ↔ TW s call es.nx m ⟨⟨es.sl, es.hp, es.nx + m⟩, [], [], []⟩ fun d => okLook es.nx m d.ws d.ps = true ∧ Q d.es := by
  have e : regE m s call es = Option.rec (motive := fun _ => Option ES) none (fun d => iteB (okLook es.nx m d.ws d.ps) (some d.es) none) (s call es.nx m ⟨⟨es.sl, es.hp, es.nx + m⟩, [], [], []⟩) := by
    unfold regE; rw [cs_eq, forceN_eq]
  constructor
  · rintro ⟨es', h1, h2⟩
    rw [e] at h1
    obtain ⟨d, h3, h4⟩ := optR h1
    obtain ⟨h5, h6⟩ := iteB_some h4
    cases h6
    exact ⟨d, h3, h5, h2⟩
  · rintro ⟨d, h1, h2, h3⟩
    exact ⟨d.es, by rw [e, h1]; show iteB _ _ _ = _; rw [h2]; rfl, h3⟩
theorem tw_q {s k : DStp} {call : CallT} {n0 m : Nat} {δ : DSt} {Q : DSt → Prop} : TW (dq s k) call n0 m δ Q ↔ TW s call n0 m δ fun δ' => TW k call n0 m δ' Q := by
  constructor
  · rintro ⟨δ', h1, h2⟩
    obtain ⟨δ1, h3, h4⟩ := optR h1
    exact ⟨δ1, h3, δ', h4, h2⟩
  · rintro ⟨δ1, h1, δ', h2, h3⟩
    exact ⟨δ', by unfold dq; rw [h1]; exact h2, h3⟩
theorem tw_z {call : CallT} {n0 m : Nat} {δ : DSt} {Q : DSt → Prop} : TW dEnd call n0 m δ Q ↔ Q δ := by
  constructor
  · rintro ⟨δ', h1, h2⟩
    have h3 : some δ = some δ' := h1
    cases h3; exact h2
  · exact fun h => ⟨δ, rfl, h⟩
theorem tw_chk {an : List Nat} {ps : List Pa} {s : DStp} {call : CallT} {n0 m : Nat} {δ : DSt} {Q : DSt → Prop} : TW (dChk an ps s) call n0 m δ Q ↔ allL (refsL δ.es ps) (fun id => okRef n0 m an δ.es.hp id) = true ∧ TW s call n0 m δ Q := by
  constructor
  · rintro ⟨δ', h1, h2⟩
    obtain ⟨h3, h4⟩ := iteB_some (show iteB _ _ _ = _ from h1)
    exact ⟨h3, δ', h4, h2⟩
  · rintro ⟨h1, δ', h2, h3⟩
    exact ⟨δ', by unfold dChk; rw [h1]; exact h2, h3⟩
theorem tw_read {i : Nat} {an : List Nat} {wide c : Bool} {dst : Option Pa} {x : Nat → XP} {ps : List Pa} {call : CallT} {n0 m : Nat} {es : ES} {lo : List Nat} {ws : List Look} {pp : List Past} {Q : DSt → Prop} :
    TW (dRead i an wide c dst x ps) call n0 m ⟨es, lo, ws, pp⟩ Q ↔ XW (x (n0 + i) es) fun v => Q ⟨es.putE dst v, lo, lookE i an wide c (refsL es ps) n0 lo ws, pp⟩ := by
  constructor
  · rintro ⟨δ', h1, h2⟩
    obtain ⟨v, h3, h4⟩ := optR h1
    have h5 : some (⟨es.putE dst v, lo, lookE i an wide c (refsL es ps) n0 lo ws, pp⟩ : DSt) = some δ' := h4
    cases h5
    exact ⟨v, h3, h2⟩
  · rintro ⟨v, h1, h2⟩
    have e : dRead i an wide c dst x ps call n0 m ⟨es, lo, ws, pp⟩ = Option.rec (motive := fun _ => Option DSt) none (fun v => some ⟨es.putE dst v, lo, lookE i an wide c (refsL es ps) n0 lo ws, pp⟩) (x (n0 + i) es) := rfl
    exact ⟨_, by rw [e, h1], h2⟩
theorem look_f (i : Nat) (c : Bool) (an refs lo : List Nat) (n0 : Nat) (ws : List Look) : lookE i an false c refs n0 lo ws = ws := rfl
theorem okl_nil (n0 m : Nat) (ps : List Past) : okLook n0 m [] ps = true := rfl
theorem refs_nil (es : ES) : refsL es [] = [] := rfl
theorem all_nil (f : Nat → Bool) : allL [] f = true := rfl
theorem refs_cons {es : ES} {p : Pa} {ps : List Pa} (h : (rawE es (.t p)).refs = []) : refsL es (p :: ps) = refsL es ps := by
  show appL (refsE (rawE es (.t p))) (refsL es ps) = _
  rw [appL_eq, refsE_eq, h]; rfl
/-- What an operation in the general way does, that changes no object. -/
theorem x_keep {o : DOp} {nid : Nat} {es : ES} : xKeep (xAny o) nid es = match execU nid es.ds o with
    | some (d, .keep) => some d
    | _ => none := by
  unfold xKeep xAny
  cases execU nid es.ds o with
  | none => rfl
  | some p => obtain ⟨d, u⟩ := p; cases u <;> rfl
theorem es_rv (es : ES) (x : Operand) : es.ds.rv x = rawE es (.of x) := (rawE_eq es x).symm

theorem live_nil {hp : Tr DObj} {d : DV} (h : d.refs = []) : liveE hp d = d := by
  unfold liveE; rw [refsE_eq, h]; rfl
theorem ev_live (es : ES) (t : Nat) : es.ds.ev (.tmp t) = liveE es.hp (rawE es (.t (pth t))) := (evE_eq es (.tmp t)).symm
theorem refs_s (cs : List DV) (n : Nat) : (DV.sl cs n).refs = [] := rfl
theorem refs_v (v : Value) : (DV.v v).refs = [] := rfl
theorem refs_i (cs : List DV) : (DV.ia cs).refs = [] := rfl
/-- Plain cells are compared. -/
def eqsD (neg : Bool) (ks : List Nat) : DV → DV → Option DV
  | .agg xs, .agg ys => (eqL ks xs ys).map fun b => .v (.bool (xor neg b))
  | _, _ => none
theorem eqs_agg (neg : Bool) (ks : List Nat) (xs ys : List DV) : eqsD neg ks (.agg xs) (.agg ys) = (eqL ks xs ys).map fun b => .v (.bool (xor neg b)) := rfl
theorem x_eqs {neg : Bool} {ks : List Nat} {t u : Nat} {nid : Nat} {es : ES} : xKeep (xAny (.eqs neg ks (.tmp t) (.tmp u))) nid es = eqsD neg ks (liveE es.hp (rawE es (.t (pth t)))) (liveE es.hp (rawE es (.t (pth u)))) := by
  rw [x_keep, ← ev_live, ← ev_live]
  simp only [execU, eqsD]
  cases es.ds.ev (.tmp t) <;> cases es.ds.ev (.tmp u) <;> simp only
  rename_i xs ys
  cases eqL ks xs ys <;> rfl
end Go.DD
