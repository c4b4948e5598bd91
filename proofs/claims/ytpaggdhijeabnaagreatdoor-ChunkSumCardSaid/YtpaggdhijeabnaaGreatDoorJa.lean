/- The evaluator, read with symbols: what a piece of code leads to. -/
import Derived.Test.YtpaggdhijeabnaaGreatDoorIa
import Derived.IntWalk
namespace Go.DD

/-- A piece of code ends, and so. -/
def EW (c : CE) (call : CallT) (es : ES) (Q : Exit → ES → Prop) : Prop := ∃ e es', c call es = some (e, es') ∧ Q e es'
def SW (s : Stp) (call : CallT) (es : ES) (Q : ES → Prop) : Prop := ∃ es', s call es = some es' ∧ Q es'
def XW (x : Option DV) (Q : DV → Prop) : Prop := ∃ d, x = some d ∧ Q d
/-- What comes behind a piece of a sequence. -/
def thenE (next : ES → Prop) (Q : Exit → ES → Prop) : Exit → ES → Prop
  | .normal, es => next es
  | e, es => Q e es
def blkE (id : Nat) (Q : Exit → ES → Prop) : Exit → ES → Prop
  | .exit i, es => if i = id then Q .normal es else Q (.exit i) es
  | e, es => Q e es

theorem EW.mono {c : CE} {call : CallT} {es : ES} {Q Q' : Exit → ES → Prop} (h : EW c call es Q) (hq : ∀ e es, Q e es → Q' e es) : EW c call es Q' := by
  obtain ⟨e, es', h1, h2⟩ := h
  exact ⟨e, es', h1, hq _ _ h2⟩
theorem EW.s {a b : CE} {call : CallT} {es : ES} {Q : Exit → ES → Prop} (h : EW a call es (thenE (fun es1 => EW b call es1 Q) Q)) : EW (cS a b) call es Q := by
  obtain ⟨e, es1, h1, h2⟩ := h
  cases e with
  | normal =>
    obtain ⟨e2, es2, h3, h4⟩ := h2
    refine ⟨e2, es2, ?_, h4⟩
    unfold cS; rw [h1]; exact h3
  | _ => exact ⟨_, es1, by unfold cS; rw [h1], h2⟩
theorem EW.n {s : Stp} {call : CallT} {es : ES} {Q : Exit → ES → Prop} (h : SW s call es (Q .normal)) : EW (cN s) call es Q := by
  obtain ⟨es1, h1, h2⟩ := h
  exact ⟨_, es1, by unfold cN; rw [h1], h2⟩
theorem EW.e {e : Exit} {call : CallT} {es : ES} {Q : Exit → ES → Prop} (h : Q e es) : EW (cE e) call es Q := ⟨e, es, rfl, h⟩
theorem EW.c {x : EO} {a b : CE} {call : CallT} {es : ES} {Q : Exit → ES → Prop} (t : Bool) (ht : rawE es x = .v (.bool t)) (h1 : t = true → EW a call es Q) (h2 : t = false → EW b call es Q) : EW (cC x a b) call es Q := by
  have e : cC x a b call es = Bool.rec (motive := fun _ => Option (Exit × ES)) (b call es) (a call es) t := by unfold cC; rw [ht]; rfl
  cases t with
  | true => obtain ⟨e1, es1, h3, h4⟩ := h1 rfl; exact ⟨e1, es1, e.trans h3, h4⟩
  | false => obtain ⟨e1, es1, h3, h4⟩ := h2 rfl; exact ⟨e1, es1, e.trans h3, h4⟩
theorem EW.b {id : Nat} {c : CE} {call : CallT} {es : ES} {Q : Exit → ES → Prop} (h : EW c call es (blkE id Q)) : EW (cB id c) call es Q := by
  obtain ⟨e, es1, h1, h2⟩ := h
  cases e with
  | exit i =>
    have e1 : cB id c call es = iteB (Nat.beq i id) (some (.normal, es1)) (some (.exit i, es1)) := by unfold cB; rw [h1]
    rw [iteB_eq] at e1
    simp only [blkE] at h2
    by_cases hi : i = id
    · subst hi
      rw [if_pos (Nat.beq_refl i)] at e1
      rw [if_pos rfl] at h2
      exact ⟨_, _, e1, h2⟩
    · rw [if_neg (fun h => hi (Nat.eq_of_beq_eq_true h))] at e1
      rw [if_neg hi] at h2
      exact ⟨_, _, e1, h2⟩
  | _ => exact ⟨_, es1, by unfold cB; rw [h1], h2⟩
/-- A loop: what holds at its head, and a measure that falls; the fuel is greater. -/
theorem EW.l {c : CE} {call : CallT} {Q : Exit → ES → Prop} (I : Nat → ES → Prop) (step : ∀ n es, I n es → EW c call es (thenE (fun es1 => ∃ m, m < n ∧ I m es1) Q)) : ∀ (n k : Nat) (es : ES), I n es → n < k → EW (cL k c) call es Q := by
  intro n
  induction n using Nat.strongRecOn with
  | _ n ih =>
    intro k es h hk
    cases k with
    | zero => omega
    | succ k =>
      show EW (cS c (cL k c)) call es Q
      refine EW.s ((step n es h).mono ?_)
      intro e es1 h1
      cases e with
      | normal =>
        obtain ⟨m, hm, hI⟩ := h1
        exact ih m hm k es1 hI (by omega)
      | _ => exact h1

theorem SW.q {s k : Stp} {call : CallT} {es : ES} {Q : ES → Prop} (h : SW s call es fun es1 => SW k call es1 Q) : SW (sq s k) call es Q := by
  obtain ⟨es1, h1, es2, h2, h3⟩ := h
  exact ⟨es2, by unfold sq; rw [h1]; exact h2, h3⟩
theorem SW.z {call : CallT} {es : ES} {Q : ES → Prop} (h : Q es) : SW sEnd call es Q := ⟨es, rfl, h⟩
theorem SW.m {dst : Option Pa} {x : EO} {call : CallT} {es : ES} {Q : ES → Prop} (h : Q (es.putE dst (rawE es x))) : SW (sM dst x) call es Q := ⟨_, rfl, h⟩
theorem SW.x {dst : Option Pa} {x : XP} {call : CallT} {es : ES} {Q : ES → Prop} (d : DV) (hx : x es = some d) (h : Q (es.putE dst d)) : SW (sX dst x) call es Q := ⟨_, by unfold sX; rw [hx], h⟩
theorem SW.call {f : Nat} {args : List EO} {dst : Option Pa} {call : CallT} {es : ES} {Q : ES → Prop} (d : DV) (hp : Tr DObj) (nx : Nat) (hc : call (.fn f) (args.map (rawE es)) es.hp es.nx = some (d, hp, nx)) (h : Q ((ES.mk es.sl hp nx).putE dst d)) : SW (sCall f args dst) call es Q := by
  refine ⟨_, ?_, h⟩
  unfold sCall doCall evL
  rw [mapL_eq, hc]; rfl

theorem gP_e {α : Type} (p : Pa) : gP p (.e : Tr α) = none := by cases p <;> rfl
theorem gP_same {α : Type} : ∀ (p : Pa) (v : Option α) (t : Tr α), gP p (sP p v t) = v
  | .o, v, t => by cases t <;> rfl
  | .l p, v, .e => gP_same p v .e
  | .l p, v, .n l _ _ => gP_same p v l
  | .r p, v, .e => gP_same p v .e
  | .r p, v, .n _ _ r => gP_same p v r
theorem gP_other {α : Type} : ∀ {p q : Pa} (v : Option α) (t : Tr α), q ≠ p → gP p (sP q v t) = gP p t
  | .o, .o, v, t, h => absurd rfl h
  | .o, .l q, v, t, _ => by cases t <;> rfl
  | .o, .r q, v, t, _ => by cases t <;> rfl
  | .l p, .o, v, t, _ => by cases t <;> first | rfl | exact gP_e p
  | .l p, .r q, v, t, _ => by cases t <;> first | rfl | exact gP_e p
  | .r p, .o, v, t, _ => by cases t <;> first | rfl | exact gP_e p
  | .r p, .l q, v, t, _ => by cases t <;> first | rfl | exact gP_e p
  | .l p, .l q, v, .e, h => show gP p (sP q v .e) = none from (gP_other (p := p) (q := q) v .e fun e => h (by rw [e])).trans (gP_e p)
  | .l p, .l q, v, .n l _ _, h => gP_other v l fun e => h (by rw [e])
  | .r p, .r q, v, .e, h => show gP p (sP q v .e) = none from (gP_other (p := p) (q := q) v .e fun e => h (by rw [e])).trans (gP_e p)
  | .r p, .r q, v, .n _ _ r, h => gP_other v r fun e => h (by rw [e])

theorem rw_same (sl : Tr DV) (hp : Tr DObj) (nx : Nat) (p : Pa) (d : DV) : rawE (ES.putE ⟨sl, hp, nx⟩ (some p) d) (.t p) = d := by
  show Option.rec (motive := fun _ => DV) _ _ (gP p (sP p (some d) sl)) = d
  rw [gP_same]
theorem rw_other (es : ES) {p q : Pa} (d : DV) (h : q ≠ p) : rawE (ES.putE es (some q) d) (.t p) = rawE es (.t p) := by
  obtain ⟨sl, hp, nx⟩ := es
  show Option.rec (motive := fun _ => DV) _ _ (gP p (sP q (some d) sl)) = Option.rec (motive := fun _ => DV) _ _ (gP p sl)
  rw [gP_other _ _ h]
theorem rw_put (es : ES) (p : Pa) (d : DV) : rawE (ES.putE es (some p) d) (.t p) = d := by
  obtain ⟨sl, hp, nx⟩ := es
  exact rw_same sl hp nx p d
theorem rw_c (es : ES) (d : DV) : rawE es (.c d) = d := rfl
theorem rw_mk (es : ES) (hp : Tr DObj) (nx : Nat) (p : Pa) : rawE (ES.mk es.sl hp nx) (.t p) = rawE es (.t p) := rfl
theorem hp_put (es : ES) (p : Option Pa) (d : DV) : (ES.putE es p d).hp = es.hp := by cases p <;> rfl
theorem nx_put (es : ES) (p : Option Pa) (d : DV) : (ES.putE es p d).nx = es.nx := by cases p <;> rfl
theorem sl_put (es : ES) (hp : Tr DObj) (nx : Nat) (p : Option Pa) (d : DV) : ES.putE (ES.mk es.sl hp nx) p d = ES.mk (ES.putE es p d).sl hp nx := by cases p <;> rfl

/-! Operations on integers. -/
theorem outV_b (b : Bool) : outV (some (.bool b)) = some (.v (.bool b)) := by cases b <;> rfl
theorem outV_i (k : IntKind) (n : Int) : outV (some (.int k n)) = some (.v (.int k n)) := by
  show forceI n (fun n => some (DV.v (.int k n))) = _
  rw [forceI_eq]
theorem x_cmp {op : BinOp} {x y : EO} {es : ES} {k : IntKind} {a b : Int} {t : Bool} (hx : rawE es x = .v (.int k a)) (hy : rawE es y = .v (.int k b)) (ho : isSh op = false) (hb : binI op k a b = some (.bool t)) : xBin op x y es = some (.v (.bool t)) := by
  unfold xBin
  rw [hx, hy]
  show outV (iteB (isSh op) (shI op k a b) (iteB (Nat.beq k.ctorIdx k.ctorIdx) (binI op k a b) none)) = _
  rw [ho, iteB_eq, iteB_eq, if_neg (by simp), if_pos (Nat.beq_refl _), hb, outV_b]
theorem x_int {op : BinOp} {x y : EO} {es : ES} {k : IntKind} {a b c : Int} (hx : rawE es x = .v (.int k a)) (hy : rawE es y = .v (.int k b)) (ho : isSh op = false) (hb : binI op k a b = some (.int k c)) : xBin op x y es = some (.v (.int k c)) := by
  unfold xBin
  rw [hx, hy]
  show outV (iteB (isSh op) (shI op k a b) (iteB (Nat.beq k.ctorIdx k.ctorIdx) (binI op k a b) none)) = _
  rw [ho, iteB_eq, iteB_eq, if_neg (by simp), if_pos (Nat.beq_refl _), hb, outV_i]

/-! The same, for simp: a piece of code, from a state, becomes what must be shown. -/
def CW (d : DV) (A B : Prop) : Prop := ∃ t, d = .v (.bool t) ∧ (t = true → A) ∧ (t = false → B)
def KW (call : CallT) (tg : Tg) (ds : List DV) (hp : Tr DObj) (nx : Nat) (K : DV → Tr DObj → Nat → Prop) : Prop := ∃ d hp' nx', call tg ds hp nx = some (d, hp', nx') ∧ K d hp' nx'
theorem ew_s {a b : CE} {call : CallT} {es : ES} {Q : Exit → ES → Prop} : EW (cS a b) call es Q ↔ EW a call es (thenE (fun es1 => EW b call es1 Q) Q) := by
  refine ⟨fun ⟨e, es', h1, h2⟩ => ?_, EW.s⟩
  rcases cS_some h1 with ⟨es1, h3, h4⟩ | ⟨h3, hne⟩
  · exact ⟨.normal, es1, h3, e, es', h4, h2⟩
  · refine ⟨e, es', h3, ?_⟩
    cases e <;> first | exact h2 | exact absurd rfl hne
theorem ew_n {s : Stp} {call : CallT} {es : ES} {Q : Exit → ES → Prop} : EW (cN s) call es Q ↔ SW s call es (Q .normal) := by
  refine ⟨fun ⟨e, es', h1, h2⟩ => ?_, EW.n⟩
  obtain ⟨h3, rfl⟩ := cN_some h1
  exact ⟨es', h3, h2⟩
theorem ew_e {e : Exit} {call : CallT} {es : ES} {Q : Exit → ES → Prop} : EW (cE e) call es Q ↔ Q e es := by
  refine ⟨fun ⟨e', es', h1, h2⟩ => ?_, EW.e⟩
  have h3 : some (e, es) = some (e', es') := h1
  cases h3; exact h2
theorem ew_c {x : EO} {a b : CE} {call : CallT} {es : ES} {Q : Exit → ES → Prop} (h : CW (rawE es x) (EW a call es Q) (EW b call es Q)) : EW (cC x a b) call es Q := by
  obtain ⟨t, h1, h2, h3⟩ := h
  exact EW.c t h1 h2 h3
theorem ew_c' {x : EO} {a b : CE} {call : CallT} {es : ES} {Q : Exit → ES → Prop} : EW (cC x a b) call es Q ↔ CW (rawE es x) (EW a call es Q) (EW b call es Q) := by
  refine ⟨fun ⟨e, es', h1, h2⟩ => ?_, ew_c⟩
  unfold cC at h1
  obtain ⟨v, hv, h1⟩ := cV_some h1
  cases v with
  | bool t =>
    refine ⟨t, hv, fun ht => ?_, fun ht => ?_⟩
    · subst ht; exact ⟨e, es', h1, h2⟩
    · subst ht; exact ⟨e, es', h1, h2⟩
  | _ => cases h1
theorem ew_b {id : Nat} {c : CE} {call : CallT} {es : ES} {Q : Exit → ES → Prop} : EW (cB id c) call es Q ↔ EW c call es (blkE id Q) := by
  refine ⟨fun ⟨e, es', h1, h2⟩ => ?_, EW.b⟩
  obtain ⟨⟨e1, es1⟩, h3, h4⟩ := optR h1
  refine ⟨e1, es1, h3, ?_⟩
  cases e1 with
  | exit i =>
    have h5 : iteB (Nat.beq i id) (some (Exit.normal, es1)) (some (Exit.exit i, es1)) = some (e, es') := h4
    rw [iteB_eq] at h5
    simp only [blkE]
    split at h5
    · rename_i hb
      cases h5
      rw [if_pos (Nat.eq_of_beq_eq_true hb)]; exact h2
    · rename_i hb
      cases h5
      rw [if_neg (fun e => hb (by rw [e]; exact Nat.beq_refl id))]; exact h2
  | _ => cases h4; exact h2
theorem sw_q {s k : Stp} {call : CallT} {es : ES} {Q : ES → Prop} : SW (sq s k) call es Q ↔ SW s call es fun es1 => SW k call es1 Q := by
  refine ⟨fun ⟨es', h1, h2⟩ => ?_, SW.q⟩
  obtain ⟨es1, h3, h4⟩ := optR h1
  exact ⟨es1, h3, es', h4, h2⟩
theorem sw_z {call : CallT} {es : ES} {Q : ES → Prop} : SW sEnd call es Q ↔ Q es := by
  refine ⟨fun ⟨es', h1, h2⟩ => ?_, SW.z⟩
  have h3 : some es = some es' := h1
  cases h3; exact h2
theorem sw_m {dst : Option Pa} {x : EO} {call : CallT} {es : ES} {Q : ES → Prop} : SW (sM dst x) call es Q ↔ Q (es.putE dst (rawE es x)) := by
  refine ⟨fun ⟨es', h1, h2⟩ => ?_, SW.m⟩
  have h3 : some (es.putE dst (rawE es x)) = some es' := h1
  cases h3; exact h2
theorem sw_x {dst : Option Pa} {x : XP} {call : CallT} {es : ES} {Q : ES → Prop} : SW (sX dst x) call es Q ↔ XW (x es) fun d => Q (es.putE dst d) := by
  refine ⟨fun ⟨es', h1, h2⟩ => ?_, fun ⟨d, h1, h2⟩ => SW.x d h1 h2⟩
  obtain ⟨d, h3, h4⟩ := optR h1
  have h5 : some (es.putE dst d) = some es' := h4
  cases h5
  exact ⟨d, h3, h2⟩
theorem xw_some {d : DV} {Q : DV → Prop} : XW (some d) Q ↔ Q d := ⟨fun ⟨d', h1, h2⟩ => (by cases h1; exact h2), fun h => ⟨d, rfl, h⟩⟩
theorem sw_call {f : Nat} {args : List EO} {dst : Option Pa} {call : CallT} {es : ES} {Q : ES → Prop} : SW (sCall f args dst) call es Q ↔ KW call (.fn f) (args.map (rawE es)) es.hp es.nx fun d hp nx => Q ((ES.mk es.sl hp nx).putE dst d) := by
  have e : sCall f args dst call es = doCall (.fn f) (args.map (rawE es)) dst call es := by unfold sCall evL; rw [mapL_eq]
  constructor
  · rintro ⟨es', h1, h2⟩
    rw [e] at h1
    obtain ⟨⟨d, hp, nx⟩, h3, h4⟩ := optR h1
    have h5 : some ((ES.mk es.sl hp nx).putE dst d) = some es' := h4
    cases h5
    exact ⟨d, hp, nx, h3, h2⟩
  · rintro ⟨d, hp, nx, h1, h2⟩
    exact SW.call d hp nx h1 h2
theorem kw_of {call : CallT} {tg : Tg} {ds : List DV} {hp : Tr DObj} {nx : Nat} {d : DV} {hp' : Tr DObj} {nx' : Nat} (h : call tg ds hp nx = some (d, hp', nx')) {K : DV → Tr DObj → Nat → Prop} : KW call tg ds hp nx K ↔ K d hp' nx' :=
  ⟨fun ⟨_, _, _, h1, h2⟩ => (by rw [h] at h1; cases h1; exact h2), fun h2 => ⟨_, _, _, h, h2⟩⟩
theorem cw_b {t : Bool} {A B : Prop} : CW (.v (.bool t)) A B ↔ (t = true → A) ∧ (t = false → B) := ⟨fun ⟨_, h1, h2⟩ => (by cases h1; exact h2), fun h => ⟨t, rfl, h⟩⟩

/-- Two operands' operation. -/
def binD (op : BinOp) (a b : DV) : Option DV := (binV op a b).map .v
theorem x_bin (op : BinOp) (x y : EO) (es : ES) : xBin op x y es = binD op (rawE es x) (rawE es y) := by
  cases hx : rawE es x with
  | v a =>
    cases hy : rawE es y with
    | v b => 
      cases a with
      | int k m =>
        cases b with
        | int k' n =>
          have e : xBin op x y es = outV (iteB (isSh op) (shI op k m n) (iteB (Nat.beq k.ctorIdx k'.ctorIdx) (binI op k m n) none)) := by unfold xBin; rw [hx, hy]; rfl
          rw [e, iteB_eq, iteB_eq]
          have hk : (Nat.beq k.ctorIdx k'.ctorIdx = true) ↔ k = k' := by cases k <;> cases k' <;> simp [IntKind.ctorIdx]
          have hout : ∀ v : Option Value, (∀ w, v = some w → (∃ t, w = .bool t) ∨ ∃ k n, w = .int k n) → outV v = v.map DV.v := by
            intro v hv
            cases v with
            | none => rfl
            | some w =>
              rcases hv w rfl with ⟨t, rfl⟩ | ⟨k, n, rfl⟩
              · exact outV_b t
              · exact outV_i k n
          have hsh : ∀ w, shI op k m n = some w → (∃ t, w = .bool t) ∨ ∃ k n, w = .int k n := by
            intro w hw
            unfold shI at hw
            split at hw
            · cases hw
            · split at hw <;> first | (cases hw; exact .inr ⟨_, _, rfl⟩) | cases hw
          have hbi : ∀ w, binI op k m n = some w → (∃ t, w = .bool t) ∨ ∃ k n, w = .int k n := by
            intro w hw
            unfold binI at hw
            split at hw <;> first | (cases hw; exact .inr ⟨_, _, rfl⟩) | (cases hw; exact .inl ⟨_, rfl⟩) | (split at hw <;> first | (cases hw; exact .inr ⟨_, _, rfl⟩) | cases hw) | cases hw
          simp only [binD, binV]
          split
          · exact hout _ hsh
          · by_cases h : k = k'
            · rw [if_pos (hk.2 h), if_pos h]; exact hout _ hbi
            · rw [if_neg (fun h' => h (hk.1 h')), if_neg h]; rfl
        | _ => unfold xBin; rw [hx, hy]; rfl
      | string m =>
        cases b with
        | string n =>
          have e : xBin op x y es = outV (binS op m n) := by unfold xBin; rw [hx, hy]; rfl
          rw [e]
          simp only [binD, binV]
          have hbs : ∀ w, binS op m n = some w → (∃ t, w = .bool t) ∨ ∃ s, w = .string s := by
            intro w hw
            unfold binS at hw
            split at hw <;> first | (cases hw; exact .inl ⟨_, rfl⟩) | (split at hw <;> first | (cases hw; exact .inr ⟨_, rfl⟩) | cases hw) | cases hw
          cases hv : binS op m n with
          | none => rfl
          | some w =>
            rcases hbs w hv with ⟨t, rfl⟩ | ⟨s, rfl⟩
            · exact outV_b t
            · rfl
        | _ => unfold xBin; rw [hx, hy]; rfl
      | _ => unfold xBin; rw [hx, hy]; rfl
    | _ => unfold xBin; rw [hx, hy]; cases a <;> rfl
  | _ => unfold xBin; rw [hx]; rfl

/-! Content that is only read. -/
theorem c_sl_v {α : Type} (v : Value) (fv : Value → α) (fs : List DV → Nat → α) (fm : Nat → Nat → Nat → Nat → α) (e : α) : cSl (.v v) fv fs fm e = fv v := rfl
theorem c_sl_s {α : Type} (cs : List DV) (n : Nat) (fv : Value → α) (fs : List DV → Nat → α) (fm : Nat → Nat → Nat → Nat → α) (e : α) : cSl (.sl cs n) fv fs fm e = fs cs n := rfl
theorem c_sl_m {α : Type} (a b c d : Nat) (fv : Value → α) (fs : List DV → Nat → α) (fm : Nat → Nat → Nat → Nat → α) (e : α) : cSl (.ms a b c d) fv fs fm e = fm a b c d := rfl
theorem c_ad_i {α : Type} (cs : List DV) (fi : List DV → α) (fp : Nat → Nat → α) (e : α) : cAdr (.ia cs) fi fp e = fi cs := rfl
theorem c_ad_p {α : Type} (a b : Nat) (fi : List DV → α) (fp : Nat → Nat → α) (e : α) : cAdr (.pt a b) fi fp e = fp a b := rfl
theorem c_i_i {α : Type} (k : IntKind) (n : Int) (f : Int → α) (e : α) : cI (.v (.int k n)) f e = f n := rfl
theorem c_ix {α : Type} (i n : Nat) (f : Nat → α) (e : α) : cIx (i : Int) n f e = if i < n then f i else e := by
  show iteB (Nat.blt i n) (f i) e = _
  rw [iteB_eq]
  by_cases h : i < n
  · rw [if_pos h, if_pos (by simpa [Nat.blt_eq] using h)]
  · rw [if_neg h, if_neg (by simpa [Nat.blt_eq] using h)]
theorem len_nil : lenV (.slice none 0 0) = some (.v (.int .i64 0)) := rfl
theorem xw_if {c : Prop} [Decidable c] {x : Option DV} {Q : DV → Prop} (hc : c) : XW (if c then x else none) Q ↔ XW x Q := by rw [if_pos hc]
theorem part_map {α : Type} (f : α → DV) (l : List α) (i : Nat) (h : i < l.length) : partD none ((l.map f).drop i) = some (f (l[i])) := by
  rw [← List.map_drop, List.drop_eq_getElem_cons h]; rfl
/-- The bounds of a machine's integers. -/
theorem wrap_in {n : Int} (h : -9223372036854775808 ≤ n ∧ n ≤ 9223372036854775807) : IntKind.i64.wrap n = n := IntWalk.i64_in n h
theorem b_lss (k : IntKind) (a b : Int) : binD .lss (.v (.int k a)) (.v (.int k b)) = some (.v (.bool (decide (a < b)))) := by simp [binD, binV, isSh, binI]
theorem b_gtr (k : IntKind) (a b : Int) : binD .gtr (.v (.int k a)) (.v (.int k b)) = some (.v (.bool (decide (a > b)))) := by simp [binD, binV, isSh, binI]
theorem b_leq (k : IntKind) (a b : Int) : binD .leq (.v (.int k a)) (.v (.int k b)) = some (.v (.bool (decide (a ≤ b)))) := by simp [binD, binV, isSh, binI]
theorem b_geq (k : IntKind) (a b : Int) : binD .geq (.v (.int k a)) (.v (.int k b)) = some (.v (.bool (decide (a ≥ b)))) := by simp [binD, binV, isSh, binI]
theorem b_eql (k : IntKind) (a b : Int) : binD .eql (.v (.int k a)) (.v (.int k b)) = some (.v (.bool (a == b))) := by simp [binD, binV, isSh, binI]
theorem b_neq (k : IntKind) (a b : Int) : binD .neq (.v (.int k a)) (.v (.int k b)) = some (.v (.bool (a != b))) := by simp [binD, binV, isSh, binI]
theorem b_add (k : IntKind) (a b : Int) : binD .add (.v (.int k a)) (.v (.int k b)) = some (.v (.int k (k.wrap (a + b)))) := by simp [binD, binV, isSh, binI]
theorem b_sub (k : IntKind) (a b : Int) : binD .sub (.v (.int k a)) (.v (.int k b)) = some (.v (.int k (k.wrap (a - b)))) := by simp [binD, binV, isSh, binI]
theorem b_mul (k : IntKind) (a b : Int) : binD .mul (.v (.int k a)) (.v (.int k b)) = some (.v (.int k (k.wrap (a * b)))) := by simp [binD, binV, isSh, binI]
end Go.DD
