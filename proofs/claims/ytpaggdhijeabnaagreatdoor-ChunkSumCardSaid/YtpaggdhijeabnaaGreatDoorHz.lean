/- The evaluator's code and calls. -/
import Derived.Test.YtpaggdhijeabnaaGreatDoorHy
import Derived.Test.YtpaggdhijeabnaaGreatDoorHk
namespace Go.DD

theorem sem_trace_gw {P : Program} {call : CallT} (hc : CallOK P call) {n0 m : Nat} : ∀ (rs : List DR) (os : List OI) (i : Nat) (δ δ' : DSt), i + rs.length ≤ m → rundE rs os i call n0 m δ = some δ' → δ.es.ds.Fr → n0 + m ≤ δ.es.nx →
    δ.es.nx ≤ δ'.es.nx ∧ ∀ id, δ.es.ds.ho id = none → δ'.es.ds.ho id ≠ none → n0 ≤ id ∧ id < δ'.es.nx
  | [], os, i, δ, δ', hm, h, hfr, hn => by
    have h3 : some δ = some δ' := by cases os <;> exact h
    cases h3
    exact ⟨Nat.le_refl _, fun id h1 h2 => absurd h1 h2⟩
  | r :: rs, [], i, δ, δ', hm, h, hfr, hn => by
    have h3 : some δ = some δ' := h
    cases h3
    exact ⟨Nat.le_refl _, fun id h1 h2 => absurd h1 h2⟩
  | r :: rs, o :: os, i, δ, δ', hm, h, hfr, hn => by
    have h' : dq (dstpG i r o) (rundE rs os (i + 1)) call n0 m δ = some δ' := h
    obtain ⟨δ1, h1, h2⟩ := optR h'
    obtain ⟨ρ0, hs⟩ := dstpG_sem hc hfr h1
    have him : i < m := by simp at hm; omega
    obtain ⟨g1, g2⟩ := hs.gw him hn
    obtain ⟨g3, g4⟩ := sem_trace_gw hc rs os (i + 1) δ1 δ' (by simp at hm; omega) h2 (hs.fr him hn hfr) (by omega)
    refine ⟨by omega, fun id k1 k2 => ?_⟩
    cases k3 : δ1.es.ds.ho id with
    | none => exact g4 id k3 k2
    | some x =>
      have := g2 id k1 (by rw [k3]; simp)
      omega
theorem regE_gw {P : Program} {call : CallT} (hc : CallOK P call) {rs : List DR} {os : List OI} {es es' : ES} (h : regE rs.length (rundE rs os 0) call es = some es') (hfr : es.ds.Fr) : Gw es.ds es'.ds := by
  unfold regE at h
  obtain ⟨δ', h1, h2⟩ := optR h
  obtain ⟨h3, h4⟩ := iteB_some h2
  cases h4
  rw [cs_eq, forceN_eq] at h1
  obtain ⟨g1, g2⟩ := sem_trace_gw hc rs os 0 _ _ (by omega) h1 (fun id hid => hfr id (by
    have : es.nx + rs.length ≤ id := hid
    show es.nx ≤ id; omega)) (Nat.le_refl _)
  exact ⟨by have : es.nx + rs.length ≤ δ'.es.nx := g1
            show es.nx ≤ δ'.es.nx; omega, fun id k1 k2 => g2 id k1 k2⟩

theorem evv {s : DS} {x : Operand} {v : Value} (h : s.rv x = .v v) : s.ev x = .v v := by
  cases x with
  | tmp t =>
    have h' : s.sv t = .v v := h
    simp only [DS.ev]
    rw [h', if_pos]
    rfl
  | _ => exact h

theorem cS_some {a b : CE} {call : CallT} {es es' : ES} {e : Exit} (h : cS a b call es = some (e, es')) : (∃ es1, a call es = some (.normal, es1) ∧ b call es1 = some (e, es')) ∨ (a call es = some (e, es') ∧ e ≠ .normal) := by
  obtain ⟨⟨e1, es1⟩, h1, h2⟩ := optR h
  cases e1 with
  | normal => exact .inl ⟨es1, h1, h2⟩
  | _ =>
    cases h2
    exact .inr ⟨h1, by simp⟩
theorem cN_some {s : Stp} {call : CallT} {es es' : ES} {e : Exit} (h : cN s call es = some (e, es')) : s call es = some es' ∧ e = .normal := by
  obtain ⟨es1, h1, h2⟩ := optR h
  cases h2
  exact ⟨h1, rfl⟩
theorem cC_some {x : Operand} {a b : CE} {call : CallT} {es es' : ES} {e : Exit} (h : cC (.of x) a b call es = some (e, es')) : ∃ t, es.ds.ev x = .v (.bool t) ∧ (if t = true then a call es else b call es) = some (e, es') := by
  unfold cC at h
  rw [rawE_eq] at h
  obtain ⟨v, hv, h⟩ := cV_some h
  cases v with
  | bool t =>
    refine ⟨t, evv hv, ?_⟩
    cases t <;> exact h
  | _ => cases h
theorem cB_some {id : Nat} {c : CE} {call : CallT} {es es' : ES} {e : Exit} (h : cB id c call es = some (e, es')) : ∃ e1, c call es = some (e1, es') ∧ ∀ (Q : Exit → DS → Prop), Q e es'.ds → blkQ id Q e1 es'.ds := by
  obtain ⟨⟨e1, es1⟩, h1, h2⟩ := optR h
  cases e1 with
  | exit i =>
    have h3 : iteB (Nat.beq i id) (some (Exit.normal, es1)) (some (Exit.exit i, es1)) = some (e, es') := h2
    rw [iteB_eq] at h3
    split at h3
    · rename_i hb
      cases h3
      exact ⟨_, h1, fun Q hQ => by simp only [blkQ]; rw [if_pos (Nat.eq_of_beq_eq_true hb)]; exact hQ⟩
    · rename_i hb
      cases h3
      refine ⟨_, h1, fun Q hQ => ?_⟩
      simp only [blkQ]
      rw [if_neg (fun e => hb (by rw [e]; exact Nat.beq_refl id))]; exact hQ
  | _ =>
    cases h2
    exact ⟨_, h1, fun Q hQ => hQ⟩

/-- What an evaluated piece of code means. -/
def EvOK (P : Program) (nt : Nat) (rd : Bool) (c : DC) (es : ES) (e : Exit) (es' : ES) : Prop :=
  Gw es.ds es'.ds ∧ ∀ (C : Ctx) (Q : Exit → DS → Prop), C.P = P → C.nt = nt → (rd = false → C.rd = none) → Q e es'.ds → DW C c Q es.ds

theorem loop_ok {P : Program} {call : CallT} {n nt : Nat} {rd : Bool} {c : DC} (ih : ∀ es e es', evalE n nt rd c call es = some (e, es') → es.ds.Fr → EvOK P nt rd c es e es') : ∀ (m : Nat) (es : ES) (e : Exit) (es' : ES), cL m (evalE n nt rd c) call es = some (e, es') → es.ds.Fr → EvOK P nt rd (.loop c) es e es' := by
  have gw : ∀ (m : Nat) (es : ES) (e : Exit) (es' : ES), cL m (evalE n nt rd c) call es = some (e, es') → es.ds.Fr → Gw es.ds es'.ds := by
    intro m
    induction m with
    | zero => intro es e es' h _; cases h
    | succ m im =>
      intro es e es' h hfr
      have h' : cS (evalE n nt rd c) (cL m (evalE n nt rd c)) call es = some (e, es') := h
      rcases cS_some h' with ⟨es1, h1, h2⟩ | ⟨h1, _⟩
      · have g1 := (ih _ _ _ h1 hfr).1
        exact g1.trans (im es1 e es' h2 (Gw.fr hfr g1))
      · exact (ih _ _ _ h1 hfr).1
  intro m es e es' h hfr
  refine ⟨gw m es e es' h hfr, fun C Q hP hnt hrd hQ => ?_⟩
  refine DW.loop (I := fun k s => ∃ es1, s = es1.ds ∧ es1.ds.Fr ∧ cL k (evalE n nt rd c) call es1 = some (e, es')) m ⟨es, rfl, hfr, h⟩ ?_
  rintro k s ⟨es1, rfl, hfr1, h1⟩
  cases k with
  | zero => cases h1
  | succ k =>
    have h' : cS (evalE n nt rd c) (cL k (evalE n nt rd c)) call es1 = some (e, es') := h1
    rcases cS_some h' with ⟨es2, h2, h3⟩ | ⟨h2, hne⟩
    · obtain ⟨g1, g2⟩ := ih _ _ _ h2 hfr1
      exact g2 C _ hP hnt hrd ⟨k, Nat.lt_succ_self k, es2, rfl, Gw.fr hfr1 g1, h3⟩
    · obtain ⟨g1, g2⟩ := ih _ _ _ h2 hfr1
      refine g2 C _ hP hnt hrd ?_
      cases e <;> first | exact hQ | exact absurd rfl hne

theorem evalE_ok {P : Program} {call : CallT} (hc : CallOK P call) (hm : P.follows .mixedOrders = true) {n nt : Nat} {rd : Bool} : ∀ (c : DC) (es : ES) (e : Exit) (es' : ES), evalE n nt rd c call es = some (e, es') → es.ds.Fr → EvOK P nt rd c es e es' := by
  intro c
  induction c with
  | skip =>
    intro es e es' h hfr
    have h' : some (Exit.normal, es) = some (e, es') := h
    cases h'
    exact ⟨Gw.refl _, fun C Q _ _ _ hQ => DW.skip hQ⟩
  | ret =>
    intro es e es' h hfr
    have h' : some (Exit.ret, es) = some (e, es') := h
    cases h'
    exact ⟨Gw.refl _, fun C Q _ _ _ hQ => DW.ret hQ⟩
  | exit id =>
    intro es e es' h hfr
    have h' : some (Exit.exit id, es) = some (e, es') := h
    cases h'
    exact ⟨Gw.refl _, fun C Q _ _ _ hQ => DW.exit hQ⟩
  | seq a b iha ihb =>
    intro es e es' h hfr
    have h' : cS (evalE n nt rd a) (evalE n nt rd b) call es = some (e, es') := h
    rcases cS_some h' with ⟨es1, h1, h2⟩ | ⟨h1, hne⟩
    · obtain ⟨g1, k1⟩ := iha _ _ _ h1 hfr
      obtain ⟨g2, k2⟩ := ihb _ _ _ h2 (Gw.fr hfr g1)
      exact ⟨g1.trans g2, fun C Q hP hnt hrd hQ => DW.seq (k1 C _ hP hnt hrd (k2 C Q hP hnt hrd hQ))⟩
    · obtain ⟨g1, k1⟩ := iha _ _ _ h1 hfr
      refine ⟨g1, fun C Q hP hnt hrd hQ => DW.seq (k1 C _ hP hnt hrd ?_)⟩
      cases e <;> first | exact hQ | exact absurd rfl hne
  | cond x a b iha ihb =>
    intro es e es' h hfr
    have h' : cC (.of x) (evalE n nt rd a) (evalE n nt rd b) call es = some (e, es') := h
    obtain ⟨t, ht, h2⟩ := cC_some h'
    cases t with
    | true =>
      rw [if_pos rfl] at h2
      obtain ⟨g1, k1⟩ := iha _ _ _ h2 hfr
      exact ⟨g1, fun C Q hP hnt hrd hQ => DW.cond ht (fun _ => k1 C Q hP hnt hrd hQ) (fun h => by cases h)⟩
    | false =>
      rw [if_neg (by simp)] at h2
      obtain ⟨g1, k1⟩ := ihb _ _ _ h2 hfr
      exact ⟨g1, fun C Q hP hnt hrd hQ => DW.cond ht (fun h => by cases h) (fun _ => k1 C Q hP hnt hrd hQ)⟩
  | blk id c ih =>
    intro es e es' h hfr
    have h' : cB id (evalE n nt rd c) call es = some (e, es') := h
    obtain ⟨e1, h1, h2⟩ := cB_some h'
    obtain ⟨g1, k1⟩ := ih _ _ _ h1 hfr
    exact ⟨g1, fun C Q hP hnt hrd hQ => DW.blk (k1 C _ hP hnt hrd (h2 Q hQ))⟩
  | loop c ih =>
    intro es e es' h hfr
    exact loop_ok ih n es e es' h hfr
  | reg draw ops info =>
    intro es e es' h hfr
    cases draw with
    | false =>
      have h' : cN (runE ops) call es = some (e, es') := h
      obtain ⟨h1, rfl⟩ := cN_some h'
      obtain ⟨g1, k1⟩ := runE_ok hc ops es es' h1 hfr
      exact ⟨g1, fun C Q hP hnt hrd hQ => DW.reg (by rw [hP]; exact k1 _ hQ)⟩
    | true =>
      cases hok : info.ok with
      | false =>
        have h' : (match info.ok with
          | true => cN (regE ops.length (rundE ops info.l 0))
          | false => fun _ _ => none : CE) call es = some (e, es') := h
        rw [hok] at h'
        cases h'
      | true =>
        have h' : (match info.ok with
          | true => cN (regE ops.length (rundE ops info.l 0))
          | false => fun _ _ => none : CE) call es = some (e, es') := h
        rw [hok] at h'
        have h'' : cN (regE ops.length (rundE ops info.l 0)) call es = some (e, es') := h'
        obtain ⟨h1, rfl⟩ := cN_some h''
        refine ⟨regE_gw hc h1 hfr, fun C Q hP hnt hrd hQ => ?_⟩
        intro code hcode
        obtain ⟨id, os, hcd, hl, hi⟩ := compC_reg hcode
        have hi' := hi rfl
        subst hi'
        subst hP
        exact (regE_ok hc hm hok h1 hfr).2 _ Q hQ code hcode
  | rng g ps a b iha ihb =>
    intro es e es' h hfr
    have h' : cR nt rd (.of g) ps a b call es = some (e, es') := h
    unfold cR at h'
    split at h'
    · cases h'
    rename_i hrdn
    rw [evE_eq] at h'
    split at h'
    rotate_left
    · cases h'
    rename_i f cs hfn
    split at h'
    rotate_left
    · cases h'
    rename_i d hp nx hcall
    obtain ⟨n1, n2, hcb, hcI⟩ := hc _ _ _ _ _ _ _ hcall (fun id hid => by
      rw [Tr.set_ho]
      simp only [setH]
      rw [if_neg (by omega)]
      exact hfr id (by show es.nx ≤ id; omega))
    rw [Tr.set_ho] at n2 hcI
    have gw : ∀ es2 : ES, es2.hp = hp.set es.nx none → es2.nx = nx → Gw es.ds es2.ds := fun es2 e1 e2 => by
      refine ⟨by show es.nx ≤ es2.nx; omega, fun id k1 k2 => ?_⟩
      have k2' : es2.hp.get id ≠ none := k2
      rw [e1, Tr.set_ho] at k2'
      simp only [setH] at k2'
      split at k2'
      · exact absurd rfl k2'
      · rename_i hne
        have := n2 id (by simp only [setH]; rw [if_neg hne]; exact k1) k2'
        show es.nx ≤ id ∧ id < es2.nx
        omega
    have dw : ∀ (C : Ctx) (Q : Exit → DS → Prop), C.P = P → C.nt = nt → (rd = false → C.rd = none) → (∃ lp, hp.get es.nx = some (.loop lp) ∧ lp.st ≠ .busy ∧ match lp.pend with
      | none => Q .normal ⟨es.ds.sv, setH hp.get es.nx none, nx⟩
      | some .ret => Q .ret ⟨es.ds.sv, setH hp.get es.nx none, nx⟩
      | some (.exit i) => Q (.exit i) ⟨es.ds.sv, setH hp.get es.nx none, nx⟩
      | _ => False) → DW C (.rng g ps a b) Q es.ds := fun C Q hP hnt hrd hQ => by
      subst hP hnt
      exact DW.rng (sl := .t es.sl) rfl (hrd (by simpa using hrdn)) hfn hcb (callC.i (ds := .yl es.nx :: cs) ⟨.yl es.nx, List.mem_cons_self, by simp [DV.refs]⟩ (hcI es.ds.sv _ hQ))
    split at h'
    rotate_left
    · cases h'
    rename_i lp hlp
    have hst : lp.st ≠ .busy := fun hb => by
      rw [hb] at h'
      cases h'
    have hmatch : (match lp.pend with
          | none => some (Exit.normal, ⟨es.sl, hp.set es.nx none, nx⟩)
          | some .ret => some (Exit.ret, ⟨es.sl, hp.set es.nx none, nx⟩)
          | some (.exit i) => some (Exit.exit i, ⟨es.sl, hp.set es.nx none, nx⟩)
          | _ => none) = some (e, es') := by
      revert h'
      split
      · rename_i hb; exact absurd hb hst
      · exact id
    have hfin : ∀ es2 : ES, es2 = ⟨es.sl, hp.set es.nx none, nx⟩ → es2.ds = ⟨es.ds.sv, setH hp.get es.nx none, nx⟩ := fun es2 he => by
      subst he
      rw [ds_eq, Tr.set_ho]; rfl
    cases hpe : lp.pend with
    | none =>
      rw [hpe] at hmatch
      cases hmatch
      refine ⟨gw _ rfl rfl, fun C Q hP hnt hrd hQ => dw C Q hP hnt hrd ⟨lp, hlp, hst, ?_⟩⟩
      rw [hpe]
      rw [hfin _ rfl] at hQ
      exact hQ
    | some p =>
      rw [hpe] at hmatch
      cases p with
      | ret =>
        cases hmatch
        refine ⟨gw _ rfl rfl, fun C Q hP hnt hrd hQ => dw C Q hP hnt hrd ⟨lp, hlp, hst, ?_⟩⟩
        rw [hpe]
        rw [hfin _ rfl] at hQ
        exact hQ
      | exit i =>
        cases hmatch
        refine ⟨gw _ rfl rfl, fun C Q hP hnt hrd hQ => dw C Q hP hnt hrd ⟨lp, hlp, hst, ?_⟩⟩
        rw [hpe]
        rw [hfin _ rfl] at hQ
        exact hQ
      | _ => cases hmatch
  | dfq t g cap =>
    intro es e es' h hfr
    cases rd with
    | true => cases h
    | false =>
      have h' : cN (stepE (some (pth t)) (.mkf (.func g) [] cap)) call es = some (e, es') := h
      obtain ⟨h1, rfl⟩ := cN_some h'
      have hex : Exd es.ds (.mkf (.func g) [] cap) (some t) es'.ds := stepE_ex (dst := some t) (fun _ _ e => by cases e) (fun _ _ _ e => by cases e) (fun _ _ e => by cases e) h1
      refine ⟨hex.gw hfr, fun C Q hP hnt hrd hQ => DW.dfq (hrd rfl) ?_⟩
      obtain ⟨d, u, h2, h3⟩ := hex
      have h4 : some (DV.fn (.func g) (.tup [] :: cap.map es.ds.ev), Upd.keep) = some (d, u) := h2
      cases h4
      rw [h3] at hQ
      exact hQ
  | bad =>
    intro es e es' h hfr
    cases h
end Go.DD
