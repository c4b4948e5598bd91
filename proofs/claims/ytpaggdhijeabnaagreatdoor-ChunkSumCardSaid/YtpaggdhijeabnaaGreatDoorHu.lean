/- The evaluator's steps, in the text's order. -/
import Derived.Test.YtpaggdhijeabnaaGreatDoorHt
namespace Go.DD

/-- Nothing lies at a number that is not yet given. -/
def DS.Fr (s : DS) : Prop := ∀ id, s.nx ≤ id → s.ho id = none
/-- What is new lies at new numbers. -/
structure Gw (s s' : DS) : Prop where
  le : s.nx ≤ s'.nx
  new : ∀ id, s.ho id = none → s'.ho id ≠ none → s.nx ≤ id ∧ id < s'.nx
theorem Gw.refl (s : DS) : Gw s s := ⟨Nat.le_refl _, fun _ h1 h2 => absurd h1 h2⟩
theorem Gw.of {s s' : DS} (h1 : s'.ho = s.ho) (h2 : s'.nx = s.nx) : Gw s s' := ⟨by omega, fun id h3 h4 => by rw [h1] at h4; exact absurd h3 h4⟩
theorem Gw.trans {s s' s'' : DS} (h1 : Gw s s') (h2 : Gw s' s'') : Gw s s'' := by
  refine ⟨Nat.le_trans h1.le h2.le, fun id h3 h4 => ?_⟩
  have := h1.le
  have := h2.le
  by_cases h5 : s'.ho id = none
  · have := h2.new id h5 h4; omega
  · have := h1.new id h3 h5; omega
theorem Gw.fr {s s' : DS} (h1 : s.Fr) (h2 : Gw s s') : s'.Fr := fun id h => by
  have h3 := h2.le
  cases h4 : s'.ho id with
  | none => rfl
  | some o =>
    have := h2.new id (h1 id (by omega)) (by rw [h4]; simp)
    omega
theorem Gw.put (s : DS) (dst : Option Nat) (d : DV) : Gw s (s.put dst d) := Gw.of (DS.ho_put s dst d) (DS.nx_put s dst d)
theorem Gw.congr {s s' t t' : DS} (h : Gw s s') (h1 : t.ho = s.ho) (h2 : t.nx = s.nx) (h3 : t'.ho = s'.ho) (h4 : t'.nx = s'.nx) : Gw t t' := ⟨by rw [h2, h4]; exact h.le, fun id => by rw [h1, h2, h3, h4]; exact h.new id⟩

theorem execU_hasU {nid : Nat} {s : DS} {op : DOp} {d : DV} {u : Upd} (h : execU nid s op = some (d, u)) : s.hasU u = true := by
  cases u with
  | keep => rfl
  | lay o => rfl
  | wr id o =>
    cases op <;> simp only [execU] at h
    case st n a x =>
      split at h
      · split at h
        · rename_i id' off e T cs ho
          split at h
          · cases h; simp [DS.hasU, ho]
          · cases h
        · cases h
      · cases h
    case mup kd x k y =>
      split at h
      · split at h
        · split at h
          · split at h
            · rename_i ho
              split at h
              · cases h; simp [DS.hasU, ho]
              · cases h
            · cases h
          · cases h
        · cases h
      · cases h
    case men kd z x k =>
      split at h
      · split at h
        · split at h
          · split at h
            · rename_i ho
              split at h
              · cases h; simp [DS.hasU, ho]
              · cases h; simp [DS.hasU, ho]
              · cases h
            · cases h
          · cases h
        · cases h
      · cases h
    case mes x q y =>
      split at h
      · split at h
        · rename_i ho
          split at h
          · cases h; simp [DS.hasU, ho]
          · cases h
        · cases h
      · cases h
    case nxs x =>
      split at h
      · split at h
        · rename_i ho
          split at h
          · cases h; simp [DS.hasU, ho]
          · cases h
        · cases h
      · cases h
    case cpy es x y =>
      split at h
      · split at h
        · rename_i ho
          split at h
          · cases h; simp [DS.hasU, ho]
          · cases h
        · cases h
      · cases h
    all_goals (repeat' (first | (cases h; done) | split at h | (obtain ⟨_, _, h'⟩ := Option.map_eq_some_iff.1 h; cases h'; done)))
  | mv old o =>
    cases old with
    | none => rfl
    | some id =>
      cases op <;> simp only [execU] at h
      case app T es bytes d x =>
        split at h
        · rename_i old cs n news m e1 e2
          split at h
          · cases h
            unfold dstD at e1
            split at e1
            · cases e1
            · split at e1
              · rename_i ho
                simp only [DS.hasU]
                split at e1
                · cases e1; simp [ho]
                · cases e1
              · cases e1
            · cases e1
          · cases h
        · cases h
      case frz x =>
        split at h
        · split at h
          · rename_i ho
            split at h
            · cases h; simp [DS.hasU, ho]
            · cases h
          · cases h
        · cases h
      all_goals (repeat' (first | (cases h; done) | split at h | (obtain ⟨_, _, h'⟩ := Option.map_eq_some_iff.1 h; cases h'; done)))

theorem gw_upd {s : DS} (hf : s.Fr) {u : Upd} (h : s.hasU u = true) : Gw s { s.upd s.nx u with nx := if u.new then s.nx + 1 else s.nx } := by
  have hn : s.ho s.nx = none := hf _ (Nat.le_refl _)
  cases u with
  | keep => exact Gw.of rfl rfl
  | lay o =>
    refine ⟨by simp [Upd.new], fun id h1 h2 => ?_⟩
    simp only [DS.upd, Upd.app, setH, Upd.new, if_true] at h2 ⊢
    split at h2
    · omega
    · exact absurd h1 h2
  | wr id0 o =>
    refine ⟨by simp [Upd.new], fun id h1 h2 => ?_⟩
    simp only [DS.upd, Upd.app, setH] at h2
    split at h2
    · rename_i e; subst e; simp [DS.hasU, h1] at h
    · exact absurd h1 h2
  | mv old o =>
    refine ⟨by simp [Upd.new], fun id h1 h2 => ?_⟩
    simp only [DS.upd, Upd.app, setH, Upd.new, if_true] at h2 ⊢
    split at h2
    · omega
    · cases old with
      | none => exact absurd h1 h2
      | some i =>
        simp only [strikeO, setH] at h2
        split at h2
        · exact absurd rfl h2
        · exact absurd h1 h2

/-- A call, walked where it stands; or one on immutable arguments, by contract. -/
def callC (P : Program) (f : FuncId) (ds : List DV) (s : DS) (K : DS → DV → Prop) : Prop := callI P f ds s K ∨ ∃ d, (∀ x ∈ ds, x.refs = []) ∧ DCall P f ds (fun d' => d' = d) ∧ K s d
theorem callC.k {P : Program} {f : FuncId} {ds : List DV} {s : DS} {K : DS → DV → Prop} (h : callC P f ds s K) : callK P f ds s K := by
  rcases h with h | ⟨d, h1, h2, h3⟩
  · exact .inr (.inr (.inr h))
  · exact .inl ⟨_, h1, h2, fun d' hd => by rw [hd]; exact h3⟩
theorem callC.i {P : Program} {f : FuncId} {ds : List DV} {s : DS} {K : DS → DV → Prop} (hne : ∃ x ∈ ds, x.refs ≠ []) (h : callC P f ds s K) : callI P f ds s K := by
  rcases h with h | ⟨d, h1, _⟩
  · exact h
  · obtain ⟨x, hx, hr⟩ := hne
    exact absurd (h1 x hx) hr
/-- What is called does what the deep layer's calls do. -/
def CallOK (P : Program) (call : CallT) : Prop := ∀ (tg : Tg) (ds : List DV) (hp : Tr DObj) (nx : Nat) (d : DV) (hp' : Tr DObj) (nx' : Nat), call tg ds hp nx = some (d, hp', nx') → (∀ id, nx ≤ id → hp.get id = none) →
  nx ≤ nx' ∧ (∀ id, hp.get id = none → hp'.get id ≠ none → nx ≤ id ∧ id < nx') ∧ match tg with
  | .fn f => callable P f = true ∧ ∀ (sv : Nat → DV) (K : DS → DV → Prop), K ⟨sv, hp'.get, nx'⟩ d → callC P f ds ⟨sv, hp.get, nx⟩ K
  | .yl id => ∀ (sv : Nat → DV) (K : DS → DV → Prop), K ⟨sv, hp'.get, nx'⟩ d → roundK P id ds ⟨sv, hp.get, nx⟩ K

theorem optR {α β : Type} {x : Option α} {f : α → Option β} {y : β} (h : (Option.rec (motive := fun _ => Option β) none f x) = some y) : ∃ a, x = some a ∧ f a = some y := by
  cases x with
  | none => cases h
  | some a => exact ⟨a, rfl, h⟩
theorem cs_eq {α : Type} (es : ES) (f : Tr DV → Tr DObj → Nat → α) : es.cs f = f es.sl es.hp es.nx := rfl
theorem es_eta (es : ES) : (⟨es.sl, es.hp, es.nx⟩ : ES) = es := rfl

theorem doCall_ok {call : CallT} {tg : Tg} {ds : List DV} {dst : Option Nat} {es es' : ES} (h : doCall tg ds (pthO dst) call es = some es') : ∃ d hp nx, call tg ds es.hp es.nx = some (d, hp, nx) ∧ es'.ds = (⟨es.ds.sv, hp.get, nx⟩ : DS).put dst d := by
  obtain ⟨⟨d, hp, nx⟩, h1, h2⟩ := optR h
  have h3 : some ((ES.mk es.sl hp nx).putE (pthO dst) d) = some es' := h2
  cases h3
  exact ⟨d, hp, nx, h1, putE_ds _ _ _⟩

theorem evL_eq (es : ES) (args : List Operand) : evL es (args.map EO.of) = args.map es.ds.rv := by
  unfold evL
  rw [mapL_eq, List.map_map]
  exact List.map_congr_left fun x _ => rawE_eq es x

theorem sCall_ok {P : Program} {call : CallT} (hc : CallOK P call) {f : Nat} {args : List Operand} {dst : Option Nat} {es es' : ES} (h : sCall f (args.map EO.of) (pthO dst) call es = some es') (hfr : es.ds.Fr) {K : DS → Prop} (hK : K es'.ds) :
    Gw es.ds es'.ds ∧ callable P f = true ∧ callC P f (args.map es.ds.rv) es.ds fun s' d => K (s'.put dst d) := by
  unfold sCall at h
  rw [evL_eq] at h
  obtain ⟨d, hp, nx, h1, h2⟩ := doCall_ok h
  obtain ⟨n1, n2, g1, g2⟩ := hc _ _ _ _ _ _ _ h1 hfr
  refine ⟨(⟨n1, n2⟩ : Gw es.ds ⟨es.ds.sv, hp.get, nx⟩).trans (by rw [h2]; exact Gw.put _ _ _), g1, g2 es.ds.sv _ ?_⟩
  rw [← h2]; exact hK

theorem sCv_ok {P : Program} {call : CallT} (hc : CallOK P call) {tb : Option (List (TypeId × FuncId))} {x : Operand} {args : List Operand} {dst : Option Nat} {es es' : ES} (h : sCv tb (.of x) (args.map EO.of) (pthO dst) call es = some es') (hfr : es.ds.Fr) {K : DS → Prop} (hK : K es'.ds) :
    Gw es.ds es'.ds ∧ match (es.ds.ev x).tgt tb with
    | some (f, fr, cs) => callable P f = true ∧ callC P f (fr ++ args.map es.ds.rv ++ cs) es.ds fun s' d => K (s'.put dst d)
    | none => match (es.ds.ev x).tgY tb with
      | some i => roundK P i (args.map es.ds.rv) es.ds fun s' d => K (s'.put dst d)
      | none => False := by
  unfold sCv at h
  rw [evE_eq, evL_eq] at h
  cases hf : (es.ds.ev x).tgt tb with
  | some p =>
    obtain ⟨f, fr, cs⟩ := p
    rw [hf] at h
    have h' : doCall (.fn f) (appL fr (appL (args.map es.ds.rv) cs)) (pthO dst) call es = some es' := h
    rw [appL_eq, appL_eq, ← List.append_assoc] at h'
    obtain ⟨d, hp, nx, h1, h2⟩ := doCall_ok h'
    obtain ⟨n1, n2, g1, g2⟩ := hc _ _ _ _ _ _ _ h1 hfr
    refine ⟨(⟨n1, n2⟩ : Gw es.ds ⟨es.ds.sv, hp.get, nx⟩).trans (by rw [h2]; exact Gw.put _ _ _), g1, g2 es.ds.sv _ ?_⟩
    rw [← h2]; exact hK
  | none =>
    rw [hf] at h
    cases hy : (es.ds.ev x).tgY tb with
    | none => rw [hy] at h; cases h
    | some i =>
      rw [hy] at h
      have h' : doCall (.yl i) (args.map es.ds.rv) (pthO dst) call es = some es' := h
      obtain ⟨d, hp, nx, h1, h2⟩ := doCall_ok h'
      obtain ⟨n1, n2, g2⟩ := hc _ _ _ _ _ _ _ h1 hfr
      refine ⟨(⟨n1, n2⟩ : Gw es.ds ⟨es.ds.sv, hp.get, nx⟩).trans (by rw [h2]; exact Gw.put _ _ _), g2 es.ds.sv _ ?_⟩
      show K _
      rw [← h2]; exact hK

theorem nxm_hasU {s : DS} {k : Bool} {x : Operand} {l : List (DV × Upd)} (h : nxmL s k x = some l) : ∀ p ∈ l, s.hasU p.2 = true ∧ p.2.new = false := by
  unfold nxmL at h
  split at h
  · unfold entL at h
    repeat' (first | (cases h; done) | split at h)
    all_goals (cases h; intro p hp; rw [List.mem_singleton] at hp; subst hp; exact ⟨rfl, rfl⟩)
  split at h
  · rename_i id hx
    split at h
    · cases h; intro p hp; rw [List.mem_singleton] at hp; subst hp; exact ⟨rfl, rfl⟩
    · rename_i im since seen last hid
      split at h
      · split at h
        · cases h
        · cases h
          intro p hp
          obtain ⟨c, _, rfl⟩ := List.mem_map.1 hp
          cases c with
          | none => exact ⟨rfl, rfl⟩
          | some e => exact ⟨by simp [nxtU, nxtD, DS.hasU, hid], rfl⟩
      · cases h
    · cases h
  · cases h
theorem gw_updK {s : DS} {u : Upd} (h : s.hasU u = true) (hn : u.new = false) (n : Nat) : Gw s (s.upd n u) := by
  cases u with
  | keep => exact Gw.of rfl rfl
  | lay o => cases hn
  | mv old o => cases hn
  | wr id0 o =>
    refine ⟨Nat.le_refl _, fun id h1 h2 => ?_⟩
    simp only [DS.upd, Upd.app, setH] at h2
    split at h2
    · rename_i e; subst e; simp [DS.hasU, h1] at h
    · exact absurd h1 h2
theorem sNx_ok {k : Bool} {x : Operand} {dst : Option Nat} {call : CallT} {es es' : ES} (h : sNx k x (pthO dst) call es = some es') : ∃ p, nxmL es.ds k x = some [p] ∧ es'.ds = (es.ds.upd es.ds.nx p.2).put dst p.1 ∧ Gw es.ds es'.ds := by
  unfold sNx at h
  split at h
  · rename_i p hp
    have h1 := nxm_hasU hp p (by simp)
    split at h
    · cases h
    · cases h
      have e : (ES.mk es.sl (updE es.hp es.nx p.2) es.nx).ds = es.ds.upd es.ds.nx p.2 := by
        simp only [ES.ds, updE_ho]; rfl
      refine ⟨p, hp, by rw [putE_ds, e], ?_⟩
      rw [putE_ds, e]
      exact (gw_updK h1.1 h1.2 _).trans (Gw.put _ _ _)
  · cases h

/-- An operation that is no call. -/
def Exd (s : DS) (o : DOp) (dst : Option Nat) (s' : DS) : Prop := ∃ d u, execU s.nx s o = some (d, u) ∧ s' = ({ s.upd s.nx u with nx := if u.new then s.nx + 1 else s.nx } : DS).put dst d
theorem sU_ok {x : XU} {o : DOp} (hx : ∀ es nid d u, x es nid = some (d, u) → execU nid es.ds o = some (d, u)) {dst : Option Nat} {call : CallT} {es es' : ES} (h : sU (pthO dst) x call es = some es') : Exd es.ds o dst es'.ds := by
  obtain ⟨⟨d, u⟩, h1, h2⟩ := optR h
  have h3 : iteB u.new (forceN (es.nx + 1) fun n => some ((ES.mk es.sl (updE es.hp es.nx u) n).putE (pthO dst) d)) (some ((ES.mk es.sl (updE es.hp es.nx u) es.nx).putE (pthO dst) d)) = some es' := h2
  have hex := hx _ _ _ _ h1
  rw [iteB_eq, forceN_eq] at h3
  refine ⟨d, u, hex, ?_⟩
  split at h3
  · rename_i hu
    cases h3
    rw [putE_ds]
    simp only [ES.ds, updE_ho, hu]
    rfl
  · rename_i hu
    cases h3
    rw [putE_ds]
    simp only [ES.ds, updE_ho, hu]
    rfl
theorem sX_ok {x : XP} {o : DOp} (hx : ∀ es d, x es = some d → ∀ nid, execU nid es.ds o = some (d, .keep)) {dst : Option Nat} {call : CallT} {es es' : ES} (h : sX (pthO dst) x call es = some es') : Exd es.ds o dst es'.ds := by
  obtain ⟨d, h1, h2⟩ := optR h
  have h3 : some (es.putE (pthO dst) d) = some es' := h2
  cases h3
  exact ⟨d, .keep, hx _ _ h1 _, putE_ds _ _ _⟩
theorem Exd.gw {s s' : DS} {o : DOp} {dst : Option Nat} (hf : s.Fr) (h : Exd s o dst s') : Gw s s' := by
  obtain ⟨d, u, h1, rfl⟩ := h
  exact (gw_upd hf (execU_hasU h1)).trans (Gw.put _ _ _)

theorem stepE_ex {dst : Option Nat} {op : DOp} {call : CallT} {es es' : ES} (hn2 : ∀ f args, op ≠ .call f args) (hn3 : ∀ tb x args, op ≠ .cv tb x args) (hn4 : ∀ k x, op ≠ .nxm k x) (h : stepE (pthO dst) op call es = some es') : Exd es.ds op dst es'.ds := by
  by_cases hmv : ∃ x, op = .mv x
  · obtain ⟨x, rfl⟩ := hmv
    have h3 : some (es.putE (pthO dst) (rawE es (.of x))) = some es' := h
    cases h3
    exact ⟨es.ds.rv x, .keep, rfl, by rw [putE_ds, rawE_eq]; rfl⟩
  · have hother : stepE (pthO dst) op = match xopP op with
      | some x => sX (pthO dst) x
      | none => sU (pthO dst) (xopU op) := by
      cases op <;> first | rfl | (exact absurd ⟨_, rfl⟩ hmv) | (exact absurd rfl (hn2 _ _)) | (exact absurd rfl (hn3 _ _ _)) | (exact absurd rfl (hn4 _ _))
    rw [hother] at h
    cases hx : xopP op with
    | some x =>
      rw [hx] at h
      exact sX_ok (fun es d hd nid => xopP_ok hx hd nid) h
    | none =>
      rw [hx] at h
      exact sU_ok (fun es nid d u hd => xopU_ok hd) h

theorem stepE_ok {P : Program} {call : CallT} (hc : CallOK P call) {r : DR} {es es' : ES} (h : stepE (pthO r.dst) r.op call es = some es') (hfr : es.ds.Fr) {K : DS → Prop} (hK : K es'.ds) : Gw es.ds es'.ds ∧ stepR P r es.ds K := by
  by_cases hcl : ∃ f args, r.op = .call f args
  · obtain ⟨f, args, ho⟩ := hcl
    rw [ho] at h
    obtain ⟨g0, g1, g2⟩ := sCall_ok hc h hfr hK
    refine ⟨g0, ?_⟩
    unfold stepR
    rw [ho]
    exact ⟨g1, g2.k⟩
  · by_cases hcv : ∃ tb x args, r.op = .cv tb x args
    · obtain ⟨tb, x, args, ho⟩ := hcv
      rw [ho] at h
      obtain ⟨g0, h1⟩ := sCv_ok hc h hfr hK
      refine ⟨g0, ?_⟩
      unfold stepR
      rw [ho]
      simp only
      cases hf : (es.ds.ev x).tgt tb with
      | some p =>
        rw [hf] at h1
        exact ⟨h1.1, h1.2.k⟩
      | none =>
        rw [hf] at h1
        simp only at h1 ⊢
        cases hy : (es.ds.ev x).tgY tb with
        | none => rw [hy] at h1; exact h1
        | some i => rw [hy] at h1; exact h1
    · by_cases hnx : ∃ k x, r.op = .nxm k x
      · obtain ⟨k, x, ho⟩ := hnx
        rw [ho] at h
        obtain ⟨p, h1, h2, h3⟩ := sNx_ok (call := call) h
        refine ⟨h3, ?_⟩
        unfold stepR
        rw [ho]
        simp only [h1]
        intro q hq
        rw [List.mem_singleton] at hq
        subst hq
        rw [← h2]; exact hK
      · have hex := stepE_ex (fun f args e => hcl ⟨f, args, e⟩) (fun tb x args e => hcv ⟨tb, x, args, e⟩) (fun k x e => hnx ⟨k, x, e⟩) h
        refine ⟨hex.gw hfr, ?_⟩
        obtain ⟨d, u, h1, h2⟩ := hex
        unfold stepR
        split
        · rename_i f args ho; exact absurd ⟨f, args, ho⟩ hcl
        · rename_i tb x args ho; exact absurd ⟨tb, x, args, ho⟩ hcv
        · rename_i k x ho; exact absurd ⟨k, x, ho⟩ hnx
        · unfold exec
          rw [h1]
          simp only
          rw [← h2]; exact hK

theorem stpR_ok {P : Program} {call : CallT} (hc : CallOK P call) {r : DR} {es es' : ES} (h : stpR r call es = some es') (hfr : es.ds.Fr) : Gw es.ds es'.ds ∧ ∀ {rest : List DR} {K : DS → Prop}, runOps P rest es'.ds K → runOps P (r :: rest) es.ds K := by
  unfold stpR at h
  simp only [runOps]
  cases hg : r.g with
  | none =>
    rw [hg] at h
    simp only [DS.wanted]
    exact ⟨(stepE_ok hc h hfr (K := fun _ => True) trivial).1, fun {rest K} hK => (stepE_ok hc h hfr (K := fun s' => runOps P rest s' K) hK).2⟩
  | some p =>
    obtain ⟨t, b⟩ := p
    rw [hg] at h
    simp only at h
    obtain ⟨c, h1, h2⟩ := optR h
    rw [wantE_eq] at h1
    rw [h1]
    cases c with
    | true => exact ⟨(stepE_ok hc h2 hfr (K := fun _ => True) trivial).1, fun {rest K} hK => (stepE_ok hc h2 hfr (K := fun s' => runOps P rest s' K) hK).2⟩
    | false =>
      have h3 : some (es.putE (pthO r.dst) (.v undef)) = some es' := h2
      cases h3
      rw [putE_ds]
      exact ⟨Gw.put _ _ _, fun {rest K} hK => hK⟩

theorem runE_ok {P : Program} {call : CallT} (hc : CallOK P call) : ∀ (ops : List DR) (es es' : ES), runE ops call es = some es' → es.ds.Fr → Gw es.ds es'.ds ∧ ∀ K : DS → Prop, K es'.ds → runOps P ops es.ds K
  | [], es, es', h, _ => by
    have h3 : some es = some es' := h
    cases h3
    exact ⟨Gw.refl _, fun K hK => hK⟩
  | r :: rest, es, es', h, hfr => by
    have h' : sq (stpR r) (runE rest) call es = some es' := h
    obtain ⟨e1, h1, h2⟩ := optR h'
    obtain ⟨g1, k1⟩ := stpR_ok hc h1 hfr
    obtain ⟨g2, k2⟩ := runE_ok hc rest e1 es' h2 (Gw.fr hfr g1)
    exact ⟨g1.trans g2, fun K hK => k1 (k2 K hK)⟩
end Go.DD
