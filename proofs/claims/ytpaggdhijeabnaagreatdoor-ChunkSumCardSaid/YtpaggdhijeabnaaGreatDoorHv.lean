/- The evaluator's regions that draw their order: what each step has done. -/
import Derived.Test.YtpaggdhijeabnaaGreatDoorHu
namespace Go.DD

/-- What one operation of a region has done. -/
structure Rec where
  d : DV
  lay : Option DObj
  tgt : Option Nat
  ob : DObj
  mn : Bool
  H : Nat → Option DObj
  N : Nat
def Rec.nil : Rec := ⟨.any, none, none, .row 0 [], false, fun _ => none, 0⟩

def MainOK (P : Program) (op : DOp) (s : DS) (d : DV) (H : Nat → Option DObj) (N : Nat) : Prop := match op with
  | .call f args => ∀ sv, callM P f (args.map s.rv) ⟨sv, s.ho, s.nx⟩ d H N
  | .cv tb x args => ∃ f fr cs, (s.ev x).tgt tb = some (f, fr, cs) ∧ ∀ sv, callM P f (fr ++ args.map s.rv ++ cs) ⟨sv, s.ho, s.nx⟩ d H N
  | op => ∃ u, s.hasU u = true ∧ execU s.nx s op = some (d, u) ∧ H = u.app s.nx s.ho ∧ N = if u.new then s.nx + 1 else s.nx

theorem Exd.main {P : Program} {s s' : DS} {o : DOp} {dst : Option Nat} (h : Exd s o dst s') (hn2 : ∀ f args, o ≠ .call f args) (hn3 : ∀ tb x args, o ≠ .cv tb x args) : ∃ d, s'.sv = (s.put dst d).sv ∧ MainOK P o s d s'.ho s'.nx := by
  obtain ⟨d, u, h1, rfl⟩ := h
  refine ⟨d, by cases dst <;> rfl, ?_⟩
  have key : ∃ u', s.hasU u' = true ∧ execU s.nx s o = some (d, u') ∧ (({ s.upd s.nx u with nx := if u.new then s.nx + 1 else s.nx } : DS).put dst d).ho = u'.app s.nx s.ho ∧ (({ s.upd s.nx u with nx := if u.new then s.nx + 1 else s.nx } : DS).put dst d).nx = if u'.new then s.nx + 1 else s.nx :=
    ⟨u, execU_hasU h1, h1, by rw [DS.ho_put]; rfl, by rw [DS.nx_put]⟩
  unfold MainOK
  split
  · rename_i f args; exact absurd rfl (hn2 f args)
  · rename_i tb x args; exact absurd rfl (hn3 tb x args)
  · exact key

theorem stepF_ok {P : Program} {call : CallT} (hc : CallOK P call) {dst : Option Nat} {op : DOp} {es es' : ES} (h : stepF (pthO dst) op call es = some es') (hfr : es.ds.Fr) :
    ∃ d, Gw es.ds es'.ds ∧ es'.ds.sv = (es.ds.put dst d).sv ∧ MainOK P op es.ds d es'.ds.ho es'.ds.nx := by
  have hcallM : ∀ {f : Nat} {ds : List DV} {d : DV} {hp : Tr DObj} {nx : Nat}, call (.fn f) ds es.hp es.nx = some (d, hp, nx) → es'.ds = (⟨es.ds.sv, hp.get, nx⟩ : DS).put dst d →
      Gw es.ds es'.ds ∧ es'.ds.sv = (es.ds.put dst d).sv ∧ ∀ sv, callM P f ds ⟨sv, es.ds.ho, es.ds.nx⟩ d es'.ds.ho es'.ds.nx := fun {f ds d hp nx} h1 h2 => by
    obtain ⟨n1, n2, g1, g2⟩ := hc _ _ _ _ _ _ _ h1 hfr
    refine ⟨(⟨n1, n2⟩ : Gw es.ds ⟨es.ds.sv, hp.get, nx⟩).trans (by rw [h2]; exact Gw.put _ _ _), by rw [h2]; cases dst <;> rfl, fun sv => ⟨g1, ?_⟩⟩
    rcases g2 sv (fun s' d' => d' = d ∧ s'.ho = es'.ds.ho ∧ s'.nx = es'.ds.nx) ⟨rfl, by rw [h2, DS.ho_put], by rw [h2, DS.nx_put]⟩ with h | ⟨d0, k1, k2, k3⟩
    · exact .inl h
    · obtain ⟨rfl, k4, k5⟩ := k3
      exact .inr ⟨k4.symm, k5.symm, k1, k2⟩
  by_cases hcl : ∃ f args, op = .call f args
  · obtain ⟨f, args, rfl⟩ := hcl
    have h' : sCall f (args.map EO.of) (pthO dst) call es = some es' := h
    unfold sCall at h'
    rw [evL_eq] at h'
    obtain ⟨d, hp, nx, h1, h2⟩ := doCall_ok h'
    obtain ⟨g1, g2, g3⟩ := hcallM h1 h2
    exact ⟨d, g1, g2, g3⟩
  · by_cases hcv : ∃ tb x args, op = .cv tb x args
    · obtain ⟨tb, x, args, rfl⟩ := hcv
      have h' : sCf tb (.of x) (args.map EO.of) (pthO dst) call es = some es' := h
      unfold sCf at h'
      rw [evE_eq, evL_eq] at h'
      obtain ⟨⟨f, fr, cs⟩, hf, h'⟩ := optR h'
      have h'' : doCall (.fn f) (appL fr (appL (args.map es.ds.rv) cs)) (pthO dst) call es = some es' := h'
      rw [appL_eq, appL_eq, ← List.append_assoc] at h''
      obtain ⟨d, hp, nx, h1, h2⟩ := doCall_ok h''
      obtain ⟨g1, g2, g3⟩ := hcallM h1 h2
      exact ⟨d, g1, g2, f, fr, cs, hf, g3⟩
    · by_cases hnx : ∃ k x, op = .nxm k x
      · obtain ⟨k, x, rfl⟩ := hnx
        cases h
      · have hn2 : ∀ f args, op ≠ .call f args := fun f args e => hcl ⟨f, args, e⟩
        have hn3 : ∀ tb x args, op ≠ .cv tb x args := fun tb x args e => hcv ⟨tb, x, args, e⟩
        have hn4 : ∀ k x, op ≠ .nxm k x := fun k x e => hnx ⟨k, x, e⟩
        have he : stepF (pthO dst) op = stepE (pthO dst) op := by
          unfold stepF
          split
          · exact absurd rfl (hn3 _ _ _)
          · exact absurd rfl (hn4 _ _)
          · rfl
        rw [he] at h
        have hex := stepE_ex hn2 hn3 hn4 h
        obtain ⟨d, g1, g2⟩ := hex.main (P := P) hn2 hn3
        exact ⟨d, hex.gw hfr, g1, g2⟩

/-- The references of what an operation's operands hold. -/
def opRefs (s : DS) (o : DOp) (id : Nat) : Prop := ∃ t, .tmp t ∈ o.opnds ∧ id ∈ (s.sv t).refs
theorem refsL_mem (es : ES) (o : DOp) (id : Nat) : id ∈ refsL es ((opTmps o).map pth) ↔ opRefs es.ds o id := by
  have key : ∀ l : List Nat, id ∈ refsL es (l.map pth) ↔ ∃ t ∈ l, id ∈ (es.ds.sv t).refs := by
    intro l
    induction l with
    | nil => exact ⟨fun h => (by cases h), fun ⟨t, h, _⟩ => (by cases h)⟩
    | cons t l ih =>
      have e : refsL es ((t :: l).map pth) = appL (refsE (rawE es (.t (pth t)))) (refsL es (l.map pth)) := rfl
      rw [e, appL_eq, refsE_eq, rawE_t, List.mem_append, ih]
      constructor
      · rintro (h | ⟨u, hu, h⟩)
        · exact ⟨t, by simp, h⟩
        · exact ⟨u, by simp [hu], h⟩
      · rintro ⟨u, hu, h⟩
        rcases List.mem_cons.1 hu with rfl | hu
        · exact .inl h
        · exact .inr ⟨u, hu, h⟩
  rw [key]
  unfold opRefs opTmps
  constructor
  · rintro ⟨t, ht, h⟩
    obtain ⟨x, hx, hxt⟩ := List.mem_filterMap.1 ht
    cases x <;> simp at hxt
    subst hxt
    exact ⟨_, hx, h⟩
  · rintro ⟨t, ht, h⟩
    exact ⟨t, List.mem_filterMap.2 ⟨_, ht, rfl⟩, h⟩

def okRefP (n0 m : Nat) (an : List Nat) (s : DS) (id : Nat) : Prop := (s.ho id).isSome = true ∧ (id < n0 ∨ n0 + m ≤ id ∨ an.contains (id - n0) = true)
theorem okRef_ok {n0 m : Nat} {an : List Nat} {es : ES} {id : Nat} (h : okRef n0 m an es.hp id = true) : okRefP n0 m an es.ds id := by
  unfold okRef at h
  simp only [iteB_eq, someB_eq, gN_eq] at h
  split at h
  · rename_i h1
    refine ⟨h1, ?_⟩
    split at h
    · rename_i h2; exact .inl (by simpa [Nat.blt_eq] using h2)
    · split at h
      · rename_i h3; exact .inr (.inl (by simpa [Nat.ble_eq] using h3))
      · exact .inr (.inr h)
  · cases h

theorem strikeL_ho (n0 : Nat) : ∀ (js : List Nat) (hp : Tr DObj), (strikeL n0 hp js).get = fun id => if ∃ j ∈ js, id = n0 + j then none else hp.get id
  | [], hp => by funext id; simp [strikeL]
  | j :: js, hp => by
    funext id
    simp only [strikeL]
    rw [strikeL_ho n0 js, Tr.set_ho]
    by_cases h1 : ∃ j ∈ js, id = n0 + j
    · simp only [h1, if_true]
      rw [if_pos]
      obtain ⟨x, hx, e⟩ := h1
      exact ⟨x, by simp [hx], e⟩
    · simp only [h1, if_false, setH]
      by_cases h2 : id = n0 + j
      · rw [if_pos h2, if_pos ⟨j, by simp, h2⟩]
      · rw [if_neg h2, if_neg]
        rintro ⟨x, hx, e⟩
        rcases List.mem_cons.1 hx with rfl | hx
        · exact h2 e
        · exact h1 ⟨x, hx, e⟩
theorem backL_ho (n0 : Nat) (old : Tr DObj) : ∀ (js : List Nat) (hp : Tr DObj), (backL n0 old hp js).get = fun id => if ∃ j ∈ js, id = n0 + j then old.get id else hp.get id
  | [], hp => by funext id; simp [backL]
  | j :: js, hp => by
    funext id
    simp only [backL]
    rw [backL_ho n0 old js, Tr.set_ho]
    by_cases h1 : ∃ j ∈ js, id = n0 + j
    · simp only [h1, if_true]
      rw [if_pos]
      obtain ⟨x, hx, e⟩ := h1
      exact ⟨x, by simp [hx], e⟩
    · simp only [h1, if_false, setH]
      by_cases h2 : id = n0 + j
      · rw [if_pos h2, if_pos ⟨j, by simp, h2⟩, h2]
      · rw [if_neg h2, if_neg]
        rintro ⟨x, hx, e⟩
        rcases List.mem_cons.1 hx with rfl | hx
        · exact h2 e
        · exact h1 ⟨x, hx, e⟩

/-- What a step of the region has done. -/
inductive Sem (P : Program) (n0 m i : Nat) (r : DR) (o : OI) (δ δ' : DSt) (ρ : Rec) : Prop
  | off (hw : δ.es.ds.wanted r.g = some false) (hd : ρ.d = .v undef) (hl : ρ.lay = none) (ht : ρ.tgt = none) (hm : ρ.mn = false) (he : δ'.es.ds = δ.es.ds.put r.dst (.v undef)) (hlo : δ'.lo = δ.lo) (hws : δ'.ws = δ.ws) (hps : δ'.ps = δ.ps)
  | read (hw : δ.es.ds.wanted r.g = some true) (hrf : ∀ id, opRefs δ.es.ds r.op id → okRefP n0 m o.an δ.es.ds id) (hx : execU (n0 + i) δ.es.ds r.op = some (ρ.d, .keep))
      (hl : ρ.lay = none) (ht : ρ.tgt = none) (hm : ρ.mn = false) (he : δ'.es.ds = δ.es.ds.put r.dst ρ.d) (hlo : δ'.lo = δ.lo) (hws : ∀ w ∈ δ.ws, w ∈ δ'.ws) (hlk : o.wide = true → ∀ id, opRefs δ.es.ds r.op id → ⟨i, o.an, id, δ.lo.contains (id - n0), r.op.rdC⟩ ∈ δ'.ws) (hps : δ'.ps = δ.ps)
  | lay (ob : DObj) (hw : δ.es.ds.wanted r.g = some true) (hrf : ∀ id, opRefs δ.es.ds r.op id → okRefP n0 m o.an δ.es.ds id) (hx : execU (n0 + i) δ.es.ds r.op = some (ρ.d, .lay ob))
      (hl : ρ.lay = some ob) (ht : ρ.tgt = none) (hm : ρ.mn = false) (he : δ'.es.ds = (⟨δ.es.ds.sv, setH δ.es.ds.ho (n0 + i) (some ob), δ.es.ds.nx⟩ : DS).put r.dst ρ.d) (hlo : δ'.lo = i :: δ.lo) (hws : ∀ w ∈ δ.ws, w ∈ δ'.ws) (hlk : o.wide = true → ∀ id, opRefs δ.es.ds r.op id → ⟨i, o.an, id, δ.lo.contains (id - n0), r.op.rdC⟩ ∈ δ'.ws) (hps : δ'.ps = δ.ps)
  | wr (ob : DObj) (hw : δ.es.ds.wanted r.g = some true) (hc : o.cls ≠ 0 ∧ o.cls ≠ 1 ∧ o.cls ≠ 2) (hrf : ∀ id, opRefs δ.es.ds r.op id → okRefP n0 m o.an δ.es.ds id) (hx : execU (n0 + i) δ.es.ds r.op = some (ρ.d, .wr (n0 + o.tgt) ob))
      (hal : ∀ id, opRefs δ.es.ds r.op id → id = n0 + o.tgt) (hlt : o.tgt ∈ δ.lo) (han : o.an.contains o.tgt = true)
      (hl : ρ.lay = none) (ht : ρ.tgt = some o.tgt) (hob : ρ.ob = ob) (hm : ρ.mn = false) (he : δ'.es.ds = (⟨δ.es.ds.sv, setH δ.es.ds.ho (n0 + o.tgt) (some ob), δ.es.ds.nx⟩ : DS).put r.dst ρ.d) (hlo : δ'.lo = δ.lo) (hws : δ'.ws = δ.ws) (hps : δ'.ps = δ.ps)
  | main (hid : List Nat) (hs : DS) (hhid : hid = δ.lo.filter fun j => !o.an.contains j) (hhs : hs = ⟨δ.es.ds.sv, (fun id => if ∃ j ∈ hid, id = n0 + j then none else δ.es.ds.ho id), δ.es.ds.nx⟩) (hw : δ.es.ds.wanted r.g = some true) (hc : o.cls = 2) (hrf : ∀ id, opRefs δ.es.ds r.op id → okRefP n0 m o.an δ.es.ds id)
      (hx : MainOK P r.op hs ρ.d ρ.H ρ.N) (hg : Gw hs ⟨δ.es.ds.sv, ρ.H, ρ.N⟩)
      (hl : ρ.lay = none) (ht : ρ.tgt = none) (hm : ρ.mn = true) (he : δ'.es.ds = (⟨δ.es.ds.sv, (fun id => if ∃ j ∈ hid, id = n0 + j then δ.es.ds.ho id else ρ.H id), ρ.N⟩ : DS).put r.dst ρ.d) (hlo : δ'.lo = hid) (hws : δ'.ws = δ.ws) (hps : δ'.ps = ⟨i, o.an, δ.es.hp, δ'.es.hp⟩ :: δ.ps)

theorem Fr_strike {s : DS} (h : s.Fr) (f : Nat → Prop) [DecidablePred f] : (⟨s.sv, (fun id => if f id then none else s.ho id), s.nx⟩ : DS).Fr := fun id hi => by
  show (if f id then none else s.ho id) = none
  split
  · rfl
  · exact h id hi

theorem put_eq (s : DS) (dst : Option Nat) (d : DV) : s.put dst d = ⟨(s.put dst d).sv, s.ho, s.nx⟩ := by cases dst <;> rfl
theorem put_sv {s t : DS} (h : s.sv = t.sv) (dst : Option Nat) (d : DV) : (s.put dst d).sv = (t.put dst d).sv := by cases dst <;> simp [DS.put, h]
theorem ds_eq (es : ES) : es.ds = ⟨es.ds.sv, es.hp.get, es.nx⟩ := rfl

theorem xKeep_ok {x : XU} {nid : Nat} {es : ES} {d : DV} (h : xKeep x nid es = some d) : x es nid = some (d, .keep) := by
  obtain ⟨⟨d', u⟩, h1, h2⟩ := optR h
  cases u with
  | keep => have h3 : some d' = some d := h2; cases h3; exact h1
  | _ => cases h2
theorem lookE_mem {i n0 : Nat} {an : List Nat} {wide c : Bool} {refs lo : List Nat} {ws : List Look} : (∀ w ∈ ws, w ∈ lookE i an wide c refs n0 lo ws) ∧ (wide = true → ∀ id ∈ refs, (⟨i, an, id, lo.contains (id - n0), c⟩ : Look) ∈ lookE i an wide c refs n0 lo ws) := by
  unfold lookE
  rw [iteB_eq, appL_eq, mapL_eq]
  constructor
  · intro w hw
    split
    · simp [hw]
    · exact hw
  · intro h id hid
    rw [if_pos h]
    exact List.mem_append_left _ (List.mem_map.2 ⟨id, hid, rfl⟩)

theorem dstp_sem {P : Program} {call : CallT} (hc : CallOK P call) {n0 m i : Nat} {r : DR} {o : OI} {δ δ' : DSt} (hfr : δ.es.ds.Fr) (hw : δ.es.ds.wanted r.g = some true) (h : dstp i r o call n0 m δ = some δ') : ∃ ρ, Sem P n0 m i r o δ δ' ρ := by
  unfold dstp dChk at h
  obtain ⟨h1, h⟩ := iteB_some h
  rw [allL_eq] at h1
  have hrf : ∀ id, opRefs δ.es.ds r.op id → okRefP n0 m o.an δ.es.ds id := fun id hid => okRef_ok (List.all_eq_true.1 h1 id ((refsL_mem _ _ _).2 hid))
  obtain ⟨es, lo, ws, ps⟩ := δ
  obtain ⟨sl, hp, nx⟩ := es
  have h4c : o.cls = 2 ∨ o.cls = 0 ∨ o.cls = 1 ∨ ∃ n, o.cls = n + 3 := by
    rcases Nat.lt_or_ge o.cls 3 with h | h
    · omega
    · exact .inr (.inr (.inr ⟨o.cls - 3, by omega⟩))
  rcases h4c with hcls | hcls | hcls | ⟨n, hcls⟩
  · rw [hcls] at h
    replace h : dMain i o.an (stepF (pthO r.dst) r.op) call n0 m ⟨⟨sl, hp, nx⟩, lo, ws, ps⟩ = some δ' := h
    unfold dMain at h
    have h' : forceL (lo.filter fun j => !o.an.contains j) (fun hid => Option.rec (motive := fun _ => Option DSt) none (fun es' => es'.cs fun sl' hp' nx' => iteB (Nat.ble nx nx') (some ⟨⟨sl', backL n0 hp hp' hid, nx'⟩, hid, ws, ⟨i, o.an, hp, backL n0 hp hp' hid⟩ :: ps⟩) none) (stepF (pthO r.dst) r.op call ⟨sl, strikeL n0 hp hid, nx⟩)) = some δ' := h
    rw [forceL_eq] at h'
    obtain ⟨es', h2, h3⟩ := optR h'
    rw [cs_eq] at h3
    obtain ⟨_, h4⟩ := iteB_some h3
    cases h4
    have hds : (⟨sl, strikeL n0 hp (lo.filter fun j => !o.an.contains j), nx⟩ : ES).ds = ⟨(ES.mk sl hp nx).ds.sv, (fun id => if ∃ j ∈ (lo.filter fun j => !o.an.contains j), id = n0 + j then none else (ES.mk sl hp nx).ds.ho id), (ES.mk sl hp nx).ds.nx⟩ := by
      rw [ds_eq, strikeL_ho]; rfl
    obtain ⟨d, g1, g2, g3⟩ := stepF_ok hc h2 (by rw [hds]; exact Fr_strike hfr _)
    rw [hds] at g1 g2 g3
    refine ⟨⟨d, none, none, .row 0 [], true, es'.ds.ho, es'.ds.nx⟩, .main _ _ rfl rfl hw hcls hrf g3 (g1.congr rfl rfl rfl rfl) rfl rfl rfl ?_ rfl rfl rfl⟩
    rw [ds_eq, backL_ho]
    rw [put_eq]
    have e : (ES.mk es'.sl (backL n0 hp es'.hp (lo.filter fun j => !o.an.contains j)) es'.nx).ds.sv = es'.ds.sv := rfl
    rw [e, g2]
    congr 1
    exact put_sv (by rfl) _ _
  · rw [hcls] at h
    replace h : dRead i o.an o.wide r.op.rdC (pthO r.dst) (match r.op with
      | .mv x => fun _ es => some (rawE es (.of x))
      | op => match xopP op with
        | some x => fun _ => x
        | none => xKeep (xopU op)) ((opTmps r.op).map pth) call n0 m ⟨⟨sl, hp, nx⟩, lo, ws, ps⟩ = some δ' := h
    unfold dRead at h
    obtain ⟨v, h2, h3⟩ := optR h
    have h4 : some (⟨(ES.mk sl hp nx).putE (pthO r.dst) v, lo, lookE i o.an o.wide r.op.rdC (refsL ⟨sl, hp, nx⟩ ((opTmps r.op).map pth)) n0 lo ws, ps⟩ : DSt) = some δ' := h3
    cases h4
    have hx : execU (n0 + i) (ES.mk sl hp nx).ds r.op = some (v, .keep) := by
      by_cases hmv : ∃ x, r.op = .mv x
      · obtain ⟨x, ho⟩ := hmv
        rw [ho] at h2
        have h5 : some (rawE ⟨sl, hp, nx⟩ (.of x)) = some v := h2
        cases h5
        rw [rawE_eq, ho]; rfl
      · have hother : (match r.op with
          | .mv x => fun _ es => some (rawE es (.of x))
          | op => match xopP op with
            | some x => fun _ => x
            | none => xKeep (xopU op) : Nat → XP) = match xopP r.op with
            | some x => fun _ => x
            | none => xKeep (xopU r.op) := by
          generalize r.op = op at hmv
          cases op <;> first | rfl | (exact absurd ⟨_, rfl⟩ hmv)
        rw [hother] at h2
        cases hx : xopP r.op with
        | some x => rw [hx] at h2; exact xopP_ok hx h2 _
        | none => rw [hx] at h2; exact xopU_ok (xKeep_ok h2)
    obtain ⟨w1, w2⟩ := @lookE_mem i n0 o.an o.wide r.op.rdC (refsL ⟨sl, hp, nx⟩ ((opTmps r.op).map pth)) lo ws
    exact ⟨⟨v, none, none, .row 0 [], false, fun _ => none, 0⟩, .read hw hrf hx rfl rfl rfl (putE_ds _ _ _) rfl w1 (fun hwd id hid => w2 hwd id ((refsL_mem _ _ _).2 hid)) rfl⟩
  · rw [hcls] at h
    replace h : dLay i o.an o.wide r.op.rdC (pthO r.dst) (xopU r.op) ((opTmps r.op).map pth) call n0 m ⟨⟨sl, hp, nx⟩, lo, ws, ps⟩ = some δ' := h
    unfold dLay at h
    have h' : forceN (n0 + i) (fun nid => Option.rec (motive := fun _ => Option DSt) none (fun p => Upd.casesOn (motive := fun _ => Option DSt) p.2 none
      (fun ob => some ⟨(ES.mk sl (setN hp nid (some ob)) nx).putE (pthO r.dst) p.1, i :: lo, lookE i o.an o.wide r.op.rdC (refsL ⟨sl, hp, nx⟩ ((opTmps r.op).map pth)) n0 lo ws, ps⟩) (fun _ _ => none) (fun _ _ => none)) (xopU r.op ⟨sl, hp, nx⟩ nid)) = some δ' := h
    rw [forceN_eq] at h'
    obtain ⟨⟨d, u⟩, h2, h3⟩ := optR h'
    cases u with
    | lay ob =>
      have h4 : some (⟨(ES.mk sl (setN hp (n0 + i) (some ob)) nx).putE (pthO r.dst) d, i :: lo, lookE i o.an o.wide r.op.rdC (refsL ⟨sl, hp, nx⟩ ((opTmps r.op).map pth)) n0 lo ws, ps⟩ : DSt) = some δ' := h3
      cases h4
      obtain ⟨w1, w2⟩ := @lookE_mem i n0 o.an o.wide r.op.rdC (refsL ⟨sl, hp, nx⟩ ((opTmps r.op).map pth)) lo ws
      refine ⟨⟨d, some ob, none, .row 0 [], false, fun _ => none, 0⟩, .lay ob hw hrf (xopU_ok h2) rfl rfl rfl ?_ rfl w1 (fun hwd id hid => w2 hwd id ((refsL_mem _ _ _).2 hid)) rfl⟩
      show (ES.putE _ _ _).ds = _
      rw [putE_ds, ds_eq]
      show (DS.mk _ (setN hp (n0 + i) (some ob)).get nx).put _ _ = _
      rw [setN_ho]; rfl
    | _ => cases h3
  · rw [hcls] at h
    replace h : dWr i o.an o.tgt (pthO r.dst) (xopU r.op) ((opTmps r.op).map pth) call n0 m ⟨⟨sl, hp, nx⟩, lo, ws, ps⟩ = some δ' := h
    unfold dWr at h
    obtain ⟨⟨d, u⟩, h2, h3⟩ := optR h
    cases u with
    | wr id ob =>
      have h4 : iteB (Nat.beq id (n0 + o.tgt) && lo.contains o.tgt && o.an.contains o.tgt && allL (refsL ⟨sl, hp, nx⟩ ((opTmps r.op).map pth)) (fun r => Nat.beq r (n0 + o.tgt))) (some (⟨(ES.mk sl (setN hp id (some ob)) nx).putE (pthO r.dst) d, lo, ws, ps⟩ : DSt)) none = some δ' := h3
      obtain ⟨h5, h6⟩ := iteB_some h4
      simp only [Bool.and_eq_true, allL_eq] at h5
      obtain ⟨⟨⟨e1, e2⟩, e3⟩, e4⟩ := h5
      have e1 : id = n0 + o.tgt := Nat.eq_of_beq_eq_true e1
      subst e1
      cases h6
      refine ⟨⟨d, none, some o.tgt, ob, false, fun _ => none, 0⟩, .wr ob hw ⟨by omega, by omega, by omega⟩ hrf (xopU_ok h2) (fun id hid => Nat.eq_of_beq_eq_true (List.all_eq_true.1 e4 id ((refsL_mem _ _ _).2 hid))) (by simpa using e2) e3 rfl rfl rfl rfl ?_ rfl rfl rfl⟩
      show (ES.putE _ _ _).ds = _
      rw [putE_ds, ds_eq]
      show (DS.mk _ (setN hp (n0 + o.tgt) (some ob)).get nx).put _ _ = _
      rw [setN_ho]; rfl
    | _ => cases h3

theorem dstpG_sem {P : Program} {call : CallT} (hc : CallOK P call) {n0 m i : Nat} {r : DR} {o : OI} {δ δ' : DSt} (hfr : δ.es.ds.Fr) (h : dstpG i r o call n0 m δ = some δ') : ∃ ρ, Sem P n0 m i r o δ δ' ρ := by
  unfold dstpG at h
  cases hg : r.g with
  | none =>
    rw [hg] at h
    exact dstp_sem hc hfr (by rw [hg]; rfl) h
  | some p =>
    obtain ⟨t, b⟩ := p
    rw [hg] at h
    simp only at h
    obtain ⟨c, h1, h2⟩ := optR h
    rw [wantE_eq] at h1
    cases c with
    | true => exact dstp_sem hc hfr (by rw [hg]; exact h1) h2
    | false =>
      have h3 : some (⟨δ.es.putE (pthO r.dst) (.v undef), δ.lo, δ.ws, δ.ps⟩ : DSt) = some δ' := h2
      cases h3
      exact ⟨⟨.v undef, none, none, .row 0 [], false, fun _ => none, 0⟩, .off (by rw [hg]; exact h1) rfl rfl rfl rfl (putE_ds _ _ _) rfl rfl rfl⟩
end Go.DD
