/- The evaluator's regions that draw their order: what each step has done. -/
import Derived.Test.YtpaggdhijeabnaaGreatDoorUe
import Derived.Test.YtpaggdhijeabnaaGreatDoorUd
namespace Go.DD

/-- What one operation of a region has done. -/
structure Rec where
  d : DV
  lay : Option DObj
  tgt : Option Nat
  ob : DObj
  mn : Bool
  H : Nat → Option DObj
  N : Nat
def Rec.nil : Rec := ⟨.any, none, none, .row 0 [], false, fun _ => none, 0⟩

def MainOK (P : Program) (op : DOp) (s : DS) (d : DV) (H : Nat → Option DObj) (N : Nat) : Prop := match op with
  | .call f args => ∀ sv, callM P f (args.map s.rv) ⟨sv, s.ho, s.nx⟩ d H N
  | .cv tb x args => ∃ f fr cs, (s.ev x).tgt tb = some (f, fr, cs) ∧ ∀ sv, callM P f (fr ++ args.map s.rv ++ cs) ⟨sv, s.ho, s.nx⟩ d H N
  | op => ∃ u, s.hasU u = true ∧ execU s.nx s op = some (d, u) ∧ H = u.app s.nx s.ho ∧ N = if u.new then s.nx + 1 else s.nx

theorem Exd.main {P : Program} {s s' : DS} {o : DOp} {dst : Option Nat} (h : Exd s o dst s') (hn2 : ∀ f args, o ≠ .call f args) (hn3 : ∀ tb x args, o ≠ .cv tb x args) : ∃ d, s'.sv = (s.put dst d).sv ∧ MainOK P o s d s'.ho s'.nx := by
  obtain ⟨d, u, h1, rfl⟩ := h
  refine ⟨d, by cases dst <;> rfl, ?_⟩
  have key : ∃ u', s.hasU u' = true ∧ execU s.nx s o = some (d, u') ∧ (({ s.upd s.nx u with nx := if u.new then s.nx + 1 else s.nx } : DS).put dst d).ho = u'.app s.nx s.ho ∧ (({ s.upd s.nx u with nx := if u.new then s.nx + 1 else s.nx } : DS).put dst d).nx = if u'.new then s.nx + 1 else s.nx :=
    ⟨u, execU_hasU h1, h1, by rw [DS.ho_put]; rfl, by rw [DS.nx_put]⟩
  unfold MainOK
  split
  · rename_i f args; exact absurd rfl (hn2 f args)
  · rename_i tb x args; exact absurd rfl (hn3 tb x args)
  · exact key

theorem stepF_ok {P : Program} {call : CallT} (hc : CallOK P call) {dst : Option Nat} {op : DOp} {es es' : ES} (h : stepF (pthO dst) op call es = some es') (hfr : es.ds.Fr) :
    ∃ d, Gw es.ds es'.ds ∧ es'.ds.sv = (es.ds.put dst d).sv ∧ MainOK P op es.ds d es'.ds.ho es'.ds.nx := by
  have hcallM : ∀ {f : Nat} {ds : List DV} {d : DV} {hp : Tr DObj} {nx : Nat}, call (.fn f) ds es.hp es.nx = some (d, hp, nx) → es'.ds = (⟨es.ds.sv, hp.get, nx⟩ : DS).put dst d →
      Gw es.ds es'.ds ∧ es'.ds.sv = (es.ds.put dst d).sv ∧ ∀ sv, callM P f ds ⟨sv, es.ds.ho, es.ds.nx⟩ d es'.ds.ho es'.ds.nx := fun {f ds d hp nx} h1 h2 => by
    obtain ⟨n1, n2, g1, g2⟩ := hc _ _ _ _ _ _ _ h1 hfr
    refine ⟨(⟨n1, n2⟩ : Gw es.ds ⟨es.ds.sv, hp.get, nx⟩).trans (by rw [h2]; exact Gw.put _ _ _), by rw [h2]; cases dst <;> rfl, fun sv => ⟨g1, ?_⟩⟩
    rcases g2 sv (fun s' d' => d' = d ∧ s'.ho = es'.ds.ho ∧ s'.nx = es'.ds.nx) ⟨rfl, by rw [h2, DS.ho_put], by rw [h2, DS.nx_put]⟩ with h | ⟨d0, k1, k2, k3⟩
    · exact .inl h
    · obtain ⟨rfl, k4, k5⟩ := k3
      exact .inr ⟨k4.symm, k5.symm, k1, k2⟩
  by_cases hcl : ∃ f args, op = .call f args
  · obtain ⟨f, args, rfl⟩ := hcl
    have h' : sCall f (args.map EO.of) (pthO dst) call es = some es' := h
    unfold sCall at h'
    rw [evL_eq] at h'
    obtain ⟨d, hp, nx, h1, h2⟩ := doCall_ok h'
    obtain ⟨g1, g2, g3⟩ := hcallM h1 h2
    exact ⟨d, g1, g2, g3⟩
  · by_cases hcv : ∃ tb x args, op = .cv tb x args
    · obtain ⟨tb, x, args, rfl⟩ := hcv
      have h' : sCf tb (.of x) (args.map EO.of) (pthO dst) call es = some es' := h
      unfold sCf at h'
      rw [evE_eq, evL_eq] at h'
      obtain ⟨⟨f, fr, cs⟩, hf, h'⟩ := optR h'
      have h'' : doCall (.fn f) (appL fr (appL (args.map es.ds.rv) cs)) (pthO dst) call es = some es' := h'
      rw [appL_eq, appL_eq, ← List.append_assoc] at h''
      obtain ⟨d, hp, nx, h1, h2⟩ := doCall_ok h''
      obtain ⟨g1, g2, g3⟩ := hcallM h1 h2
      exact ⟨d, g1, g2, f, fr, cs, hf, g3⟩
    · by_cases hnx : ∃ k x, op = .nxm k x
      · obtain ⟨k, x, rfl⟩ := hnx
        cases h
      · have hn2 : ∀ f args, op ≠ .call f args := fun f args e => hcl ⟨f, args, e⟩
        have hn3 : ∀ tb x args, op ≠ .cv tb x args := fun tb x args e => hcv ⟨tb, x, args, e⟩
        have hn4 : ∀ k x, op ≠ .nxm k x := fun k x e => hnx ⟨k, x, e⟩
        have he : stepF (pthO dst) op = stepE (pthO dst) op := by
          unfold stepF
          split
          · exact absurd rfl (hn3 _ _ _)
          · exact absurd rfl (hn4 _ _)
          · rfl
        rw [he] at h
        have hex := stepE_ex hn2 hn3 hn4 h
        obtain ⟨d, g1, g2⟩ := hex.main (P := P) hn2 hn3
        exact ⟨d, hex.gw hfr, g1, g2⟩

/-- The references of what an operation's operands hold. -/
def opRefs (s : DS) (o : DOp) (id : Nat) : Prop := ∃ t, .tmp t ∈ o.opnds ∧ id ∈ (s.sv t).refs
theorem refsL_mem (es : ES) (o : DOp) (id : Nat) : id ∈ refsL es ((opTmps o).map pth) ↔ opRefs es.ds o id := by
  have key : ∀ l : List Nat, id ∈ refsL es (l.map pth) ↔ ∃ t ∈ l, id ∈ (es.ds.sv t).refs := by
    intro l
    induction l with
    | nil => exact ⟨fun h => (by cases h), fun ⟨t, h, _⟩ => (by cases h)⟩
    | cons t l ih =>
      have e : refsL es ((t :: l).map pth) = appL (refsE (rawE es (.t (pth t)))) (refsL es (l.map pth)) := rfl
      rw [e, appL_eq, refsE_eq, rawE_t, List.mem_append, ih]
      constructor
      · rintro (h | ⟨u, hu, h⟩)
        · exact ⟨t, by simp, h⟩
        · exact ⟨u, by simp [hu], h⟩
      · rintro ⟨u, hu, h⟩
        rcases List.mem_cons.1 hu with rfl | hu
        · exact .inl h
        · exact .inr ⟨u, hu, h⟩
  rw [key]
  unfold opRefs opTmps
  constructor
  · rintro ⟨t, ht, h⟩
    obtain ⟨x, hx, hxt⟩ := List.mem_filterMap.1 ht
    cases x <;> simp at hxt
    subst hxt
    exact ⟨_, hx, h⟩
  · rintro ⟨t, ht, h⟩
    exact ⟨t, List.mem_filterMap.2 ⟨_, ht, rfl⟩, h⟩

def okRefP (n0 m : Nat) (an : List Nat) (s : DS) (id : Nat) : Prop := (s.ho id).isSome = true ∧ (id < n0 ∨ n0 + m ≤ id ∨ an.contains (id - n0) = true)
theorem okRef_ok {n0 m : Nat} {an : List Nat} {es : ES} {id : Nat} (h : okRef n0 m an es.hp id = true) : okRefP n0 m an es.ds id := by
  unfold okRef at h
  simp only [iteB_eq, someB_eq, gN_eq] at h
  split at h
  · rename_i h1
    refine ⟨h1, ?_⟩
    split at h
    · rename_i h2; exact .inl (by simpa [Nat.blt_eq] using h2)
    · split at h
      · rename_i h3; exact .inr (.inl (by simpa [Nat.ble_eq] using h3))
      · exact .inr (.inr h)
  · cases h

theorem strikeL_ho (n0 : Nat) : ∀ (js : List Nat) (hp : Tr DObj), (strikeL n0 hp js).get = fun id => if ∃ j ∈ js, id = n0 + j then none else hp.get id
  | [], hp => by funext id; simp [strikeL]
  | j :: js, hp => by
    funext id
    simp only [strikeL]
    rw [strikeL_ho n0 js, Tr.set_ho]
    by_cases h1 : ∃ j ∈ js, id = n0 + j
    · simp only [h1, if_true]
      rw [if_pos]
      obtain ⟨x, hx, e⟩ := h1
      exact ⟨x, by simp [hx], e⟩
    · simp only [h1, if_false, setH]
      by_cases h2 : id = n0 + j
      · rw [if_pos h2, if_pos ⟨j, by simp, h2⟩]
      · rw [if_neg h2, if_neg]
        rintro ⟨x, hx, e⟩
        rcases List.mem_cons.1 hx with rfl | hx
        · exact h2 e
        · exact h1 ⟨x, hx, e⟩
theorem backL_ho (n0 : Nat) (old : Tr DObj) : ∀ (js : List Nat) (hp : Tr DObj), (backL n0 old hp js).get = fun id => if ∃ j ∈ js, id = n0 + j then old.get id else hp.get id
  | [], hp => by funext id; simp [backL]
  | j :: js, hp => by
    funext id
    simp only [backL]
    rw [backL_ho n0 old js, Tr.set_ho]
    by_cases h1 : ∃ j ∈ js, id = n0 + j
    · simp only [h1, if_true]
      rw [if_pos]
      obtain ⟨x, hx, e⟩ := h1
      exact ⟨x, by simp [hx], e⟩
    · simp only [h1, if_false, setH]
      by_cases h2 : id = n0 + j
      · rw [if_pos h2, if_pos ⟨j, by simp, h2⟩, h2]
      · rw [if_neg h2, if_neg]
        rintro ⟨x, hx, e⟩
        rcases List.mem_cons.1 hx with rfl | hx
        · exact h2 e
        · exact h1 ⟨x, hx, e⟩

/-- What a step of the region has done. -/
inductive Sem (P : Program) (n0 m i : Nat) (r : DR) (o : OI) (δ δ' : DSt) (ρ : Rec) : Prop
  | off (hw : δ.es.ds.wanted r.g = some false) (hd : ρ.d = .v undef) (hl : ρ.lay = none) (ht : ρ.tgt = none) (hm : ρ.mn = false) (he : δ'.es.ds = δ.es.ds.put r.dst (.v undef)) (hlo : δ'.lo = δ.lo) (hws : δ'.ws = δ.ws) (hps : δ'.ps = δ.ps)
  | read (hw : δ.es.ds.wanted r.g = some true) (hrf : ∀ id, opRefs δ.es.ds r.op id → okRefP n0 m o.an δ.es.ds id) (hx : execU (n0 + i) δ.es.ds r.op = some (ρ.d, .keep))
      (hl : ρ.lay = none) (ht : ρ.tgt = none) (hm : ρ.mn = false) (he : δ'.es.ds = δ.es.ds.put r.dst ρ.d) (hlo : δ'.lo = δ.lo) (hws : ∀ w ∈ δ.ws, w ∈ δ'.ws) (hlk : o.wide = true → ∀ id, opRefs δ.es.ds r.op id → ⟨i, o.an, id, δ.lo.contains (id - n0), r.op.rdC⟩ ∈ δ'.ws) (hps : δ'.ps = δ.ps)
  | lay (ob : DObj) (hw : δ.es.ds.wanted r.g = some true) (hrf : ∀ id, opRefs δ.es.ds r.op id → okRefP n0 m o.an δ.es.ds id) (hx : execU (n0 + i) δ.es.ds r.op = some (ρ.d, .lay ob))
      (hl : ρ.lay = some ob) (ht : ρ.tgt = none) (hm : ρ.mn = false) (he : δ'.es.ds = (⟨δ.es.ds.sv, setH δ.es.ds.ho (n0 + i) (some ob), δ.es.ds.nx⟩ : DS).put r.dst ρ.d) (hlo : δ'.lo = i :: δ.lo) (hws : ∀ w ∈ δ.ws, w ∈ δ'.ws) (hlk : o.wide = true → ∀ id, opRefs δ.es.ds r.op id → ⟨i, o.an, id, δ.lo.contains (id - n0), r.op.rdC⟩ ∈ δ'.ws) (hps : δ'.ps = δ.ps)
  | wr (ob : DObj) (hw : δ.es.ds.wanted r.g = some true) (hc : o.cls ≠ 0 ∧ o.cls ≠ 1 ∧ o.cls ≠ 2) (hrf : ∀ id, opRefs δ.es.ds r.op id → okRefP n0 m o.an δ.es.ds id) (hx : execU (n0 + i) δ.es.ds r.op = some (ρ.d, .wr (n0 + o.tgt) ob))
      (hal : ∀ id, opRefs δ.es.ds r.op id → id = n0 + o.tgt) (hlt : o.tgt ∈ δ.lo) (han : o.an.contains o.tgt = true)
      (hl : ρ.lay = none) (ht : ρ.tgt = some o.tgt) (hob : ρ.ob = ob) (hm : ρ.mn = false) (he : δ'.es.ds = (⟨δ.es.ds.sv, setH δ.es.ds.ho (n0 + o.tgt) (some ob), δ.es.ds.nx⟩ : DS).put r.dst ρ.d) (hlo : δ'.lo = δ.lo) (hws : δ'.ws = δ.ws) (hps : δ'.ps = δ.ps)
  | main (hid : List Nat) (hs : DS) (hhid : hid = δ.lo.filter fun j => !o.an.contains j) (hhs : hs = ⟨δ.es.ds.sv, (fun id => if ∃ j ∈ hid, id = n0 + j then none else δ.es.ds.ho id), δ.es.ds.nx⟩) (hw : δ.es.ds.wanted r.g = some true) (hc : o.cls = 2) (hrf : ∀ id, opRefs δ.es.ds r.op id → okRefP n0 m o.an δ.es.ds id)
      (hx : MainOK P r.op hs ρ.d ρ.H ρ.N) (hg : Gw hs ⟨δ.es.ds.sv, ρ.H, ρ.N⟩)
      (hl : ρ.lay = none) (ht : ρ.tgt = none) (hm : ρ.mn = true) (he : δ'.es.ds = (⟨δ.es.ds.sv, (fun id => if ∃ j ∈ hid, id = n0 + j then δ.es.ds.ho id else ρ.H id), ρ.N⟩ : DS).put r.dst ρ.d) (hlo : δ'.lo = hid) (hws : δ'.ws = δ.ws) (hps : δ'.ps = ⟨i, o.an, δ.es.hp, δ'.es.hp⟩ :: δ.ps)

theorem Fr_strike {s : DS} (h : s.Fr) (f : Nat → Prop) [DecidablePred f] : (⟨s.sv, (fun id => if f id then none else s.ho id), s.nx⟩ : DS).Fr := fun id hi => by
  show (if f id then none else s.ho id) = none
  split
  · rfl
  · exact h id hi

theorem put_eq (s : DS) (dst : Option Nat) (d : DV) : s.put dst d = ⟨(s.put dst d).sv, s.ho, s.nx⟩ := by cases dst <;> rfl
theorem put_sv {s t : DS} (h : s.sv = t.sv) (dst : Option Nat) (d : DV) : (s.put dst d).sv = (t.put dst d).sv := by cases dst <;> simp [DS.put, h]
theorem ds_eq (es : ES) : es.ds = ⟨es.ds.sv, es.hp.get, es.nx⟩ := rfl

theorem xKeep_ok {x : XU} {nid : Nat} {es : ES} {d : DV} (h : xKeep x nid es = some d) : x es nid = some (d, .keep) := by
  obtain ⟨⟨d', u⟩, h1, h2⟩ := optR h
  cases u with
  | keep => have h3 : some d' = some d := h2; cases h3; exact h1
  | _ => cases h2
theorem lookE_mem {i n0 : Nat} {an : List Nat} {wide c : Bool} {refs lo : List Nat} {ws : List Look} : (∀ w ∈ ws, w ∈ lookE i an wide c refs n0 lo ws) ∧ (wide = true → ∀ id ∈ refs, (⟨i, an, id, lo.contains (id - n0), c⟩ : Look) ∈ lookE i an wide c refs n0 lo ws) := by
  unfold lookE
  rw [iteB_eq, appL_eq, mapL_eq]
  constructor
  · intro w hw
    split
    · simp [hw]
    · exact hw
  · intro h id hid
    rw [if_pos h]
    exact List.mem_append_left _ (List.mem_map.2 ⟨id, hid, rfl⟩)

theorem dstp_sem {P : Program} {call : CallT} (hc : CallOK P call) {n0 m i : Nat} {r : DR} {o : OI} {δ δ' : DSt} (hfr : δ.es.ds.Fr) (hw : δ.es.ds.wanted r.g = some true) (h : dstp i r o call n0 m δ = some δ') : ∃ ρ, Sem P n0 m i r o δ δ' ρ := by
  unfold dstp dChk at h
  obtain ⟨h1, h⟩ := iteB_some h
  rw [allL_eq] at h1
  have hrf : ∀ id, opRefs δ.es.ds r.op id → okRefP n0 m o.an δ.es.ds id := fun id hid => okRef_ok (List.all_eq_true.1 h1 id ((refsL_mem _ _ _).2 hid))
  obtain ⟨es, lo, ws, ps⟩ := δ
  obtain ⟨sl, hp, nx⟩ := es
  have h4c : o.cls = 2 ∨ o.cls = 0 ∨ o.cls = 1 ∨ ∃ n, o.cls = n + 3 := by
    rcases Nat.lt_or_ge o.cls 3 with h | h
    · omega
    · exact .inr (.inr (.inr ⟨o.cls - 3, by omega⟩))
  rcases h4c with hcls | hcls | hcls | ⟨n, hcls⟩
  · rw [hcls] at h
    replace h : dMain i o.an (stepF (pthO r.dst) r.op) call n0 m ⟨⟨sl, hp, nx⟩, lo, ws, ps⟩ = some δ' := h
    unfold dMain at h
    have h' : forceL (lo.filter fun j => !o.an.contains j) (fun hid => Option.rec (motive := fun _ => Option DSt) none (fun es' => es'.cs fun sl' hp' nx' => iteB (Nat.ble nx nx') (some ⟨⟨sl', backL n0 hp hp' hid, nx'⟩, hid, ws, ⟨i, o.an, hp, backL n0 hp hp' hid⟩ :: ps⟩) none) (stepF (pthO r.dst) r.op call ⟨sl, strikeL n0 hp hid, nx⟩)) = some δ' := h
    rw [forceL_eq] at h'
    obtain ⟨es', h2, h3⟩ := optR h'
    rw [cs_eq] at h3
    obtain ⟨_, h4⟩ := iteB_some h3
    cases h4
    have hds : (⟨sl, strikeL n0 hp (lo.filter fun j => !o.an.contains j), nx⟩ : ES).ds = ⟨(ES.mk sl hp nx).ds.sv, (fun id => if ∃ j ∈ (lo.filter fun j => !o.an.contains j), id = n0 + j then none else (ES.mk sl hp nx).ds.ho id), (ES.mk sl hp nx).ds.nx⟩ := by
      rw [ds_eq, strikeL_ho]; rfl
    obtain ⟨d, g1, g2, g3⟩ := stepF_ok hc h2 (by rw [hds]; exact Fr_strike hfr _)
    rw [hds] at g1 g2 g3
    refine ⟨⟨d, none, none, .row 0 [], true, es'.ds.ho, es'.ds.nx⟩, .main _ _ rfl rfl hw hcls hrf g3 (g1.congr rfl rfl rfl rfl) rfl rfl rfl ?_ rfl rfl rfl⟩
    rw [ds_eq, backL_ho]
    rw [put_eq]
    have e : (ES.mk es'.sl (backL n0 hp es'.hp (lo.filter fun j => !o.an.contains j)) es'.nx).ds.sv = es'.ds.sv := rfl
    rw [e, g2]
    congr 1
    exact put_sv (by rfl) _ _
  · rw [hcls] at h
    replace h : dRead i o.an o.wide r.op.rdC (pthO r.dst) (match r.op with
      | .mv x => fun _ es => some (rawE es (.of x))
      | op => match xopP op with
        | some x => fun _ => x
        | none => xKeep (xopU op)) ((opTmps r.op).map pth) call n0 m ⟨⟨sl, hp, nx⟩, lo, ws, ps⟩ = some δ' := h
    unfold dRead at h
    obtain ⟨v, h2, h3⟩ := optR h
    have h4 : some (⟨(ES.mk sl hp nx).putE (pthO r.dst) v, lo, lookE i o.an o.wide r.op.rdC (refsL ⟨sl, hp, nx⟩ ((opTmps r.op).map pth)) n0 lo ws, ps⟩ : DSt) = some δ' := h3
    cases h4
    have hx : execU (n0 + i) (ES.mk sl hp nx).ds r.op = some (v, .keep) := by
      by_cases hmv : ∃ x, r.op = .mv x
      · obtain ⟨x, ho⟩ := hmv
        rw [ho] at h2
        have h5 : some (rawE ⟨sl, hp, nx⟩ (.of x)) = some v := h2
        cases h5
        rw [rawE_eq, ho]; rfl
      · have hother : (match r.op with
          | .mv x => fun _ es => some (rawE es (.of x))
          | op => match xopP op with
            | some x => fun _ => x
            | none => xKeep (xopU op) : Nat → XP) = match xopP r.op with
            | some x => fun _ => x
            | none => xKeep (xopU r.op) := by
          generalize r.op = op at hmv
          cases op <;> first | rfl | (exact absurd ⟨_, rfl⟩ hmv)
        rw [hother] at h2
        cases hx : xopP r.op with
        | some x => rw [hx] at h2; exact xopP_ok hx h2 _
        | none => rw [hx] at h2; exact xopU_ok (xKeep_ok h2)
    obtain ⟨w1, w2⟩ := @lookE_mem i n0 o.an o.wide r.op.rdC (refsL ⟨sl, hp, nx⟩ ((opTmps r.op).map pth)) lo ws
    exact ⟨⟨v, none, none, .row 0 [], false, fun _ => none, 0⟩, .read hw hrf hx rfl rfl rfl (putE_ds _ _ _) rfl w1 (fun hwd id hid => w2 hwd id ((refsL_mem _ _ _).2 hid)) rfl⟩
  · rw [hcls] at h
    replace h : dLay i o.an o.wide r.op.rdC (pthO r.dst) (xopU r.op) ((opTmps r.op).map pth) call n0 m ⟨⟨sl, hp, nx⟩, lo, ws, ps⟩ = some δ' := h
    unfold dLay at h
    have h' : forceN (n0 + i) (fun nid => Option.rec (motive := fun _ => Option DSt) none (fun p => Upd.casesOn (motive := fun _ => Option DSt) p.2 none
      (fun ob => some ⟨(ES.mk sl (setN hp nid (some ob)) nx).putE (pthO r.dst) p.1, i :: lo, lookE i o.an o.wide r.op.rdC (refsL ⟨sl, hp, nx⟩ ((opTmps r.op).map pth)) n0 lo ws, ps⟩) (fun _ _ => none) (fun _ _ => none)) (xopU r.op ⟨sl, hp, nx⟩ nid)) = some δ' := h
    rw [forceN_eq] at h'
    obtain ⟨⟨d, u⟩, h2, h3⟩ := optR h'
    cases u with
    | lay ob =>
      have h4 : some (⟨(ES.mk sl (setN hp (n0 + i) (some ob)) nx).putE (pthO r.dst) d, i :: lo, lookE i o.an o.wide r.op.rdC (refsL ⟨sl, hp, nx⟩ ((opTmps r.op).map pth)) n0 lo ws, ps⟩ : DSt) = some δ' := h3
      cases h4
      obtain ⟨w1, w2⟩ := @lookE_mem i n0 o.an o.wide r.op.rdC (refsL ⟨sl, hp, nx⟩ ((opTmps r.op).map pth)) lo ws
      refine ⟨⟨d, some ob, none, .row 0 [], false, fun _ => none, 0⟩, .lay ob hw hrf (xopU_ok h2) rfl rfl rfl ?_ rfl w1 (fun hwd id hid => w2 hwd id ((refsL_mem _ _ _).2 hid)) rfl⟩
      show (ES.putE _ _ _).ds = _
      rw [putE_ds, ds_eq]
      show (DS.mk _ (setN hp (n0 + i) (some ob)).get nx).put _ _ = _
      rw [setN_ho]; rfl
    | _ => cases h3
  · rw [hcls] at h
    replace h : dWr i o.an o.tgt (pthO r.dst) (xopU r.op) ((opTmps r.op).map pth) call n0 m ⟨⟨sl, hp, nx⟩, lo, ws, ps⟩ = some δ' := h
    unfold dWr at h
    obtain ⟨⟨d, u⟩, h2, h3⟩ := optR h
    cases u with
    | wr id ob =>
      have h4 : iteB (Nat.beq id (n0 + o.tgt) && lo.contains o.tgt && o.an.contains o.tgt && allL (refsL ⟨sl, hp, nx⟩ ((opTmps r.op).map pth)) (fun r => Nat.beq r (n0 + o.tgt))) (some (⟨(ES.mk sl (setN hp id (some ob)) nx).putE (pthO r.dst) d, lo, ws, ps⟩ : DSt)) none = some δ' := h3
      obtain ⟨h5, h6⟩ := iteB_some h4
      simp only [Bool.and_eq_true, allL_eq] at h5
      obtain ⟨⟨⟨e1, e2⟩, e3⟩, e4⟩ := h5
      have e1 : id = n0 + o.tgt := Nat.eq_of_beq_eq_true e1
      subst e1
      cases h6
      refine ⟨⟨d, none, some o.tgt, ob, false, fun _ => none, 0⟩, .wr ob hw ⟨by omega, by omega, by omega⟩ hrf (xopU_ok h2) (fun id hid => Nat.eq_of_beq_eq_true (List.all_eq_true.1 e4 id ((refsL_mem _ _ _).2 hid))) (by simpa using e2) e3 rfl rfl rfl rfl ?_ rfl rfl rfl⟩
      show (ES.putE _ _ _).ds = _
      rw [putE_ds, ds_eq]
      show (DS.mk _ (setN hp (n0 + o.tgt) (some ob)).get nx).put _ _ = _
      rw [setN_ho]; rfl
    | _ => cases h3

theorem dstpG_sem {P : Program} {call : CallT} (hc : CallOK P call) {n0 m i : Nat} {r : DR} {o : OI} {δ δ' : DSt} (hfr : δ.es.ds.Fr) (h : dstpG i r o call n0 m δ = some δ') : ∃ ρ, Sem P n0 m i r o δ δ' ρ := by
  unfold dstpG at h
  cases hg : r.g with
  | none =>
    rw [hg] at h
    exact dstp_sem hc hfr (by rw [hg]; rfl) h
  | some p =>
    obtain ⟨t, b⟩ := p
    rw [hg] at h
    simp only at h
    obtain ⟨c, h1, h2⟩ := optR h
    rw [wantE_eq] at h1
    cases c with
    | true => exact dstp_sem hc hfr (by rw [hg]; exact h1) h2
    | false =>
      have h3 : some (⟨δ.es.putE (pthO r.dst) (.v undef), δ.lo, δ.ws, δ.ps⟩ : DSt) = some δ' := h2
      cases h3
      exact ⟨⟨.v undef, none, none, .row 0 [], false, fun _ => none, 0⟩, .off (by rw [hg]; exact h1) rfl rfl rfl rfl (putE_ds _ _ _) rfl rfl rfl⟩
end Go.DD

/- The evaluator's regions that draw their order: the run in the text's order serves every order. -/
namespace Go.DD

/-! What the text says of a region. -/
def kdI (rs : List DR) (i : Nat) : Nat := ((rs[i]?).map fun r => if (mupTgt rs r.op).isSome then 3 else r.op.kind).getD 0
def tgtI (rs : List DR) (r : DR) : Nat := (mupTgt rs r.op).getD 0
def mainsI (rs : List DR) : List Nat := (List.range rs.length).filter fun i => kdI rs i == 2
theorem kd_le (rs : List DR) (i : Nat) : kdI rs i ≤ 3 := by
  unfold kdI
  cases rs[i]? with
  | none => simp
  | some r =>
    simp only [Option.map_some, Option.getD_some]
    split
    · omega
    · have : r.op.kind ≤ 2 := by cases r.op <;> simp [DOp.kind]
      omega
theorem kd_get (rs : List DR) (i : Nat) : (((List.range rs.length).map (kdI rs))[i]?).getD 0 = kdI rs i := by
  by_cases h : i < rs.length
  · simp [h]
  · simp [h, kdI]
def okI (rs : List DR) : Bool :=
    (rs.zipIdx.all fun (r, i) => (r.pre.all fun j => decide (j < i)) &&
      (match r.dst with | some t => dstIx rs t == some i | none => true) &&
      r.tmps.all fun t => match dstIx rs t with | some p => anB rs i p || anB rs p i || p == i | none => true) &&
    ((mainsI rs).all fun b => (mainsI rs).all fun a => !(decide (a < b)) || anB rs b a) &&
    ((rs.zipIdx.map fun (r, i) => { an := anR rs i, cls := kdI rs i, tgt := tgtI rs r, wide := (mainsI rs).any fun q => !anB rs q i && !anB rs i q : OI }).zipIdx.all fun (o, w) => o.cls != 3 || (anB rs w o.tgt && (List.range rs.length).all fun i => !anB rs i o.tgt || anB rs i w || anB rs w i || w == i))
theorem info_eq (rs : List DR) : regInfo rs = { l := rs.zipIdx.map fun (r, i) => { an := anR rs i, cls := kdI rs i, tgt := tgtI rs r, wide := (mainsI rs).any fun q => !anB rs q i && !anB rs i q : OI }, ok := okI rs } := by
  have e : (fun i => (((List.range rs.length).map (kdI rs))[i]?).getD 0) = kdI rs := funext fun i => kd_get rs i
  have e' : ∀ i, (((List.range rs.length).map (kdI rs))[i]?).getD 0 = kdI rs i := kd_get rs
  have h : regInfo rs = (fun K : Nat → Nat => ({ l := rs.zipIdx.map fun (r, i) => { an := anR rs i, cls := K i, tgt := tgtI rs r, wide := ((List.range rs.length).filter fun i => K i == 2).any fun q => !anB rs q i && !anB rs i q : OI }, ok := 
    (rs.zipIdx.all fun (r, i) => (r.pre.all fun j => decide (j < i)) &&
      (match r.dst with | some t => dstIx rs t == some i | none => true) &&
      r.tmps.all fun t => match dstIx rs t with | some p => anB rs i p || anB rs p i || p == i | none => true) &&
    (((List.range rs.length).filter fun i => K i == 2).all fun b => ((List.range rs.length).filter fun i => K i == 2).all fun a => !(decide (a < b)) || anB rs b a) &&
    ((rs.zipIdx.map fun (r, i) => { an := anR rs i, cls := K i, tgt := tgtI rs r, wide := ((List.range rs.length).filter fun i => K i == 2).any fun q => !anB rs q i && !anB rs i q : OI }).zipIdx.all fun (o, w) => o.cls != 3 || (anB rs w o.tgt && (List.range rs.length).all fun i => !anB rs i o.tgt || anB rs i w || anB rs w i || w == i)) } : RI)) (fun i => (((List.range rs.length).map (kdI rs))[i]?).getD 0) := rfl
  rw [h, e]
  rfl
theorem info_get {rs : List DR} {i : Nat} {r : DR} (hr : rs[i]? = some r) : (regInfo rs).l[i]? = some { an := anR rs i, cls := kdI rs i, tgt := tgtI rs r, wide := (mainsI rs).any fun q => !anB rs q i && !anB rs i q : OI } := by
  rw [info_eq]
  simp [List.getElem?_map, List.getElem?_zipIdx, hr]
theorem info_len (rs : List DR) : (regInfo rs).l.length = rs.length := by rw [info_eq]; simp

theorem zipIdx_mem {α : Type} {l : List α} {i : Nat} {x : α} (h : l[i]? = some x) : (x, i) ∈ l.zipIdx := by
  rw [List.mem_zipIdx_iff_getElem?]; exact h
structure OkI (rs : List DR) : Prop where
  pre : ∀ (k : Nat) (r : DR), rs[k]? = some r → ∀ j ∈ r.pre, j < k
  dst : ∀ (i : Nat) (r : DR) (t : Nat), rs[i]? = some r → r.dst = some t → dstIx rs t = some i
  rd : ∀ (i : Nat) (r : DR) (t p : Nat), rs[i]? = some r → t ∈ r.tmps → dstIx rs t = some p → anB rs i p = true ∨ anB rs p i = true ∨ p = i
  ch : ∀ a b, a < rs.length → b < rs.length → kdI rs a = 2 → kdI rs b = 2 → a < b → anB rs b a = true
  wr : ∀ (w : Nat) (r : DR), rs[w]? = some r → kdI rs w = 3 → anB rs w (tgtI rs r) = true ∧ ∀ i, i < rs.length → anB rs i (tgtI rs r) = true → anB rs i w = true ∨ anB rs w i = true ∨ w = i
theorem okI_ok {rs : List DR} (h : (regInfo rs).ok = true) : OkI rs := by
  rw [info_eq] at h
  replace h : okI rs = true := h
  unfold okI at h
  rw [Bool.and_eq_true, Bool.and_eq_true] at h
  obtain ⟨⟨h1, h2⟩, h3⟩ := h
  have k1 : ∀ (i : Nat) (r : DR), rs[i]? = some r → _ := fun i r hr => List.all_eq_true.1 h1 (r, i) (zipIdx_mem hr)
  simp only [Bool.and_eq_true] at k1
  have hm : ∀ a, a < rs.length → kdI rs a = 2 → a ∈ mainsI rs := fun a h1 h2 => by simp [mainsI, h1, h2]
  refine ⟨fun k r hr j hj => ?_, fun i r t hr ht => ?_, fun i r t p hr ht hp => ?_, fun a b ha hb ka kb hlt => ?_, fun w r hr hk => ?_⟩
  · simpa using List.all_eq_true.1 (k1 k r hr).1.1 j hj
  · have := (k1 i r hr).1.2
    rw [ht] at this
    simpa using this
  · have := List.all_eq_true.1 (k1 i r hr).2 t ht
    rw [hp] at this
    simp only [Bool.or_eq_true, beq_iff_eq] at this
    rcases this with (h | h) | h
    · exact .inl h
    · exact .inr (.inl h)
    · exact .inr (.inr h)
  · have := List.all_eq_true.1 (List.all_eq_true.1 h2 b (hm b hb kb)) a (hm a ha ka)
    simpa [hlt] using this
  · have hl := info_get hr
    rw [info_eq] at hl
    have := List.all_eq_true.1 h3 _ (zipIdx_mem hl)
    simp only [hk, Bool.or_eq_true, Bool.and_eq_true] at this
    rcases this with h | ⟨h4, h5⟩
    · simp at h
    · refine ⟨h4, fun i hi hit => ?_⟩
      have := List.all_eq_true.1 h5 i (by simpa using hi)
      simp only [hit, Bool.not_true, Bool.false_or, Bool.or_eq_true, beq_iff_eq] at this
      rcases this with (h | h) | h
      · exact .inl h
      · exact .inr (.inl h)
      · exact .inr (.inr h)

theorem ancs_conv : ∀ (rs : List DR) (acc : List (List Nat)) (k : Nat) (r : DR) (l : List Nat), rs[k]? = some r → (∀ (k : Nat) (r : DR), rs[k]? = some r → ∀ j ∈ r.pre, j < acc.length + k) → (ancs rs acc)[acc.length + k]? = some l →
    ∀ x, (x ∈ r.pre ∨ ∃ j ∈ r.pre, ∃ l', (ancs rs acc)[j]? = some l' ∧ x ∈ l') → x ∈ l
  | [], acc, k, r, l, h, _, _ => by simp at h
  | r0 :: rs, acc, 0, r, l, h, hb, hl => by
    simp at h; subst h
    intro x hx
    have hl' : l = (r0.pre ++ r0.pre.flatMap fun j => (acc[j]?).getD []).eraseDups := by
      simp only [ancs] at hl
      rw [ancs_keep rs _ _ (by simp)] at hl
      simpa using hl.symm
    rw [hl', List.mem_eraseDups, List.mem_append]
    rcases hx with hx | ⟨j, hj, l', hl2, hx⟩
    · exact .inl hx
    · have hjl : j < acc.length := hb 0 r0 rfl j hj
      refine .inr (List.mem_flatMap.2 ⟨j, hj, ?_⟩)
      simp only [ancs] at hl2
      rw [ancs_keep rs _ j (by simp; omega), List.getElem?_append_left hjl] at hl2
      rw [hl2]; exact hx
  | r0 :: rs, acc, k + 1, r, l, h, hb, hl => by
    have key := ancs_conv rs (acc ++ [(r0.pre ++ r0.pre.flatMap fun j => (acc[j]?).getD []).eraseDups]) k r l (by simpa using h)
      (fun k' r' hr' j hj => by have := hb (k' + 1) r' (by simpa using hr') j hj; simp; omega)
      (by simp only [ancs] at hl; rw [← hl]; congr 1; simp; omega)
    simpa only [ancs] using key

section
variable {rs : List DR} (hI : OkI rs)

theorem an_get {i : Nat} {r : DR} (hr : rs[i]? = some r) : (ancs rs [])[i]? = some (anR rs i) := by
  have hil : i < (ancs rs []).length := by rw [ancs_len]; have := (List.getElem?_eq_some_iff.1 hr).1; simpa using this
  simp [anR, List.getElem?_eq_getElem hil]
include hI
theorem an_iff {i : Nat} {r : DR} (hr : rs[i]? = some r) (x : Nat) : anB rs i x = true ↔ x ∈ r.pre ∨ ∃ j ∈ r.pre, anB rs j x = true := by
  have hb : ∀ (k : Nat) (r : DR), rs[k]? = some r → ∀ j ∈ r.pre, j < ([] : List (List Nat)).length + k := fun k r' hk j hj => by have := hI.pre k r' hk j hj; simp; omega
  have hpre : ∀ j ∈ r.pre, ∃ rj, rs[j]? = some rj := fun j hj => by
    have h1 := hI.pre i r hr j hj
    have h2 := (List.getElem?_eq_some_iff.1 hr).1
    exact ⟨rs[j], List.getElem?_eq_getElem (by omega)⟩
  constructor
  · intro h
    rcases ancs_ok rs [] i r _ hr hb (by simpa using an_get hr) x (by simpa [anB] using h) with h | ⟨j, hj, l', hl', hx⟩
    · exact .inl h
    · exact .inr ⟨j, hj, by simp [anB, anR, hl', hx]⟩
  · intro h
    have := ancs_conv rs [] i r _ hr hb (by simpa using an_get hr) x (by
      rcases h with h | ⟨j, hj, h⟩
      · exact .inl h
      · obtain ⟨rj, hrj⟩ := hpre j hj
        exact .inr ⟨j, hj, _, an_get hrj, by simpa [anB] using h⟩)
    simpa [anB] using this
theorem an_lt {i j : Nat} (hi : i < rs.length) (h : anB rs i j = true) : j < i := by
  induction i using Nat.strongRecOn with
  | _ i ih =>
    have hr : rs[i]? = some rs[i] := List.getElem?_eq_getElem hi
    rcases (an_iff hI hr j).1 h with h | ⟨x, hx, h⟩
    · exact hI.pre i _ hr j h
    · have h1 := hI.pre i _ hr x hx
      have := ih x h1 (by omega) h
      omega
theorem an_trans {a b c : Nat} (ha : a < rs.length) (h1 : anB rs a b = true) (h2 : anB rs b c = true) : anB rs a c = true := by
  induction a using Nat.strongRecOn with
  | _ a ih =>
    have hr : rs[a]? = some rs[a] := List.getElem?_eq_getElem ha
    rcases (an_iff hI hr b).1 h1 with h | ⟨x, hx, h⟩
    · exact (an_iff hI hr c).2 (.inr ⟨b, h, h2⟩)
    · have hxl := hI.pre a _ hr x hx
      exact (an_iff hI hr c).2 (.inr ⟨x, hx, ih x hxl (by omega) h⟩)
end

/-! What is the same is equal. -/
theorem sameV_eq : ∀ {a b : Value}, sameV a b = true → a = b := by
  intro a b h
  unfold sameV at h
  split at h
  · simpa using h
  · simp only [Bool.and_eq_true, beq_iff_eq] at h; rw [h.1, h.2]
  · rename_i a b
    have h1 : a.data.toList = b.data.toList := by simpa using h
    have h2 : a.data = b.data := Array.toList_inj.1 h1
    obtain ⟨a⟩ := a; obtain ⟨b⟩ := b
    simp only at h2; rw [h2]
  · rfl
  · simp only [Bool.and_eq_true, beq_iff_eq] at h; rw [h.1, h.2]
  · rfl
  · rfl
  · rfl
  · cases h
theorem sameL_eq {f : DV → DV → Bool} (hf : ∀ a b, f a b = true → a = b) : ∀ {a b : List DV}, sameL f a b = true → a = b
  | [], [], _ => rfl
  | a :: as, b :: bs, h => by
    simp only [sameL, Bool.and_eq_true] at h
    rw [hf a b h.1, sameL_eq hf h.2]
  | [], _ :: _, h => by cases h
  | _ :: _, [], h => by cases h
theorem sameFn_eq {a b : Fn} (h : sameFn a b = true) : a = b := by
  unfold sameFn at h
  split at h
  · rw [beq_iff_eq.1 h]
  · cases h
theorem sameDV_eq : ∀ (n : Nat) (a b : DV), sameDV n a b = true → a = b
  | 0, _, _, h => by cases h
  | n + 1, a, b, h => by
    have ih := sameDV_eq n
    cases a <;> cases b <;> simp only [sameDV, Bool.and_eq_true, beq_iff_eq] at h <;> first
      | rfl
      | (cases h; done)
      | (rw [sameV_eq h]; done)
      | (rw [sameL_eq ih h]; done)
      | (rw [h.1, sameL_eq ih h.2]; done)
      | (rw [sameFn_eq h.1, sameL_eq ih h.2]; done)
      | (rw [h.1, ih _ _ h.2]; done)
      | (rw [h]; done)
      | (obtain ⟨⟨⟨h1, h2⟩, h3⟩, h4⟩ := h; rw [h1, h2, h3, h4]; done)
      | (obtain ⟨h1, h2⟩ := h; rw [h1, h2]; done)
theorem sameK_eq {a b : Value} (h : sameK' a b = true) : a = b := by
  unfold sameK' at h
  split at h
  · rename_i x y
    have key : ∀ l m : List Value, sameL (fun x y => match x, y with | .v x, .v y => sameV x y | _, _ => false) (l.map .v) (m.map .v) = true → l = m := by
      intro l
      induction l with
      | nil => intro m h; cases m with
        | nil => rfl
        | cons _ _ => simp [sameL] at h
      | cons u l ih => intro m h; cases m with
        | nil => simp [sameL] at h
        | cons v m =>
          simp only [List.map_cons, sameL, Bool.and_eq_true] at h
          rw [sameV_eq h.1, ih m h.2]
    rw [Array.toList_inj.1 (key _ _ h)]
  · exact sameV_eq h
theorem sameM_eq {n : Nat} : ∀ {a b : List ME}, sameM n a b = true → a = b
  | [], [], _ => rfl
  | ⟨k, v, c⟩ :: a, ⟨k', v', c'⟩ :: b, h => by
    simp only [sameM, Bool.and_eq_true, beq_iff_eq] at h
    obtain ⟨⟨⟨h1, h2⟩, h3⟩, h4⟩ := h
    rw [sameK_eq h1, sameDV_eq n _ _ h2, h3, sameM_eq h4]
  | [], _ :: _, h => by simp [sameM] at h
  | _ :: _, [], h => by simp [sameM] at h
theorem sameNs_eq : ∀ {a b : List Nat}, sameNs a b = true → a = b
  | [], [], _ => rfl
  | x :: a, y :: b, h => by
    simp only [sameNs, Bool.and_eq_true, beq_iff_eq] at h
    rw [h.1, sameNs_eq h.2]
  | [], _ :: _, h => by simp [sameNs] at h
  | _ :: _, [], h => by simp [sameNs] at h
theorem sameO_eq {a b : DObj} (h : sameO a b = true) : a = b := by
  unfold sameO at h
  split at h
  · simp only [Bool.and_eq_true, beq_iff_eq] at h
    rw [h.1, sameL_eq (sameDV_eq 6) h.2]
  · simp only [Bool.and_eq_true, beq_iff_eq] at h
    rw [h.1, sameM_eq h.2]
  · simp only [Bool.and_eq_true, beq_iff_eq] at h
    obtain ⟨⟨⟨h1, h2⟩, h3⟩, h4⟩ := h
    rw [sameDV_eq 2 _ _ h1, h2, sameNs_eq h3, h4]
  · cases h
theorem sameAt_eq {a b : Tr DObj} {id : Nat} (h : sameAt a b id = true) : a.get id = b.get id := by
  unfold sameAt at h
  split at h
  · rename_i h1 h2; rw [h1, h2, sameO_eq h]
  · cases h

/-! The run. -/
structure Run (P : Program) (rs : List DR) (s0 : DS) (Δ : Nat → DSt) (ρ : Nat → Rec) : Prop where
  ok : OkI rs
  fr : s0.Fr
  z : (Δ 0).es.ds = ⟨s0.sv, s0.ho, s0.nx + rs.length⟩
  lo0 : (Δ 0).lo = []
  sem : ∀ i r o, rs[i]? = some r → (regInfo rs).l[i]? = some o → Sem P s0.nx rs.length i r o (Δ i) (Δ (i + 1)) (ρ i)
  nil : ∀ i, rs.length ≤ i → ρ i = Rec.nil
  look : okLook s0.nx rs.length (Δ rs.length).ws (Δ rs.length).ps = true

theorem Sem.gw {P : Program} {n0 m i : Nat} {r : DR} {o : OI} {δ δ' : DSt} {ρ : Rec} (h : Sem P n0 m i r o δ δ' ρ) (hi : i < m) (hn : n0 + m ≤ δ.es.nx) : δ.es.nx ≤ δ'.es.nx ∧ ∀ id, δ.es.ds.ho id = none → δ'.es.ds.ho id ≠ none → n0 ≤ id ∧ id < δ'.es.nx := by
  have nxe : ∀ {s : DS} {d : DV}, δ'.es.ds = s.put r.dst d → δ'.es.nx = s.nx ∧ δ'.es.ds.ho = s.ho := fun {s d} h => by
    have h1 : δ'.es.ds.nx = s.nx := by rw [h, DS.nx_put]
    exact ⟨h1, by rw [h, DS.ho_put]⟩
  have nxd : δ.es.ds.nx = δ.es.nx := rfl
  cases h with
  | off hw hd hl ht hm he hlo hws hps =>
    obtain ⟨e1, e2⟩ := nxe he
    rw [e1, e2]
    exact ⟨Nat.le_refl _, fun id h1 h2 => absurd h1 h2⟩
  | read hw hrf hx hl ht hm he hlo hws hlk hps =>
    obtain ⟨e1, e2⟩ := nxe he
    rw [e1, e2]
    exact ⟨Nat.le_refl _, fun id h1 h2 => absurd h1 h2⟩
  | lay ob hw hrf hx hl ht hm he hlo hws hlk hps =>
    obtain ⟨e1, e2⟩ := nxe he
    rw [e1, e2]
    refine ⟨Nat.le_refl _, fun id h1 h2 => ?_⟩
    simp only [setH] at h2
    split at h2
    · show n0 ≤ id ∧ id < δ.es.nx; omega
    · exact absurd h1 h2
  | wr ob hw hc hrf hx hal hlt han hl ht hob hm he hlo hws hps =>
    obtain ⟨e1, e2⟩ := nxe he
    rw [e1, e2]
    refine ⟨Nat.le_refl _, fun id h1 h2 => ?_⟩
    simp only [setH] at h2
    split at h2
    · rename_i e
      have := execU_hasU hx
      simp only [DS.hasU] at this
      rw [e] at h1; rw [h1] at this; cases this
    · exact absurd h1 h2
  | main hid hs hhid hhs hw hc hrf hx hg hl ht hm he hlo hws hps =>
    obtain ⟨e1, e2⟩ := nxe he
    rw [e1, e2]
    have hle : δ.es.nx ≤ ρ.N := by have := hg.le; rw [hhs] at this; exact this
    refine ⟨hle, fun id h1 h2 => ?_⟩
    simp only at h2
    split at h2
    · exact absurd h1 h2
    · rename_i hnh
      have := hg.new id (by rw [hhs]; simp only; rw [if_neg hnh]; exact h1) h2
      rw [hhs] at this
      have h3 : δ.es.nx ≤ id ∧ id < ρ.N := this
      exact ⟨by omega, h3.2⟩
theorem Sem.fr {P : Program} {n0 m i : Nat} {r : DR} {o : OI} {δ δ' : DSt} {ρ : Rec} (h : Sem P n0 m i r o δ δ' ρ) (hi : i < m) (hn : n0 + m ≤ δ.es.nx) (hfr : δ.es.ds.Fr) : δ'.es.ds.Fr := fun id hid => by
  obtain ⟨h1, h2⟩ := h.gw hi hn
  have hid' : δ'.es.nx ≤ id := hid
  cases h4 : δ'.es.ds.ho id with
  | none => rfl
  | some o =>
    have := h2 id (hfr id (by show δ.es.nx ≤ id; omega)) (by rw [h4]; simp)
    omega

theorem run_trace {P : Program} {call : CallT} (hc : CallOK P call) {n0 m : Nat} : ∀ (rs : List DR) (os : List OI) (i : Nat) (δ δ' : DSt), rs.length = os.length → i + rs.length ≤ m → rundE rs os i call n0 m δ = some δ' → δ.es.ds.Fr → n0 + m ≤ δ.es.nx →
    ∃ (Δ : Nat → DSt) (ρ : Nat → Rec), Δ 0 = δ ∧ Δ rs.length = δ' ∧ ∀ j r o, rs[j]? = some r → os[j]? = some o → Sem P n0 m (i + j) r o (Δ j) (Δ (j + 1)) (ρ j)
  | [], os, i, δ, δ', hl, hm, h, hfr, hn => by
    have h3 : some δ = some δ' := by
      cases os <;> exact h
    cases h3
    exact ⟨fun _ => δ, fun _ => Rec.nil, rfl, rfl, fun j r o hr => by simp at hr⟩
  | r :: rs, [], i, δ, δ', hl, hm, h, hfr, hn => by simp at hl
  | r :: rs, o :: os, i, δ, δ', hl, hm, h, hfr, hn => by
    have h' : dq (dstpG i r o) (rundE rs os (i + 1)) call n0 m δ = some δ' := h
    obtain ⟨δ1, h1, h2⟩ := optR h'
    obtain ⟨ρ0, hs⟩ := dstpG_sem hc hfr h1
    have him : i < m := by simp at hm; omega
    obtain ⟨g1, _⟩ := hs.gw him hn
    obtain ⟨Δ, ρ, e1, e2, e3⟩ := run_trace hc rs os (i + 1) δ1 δ' (by simpa using hl) (by simp at hm; omega) h2 (hs.fr him hn hfr) (by omega)
    refine ⟨fun j => match j with | 0 => δ | j + 1 => Δ j, fun j => match j with | 0 => ρ0 | j + 1 => ρ j, rfl, e2, fun j r' o' hr ho => ?_⟩
    cases j with
    | zero =>
      simp at hr ho
      subst hr; subst ho
      show Sem P n0 m (i + 0) r o δ (Δ 0) ρ0
      rw [e1]; exact hs
    | succ j =>
      have := e3 j r' o' (by simpa using hr) (by simpa using ho)
      rw [show i + (j + 1) = i + 1 + j by omega]
      exact this

theorem run_of {P : Program} {call : CallT} (hc : CallOK P call) {rs : List DR} {es es' : ES} (hok : (regInfo rs).ok = true) (h : regE rs.length (rundE rs (regInfo rs).l 0) call es = some es') (hfr : es.ds.Fr) : ∃ Δ ρ, Run P rs es.ds Δ ρ ∧ (Δ rs.length).es = es' := by
  unfold regE at h
  obtain ⟨δ', h1, h2⟩ := optR h
  obtain ⟨h3, h4⟩ := iteB_some h2
  cases h4
  rw [cs_eq, forceN_eq] at h1
  obtain ⟨Δ, ρ, e1, e2, e3⟩ := run_trace hc rs (regInfo rs).l 0 _ _ (info_len rs).symm (by omega) h1 (fun id hid => hfr id (by
    have : es.nx + rs.length ≤ id := hid
    show es.nx ≤ id; omega)) (Nat.le_refl _)
  refine ⟨Δ, fun i => if i < rs.length then ρ i else Rec.nil, ⟨okI_ok hok, hfr, by rw [e1]; rfl, by rw [e1], fun i r o hr ho => ?_, fun i hi => if_neg (by omega), by rw [e2]; exact h3⟩, by rw [e2]⟩
  have := e3 i r o hr ho
  rw [Nat.zero_add] at this
  rw [if_pos (List.getElem?_eq_some_iff.1 hr).1]
  exact this
end Go.DD

/- The evaluator's regions that draw their order, second part. -/
namespace Go.DD

def cnt (f : Nat → Bool) (i : Nat) : Nat := ((List.range i).filter f).length
theorem cnt_succ (f : Nat → Bool) (i : Nat) : cnt f (i + 1) = cnt f i + (if f i = true then 1 else 0) := by
  unfold cnt
  rw [List.range_succ, List.filter_append, List.length_append]
  congr 1
  by_cases h : f i = true
  · simp [h]
  · simp [h]
theorem cnt_mono (f : Nat → Bool) {i j : Nat} (h : i ≤ j) : cnt f i ≤ cnt f j := by
  induction h with
  | refl => exact Nat.le_refl _
  | step _ ih => rw [cnt_succ]; omega
theorem cnt_lt (f : Nat → Bool) {i j : Nat} (h : i < j) (hf : f i = true) : cnt f i < cnt f j := by
  have := cnt_mono f (Nat.succ_le_of_lt h)
  have h2 := cnt_succ f i
  rw [if_pos hf] at h2
  have : cnt f (i + 1) ≤ cnt f j := this
  omega
theorem filter_get (f : Nat → Bool) : ∀ (m k q : Nat), ((List.range m).filter f)[k]? = some q ↔ q < m ∧ f q = true ∧ cnt f q = k := by
  intro m
  induction m with
  | zero => intro k q; simp
  | succ m ih =>
    intro k q
    rw [List.range_succ, List.filter_append]
    rcases Nat.lt_or_ge k ((List.range m).filter f).length with h | h
    · rw [List.getElem?_append_left h, ih]
      constructor
      · rintro ⟨h1, h2, h3⟩; exact ⟨by omega, h2, h3⟩
      · rintro ⟨h1, h2, h3⟩
        refine ⟨?_, h2, h3⟩
        have : q ≠ m := fun e => by subst e; unfold cnt at h3; omega
        omega
    · rw [List.getElem?_append_right h]
      by_cases hm : f m = true
      · rw [List.filter_cons_of_pos hm, List.filter_nil]
        constructor
        · intro h1
          have hk : k = ((List.range m).filter f).length := by
            rcases Nat.lt_or_ge ((List.range m).filter f).length k with h2 | h2
            · rw [List.getElem?_eq_none (by simp; omega)] at h1; cases h1
            · omega
          subst hk
          simp at h1
          subst h1
          exact ⟨by omega, hm, rfl⟩
        · rintro ⟨h1, h2, h3⟩
          have hq : q = m := by
            rcases Nat.lt_or_ge q m with h4 | h4
            · have := cnt_lt f h4 h2
              have e : cnt f m = ((List.range m).filter f).length := rfl
              omega
            · omega
          subst hq
          have : k - ((List.range q).filter f).length = 0 := by unfold cnt at h3; omega
          rw [this]; rfl
      · rw [List.filter_cons_of_neg hm, List.filter_nil]
        constructor
        · intro h1; simp at h1
        · rintro ⟨h1, h2, h3⟩
          exfalso
          have hq : q ≠ m := fun e => hm (by rw [← e]; exact h2)
          have := cnt_lt f (show q < m by omega) h2
          have e : cnt f m = ((List.range m).filter f).length := rfl
          omega

def mkH (ρ : Nat → Rec) (h0 : Nat → Option DObj) (main : List Nat) : Nat → Nat → Option DObj
  | 0 => h0
  | k + 1 => match main[k]? with
    | some q => (ρ q).H
    | none => fun _ => none
def mkN (ρ : Nat → Rec) (n : Nat) (main : List Nat) : Nat → Nat
  | 0 => n
  | k + 1 => match main[k]? with
    | some q => (ρ q).N
    | none => mkN ρ n main k
def mkD (ρ : Nat → Rec) (s0 : DS) (m : Nat) : RG where
  d i := (ρ i).d
  lay i := (ρ i).lay
  tgt i := (ρ i).tgt
  ob i := (ρ i).ob
  main := (List.range m).filter fun i => (ρ i).mn
  H := mkH ρ s0.ho ((List.range m).filter fun i => (ρ i).mn)
  N := mkN ρ (s0.nx + m) ((List.range m).filter fun i => (ρ i).mn)
def kI (ρ : Nat → Rec) (i : Nat) : Nat := cnt (fun i => (ρ i).mn) i
def Lt (i : Nat) : Nat → Bool := fun j => decide (j < i)

section
variable {P : Program} {rs : List DR} {s0 : DS} {Δ : Nat → DSt} {ρ : Nat → Rec} (R : Run P rs s0 Δ ρ)
include R

omit R in
theorem main_get {q k m : Nat} : (mkD ρ s0 m).main[k]? = some q ↔ q < m ∧ (ρ q).mn = true ∧ kI ρ q = k := filter_get _ _ _ _
omit R in
theorem main_len {m : Nat} : (mkD ρ s0 m).main.length = kI ρ m := rfl
theorem semAt {i : Nat} {r : DR} (hr : rs[i]? = some r) : Sem P s0.nx rs.length i r { an := anR rs i, cls := kdI rs i, tgt := tgtI rs r, wide := (mainsI rs).any fun q => !anB rs q i && !anB rs i q : OI } (Δ i) (Δ (i + 1)) (ρ i) := R.sem i r _ hr (info_get hr)
theorem mn_cls {i : Nat} (hi : i < rs.length) (h : (ρ i).mn = true) : kdI rs i = 2 ∧ (ρ i).lay = none ∧ (ρ i).tgt = none := by
  have hr : rs[i]? = some rs[i] := List.getElem?_eq_getElem hi
  cases semAt R hr with
  | off hw hd hl ht hm he hlo hws hps => rw [hm] at h; cases h
  | read hw hrf hx hl ht hm he hlo hws hlk hps => rw [hm] at h; cases h
  | lay ob hw hrf hx hl ht hm he hlo hws hlk hps => rw [hm] at h; cases h
  | wr ob hw hc hrf hx hal hlt han hl ht hob hm he hlo hws hps => rw [hm] at h; cases h
  | main hid hs hhid hhs hw hc hrf hx hg hl ht hm he hlo hws hps => exact ⟨hc, hl, ht⟩
theorem tgt_wr {w j : Nat} (h : (ρ w).tgt = some j) : w < rs.length ∧ anB rs w j = true ∧ ∀ i, i < rs.length → anB rs i j = true → anB rs i w = true ∨ anB rs w i = true ∨ w = i := by
  rcases Nat.lt_or_ge w rs.length with hi | hi
  · have hr : rs[w]? = some rs[w] := List.getElem?_eq_getElem hi
    cases semAt R hr with
    | off hw hd hl ht hm he hlo hws hps => rw [ht] at h; cases h
    | read hw hrf hx hl ht hm he hlo hws hlk hps => rw [ht] at h; cases h
    | lay ob hw hrf hx hl ht hm he hlo hws hlk hps => rw [ht] at h; cases h
    | wr ob hw hc hrf hx hal hlt han hl ht hob hm he hlo hws hps =>
      rw [ht] at h
      have hj : tgtI rs rs[w] = j := Option.some.inj h
      have h3 : kdI rs w = 3 := by
        have h1 := kd_le rs w
        have h2 : kdI rs w ≠ 0 ∧ kdI rs w ≠ 1 ∧ kdI rs w ≠ 2 := hc
        omega
      have := R.ok.wr w _ hr h3
      rw [hj] at this
      exact ⟨hi, this⟩
    | main hid hs hhid hhs hw hc hrf hx hg hl ht hm he hlo hws hps => rw [ht] at h; cases h
  · rw [R.nil w hi] at h; cases h

theorem nx_at : ∀ i, i ≤ rs.length → (mkD ρ s0 rs.length).N (kI ρ i) = (Δ i).es.nx ∧ s0.nx + rs.length ≤ (Δ i).es.nx ∧ (Δ i).es.ds.Fr
  | 0, _ => by
    have e : (Δ 0).es.nx = s0.nx + rs.length := by have := congrArg DS.nx R.z; exact this
    refine ⟨by rw [e]; rfl, by rw [e]; omega, ?_⟩
    rw [R.z]
    intro id hid
    have : s0.nx + rs.length ≤ id := hid
    exact R.fr id (by omega)
  | i + 1, hi => by
    obtain ⟨h1, h2, h3⟩ := nx_at i (by omega)
    have hr : rs[i]? = some rs[i] := List.getElem?_eq_getElem (by omega)
    have hs := semAt R hr
    have hg := hs.gw (by omega) h2
    have hf := hs.fr (by omega) h2 h3
    refine ⟨?_, by omega, hf⟩
    have same : (ρ i).mn = false → (Δ (i + 1)).es.nx = (Δ i).es.nx → (mkD ρ s0 rs.length).N (kI ρ (i + 1)) = (Δ (i + 1)).es.nx := fun h4 h5 => by
      have : kI ρ (i + 1) = kI ρ i := by unfold kI; rw [cnt_succ]; simp [h4]
      rw [this, h1, h5]
    have nxe : ∀ {s : DS} {d : DV}, (Δ (i + 1)).es.ds = s.put rs[i].dst d → (Δ (i + 1)).es.nx = s.nx := fun {s d} h => by
      have h1 : (Δ (i + 1)).es.ds.nx = s.nx := by rw [h, DS.nx_put]
      exact h1
    cases hs with
    | off hw hd hl ht hm he hlo hws hps => exact same hm (nxe he)
    | read hw hrf hx hl ht hm he hlo hws hlk hps => exact same hm (nxe he)
    | lay ob hw hrf hx hl ht hm he hlo hws hlk hps => exact same hm (nxe he)
    | wr ob hw hc hrf hx hal hlt han hl ht hob hm he hlo hws hps => exact same hm (nxe he)
    | main hid hs hhid hhs hw hc hrf hx hg hl ht hm he hlo hws hps =>
      rw [nxe he]
      have e : kI ρ (i + 1) = kI ρ i + 1 := by unfold kI; rw [cnt_succ]; simp [hm]
      have hmg : ((List.range rs.length).filter fun i => (ρ i).mn)[kI ρ i]? = some i := (main_get (s0 := s0)).2 ⟨by omega, hm, rfl⟩
      rw [e]
      show mkN ρ _ _ _ = _
      simp only [mkN, hmg]

theorem run_oks : (mkD ρ s0 rs.length).OKs rs s0 where
  pre := R.ok.pre
  dst i j r r' t h1 h2 h3 h4 := by
    have e1 := R.ok.dst i r t h1 h3
    have e2 := R.ok.dst j r' t h2 h4
    rw [e1] at e2
    exact Option.some.inj e2
  rd := R.ok.rd
  chain a b i j h1 h2 h3 := by
    obtain ⟨g1, g2, g3⟩ := main_get.1 h1
    obtain ⟨f1, f2, f3⟩ := main_get.1 h2
    have hij : i < j := by
      rcases Nat.lt_or_ge i j with h | h
      · exact h
      · have : kI ρ j ≤ kI ρ i := cnt_mono _ h
        omega
    exact R.ok.ch i j g1 f1 (mn_cls R g1 g2).1 (mn_cls R f1 f2).1 hij
  mlt a i h := by
    obtain ⟨g1, g2, g3⟩ := main_get.1 h
    exact ⟨g1, (mn_cls R g1 g2).2⟩
  wr1 w j h := (tgt_wr R h).2.1
  wr2 i j w hi hw ha ht := (tgt_wr R ht).2.2 i hi ha
  h0 := rfl
  n0 := rfl
  mono k := by
    cases hm : (mkD ρ s0 rs.length).main[k]? with
    | none =>
      have hm' : ((List.range rs.length).filter fun i => (ρ i).mn)[k]? = none := hm
      show mkN ρ _ _ k ≤ mkN ρ _ _ (k + 1)
      simp only [mkN, hm']
      exact Nat.le_refl _
    | some q =>
      obtain ⟨g1, g2, g3⟩ := main_get.1 hm
      have e1 := nx_at R q (by omega)
      have e2 := nx_at R (q + 1) (by omega)
      have hr : rs[q]? = some rs[q] := List.getElem?_eq_getElem g1
      have := ((semAt R hr).gw g1 e1.2.1).1
      have ek : kI ρ (q + 1) = k + 1 := by
        have h5 := cnt_succ (fun i => (ρ i).mn) q
        rw [if_pos g2] at h5
        unfold kI at g3 ⊢
        omega
      rw [← ek, e2.1, ← g3, e1.1]
      exact this

/-- The state in the text's order. -/
structure Inv (P : Program) (rs : List DR) (s0 : DS) (Δ : Nat → DSt) (ρ : Nat → Rec) (i : Nat) : Prop where
  sv : (Δ i).es.ds.sv = (mkD ρ s0 rs.length).sv rs s0 (Lt i)
  ho : (Δ i).es.ds.ho = (mkD ρ s0 rs.length).full rs s0 (Lt i) (kI ρ i)
  lo : ∀ j, j ∈ (Δ i).lo ↔ j < i ∧ (ρ j).lay.isSome = true ∧ (mkD ρ s0 rs.length).pr rs (kI ρ i) j = false

theorem run_done {i : Nat} (hi : i ≤ rs.length) : Done rs (mkD ρ s0 rs.length) (Lt i) (kI ρ i) where
  cl i' h1 h2 j h3 := by
    have h4 := an_lt R.ok h1 h3
    simp only [Lt, decide_eq_true_eq] at h2 ⊢
    omega
  le := cnt_mono _ hi
  mn q j h := by
    obtain ⟨g1, g2, g3⟩ := main_get.1 h
    simp only [Lt, decide_eq_true_eq]
    constructor
    · intro h; rw [← g3]; exact cnt_lt _ h g2
    · intro h
      rcases Nat.lt_or_ge j i with h' | h'
      · exact h'
      · have : kI ρ i ≤ kI ρ j := cnt_mono _ h'
        omega

omit R in
theorem Lt_succ (i : Nat) (j : Nat) : Lt (i + 1) j = (j == i || Lt i j) := by
  unfold Lt
  by_cases h : j = i
  · subst h; simp
  · have : decide (j < i + 1) = decide (j < i) := by simp; omega
    rw [this, beq_eq_false_iff_ne.2 h, Bool.false_or]
theorem Lt_an {i : Nat} (hi : i < rs.length) (j : Nat) (h : anB rs i j = true) : Lt i j = true := by
  simp only [Lt, decide_eq_true_eq]; exact an_lt R.ok hi h
omit R in
theorem Lt_self (i : Nat) : Lt i i = false := by simp [Lt]

theorem pr_self {i k : Nat} (hk : k ≤ kI ρ i) : (mkD ρ s0 rs.length).pr rs k i = false := by
  unfold RG.pr
  rw [List.any_eq_false]
  intro q hq
  obtain ⟨p, hp, rfl⟩ := List.mem_iff_getElem.1 hq
  rw [List.length_take] at hp
  have hm : (mkD ρ s0 rs.length).main[p]? = some ((mkD ρ s0 rs.length).main.take k)[p] := by
    rw [List.getElem_take]; exact List.getElem?_eq_getElem (by omega)
  obtain ⟨g1, g2, g3⟩ := main_get.1 hm
  intro ha
  have h1 := an_lt R.ok g1 ha
  have h2 : kI ρ i < kI ρ ((mkD ρ s0 rs.length).main.take k)[p] ∨ kI ρ i ≤ kI ρ ((mkD ρ s0 rs.length).main.take k)[p] := .inr (cnt_mono _ (Nat.le_of_lt h1))
  omega

/-- The heap that one of the ordered operations sees. -/
theorem seen {i : Nat} (hi : i < rs.length) (I : Inv P rs s0 Δ ρ i) (id : Nat) : ((mkD ρ s0 rs.length).st rs s0 i (kI ρ i)).ho id = if ∃ j ∈ (Δ i).lo.filter (fun j => !(anR rs i).contains j), id = s0.nx + j then none else (Δ i).es.ds.ho id := by
  have hr : rs[i]? = some rs[i] := List.getElem?_eq_getElem hi
  have hv := full_view (D := mkD ρ s0 rs.length) (rs := rs) (s0 := s0) (L := Lt i) (k := kI ρ i) (run_oks R) (run_done R (by omega)) hr (Lt_self i) (Lt_an R hi) id
  show (mkD ρ s0 rs.length).full rs s0 (anB rs i) (kI ρ i) id = _
  rw [hv, I.ho]
  cases hu : (mkD ρ s0 rs.length).unp rs s0 (kI ρ i) id with
  | none =>
    rw [if_neg]
    rintro ⟨j, hj, e⟩
    rw [List.mem_filter, I.lo] at hj
    obtain ⟨⟨h1, h2, h3⟩, _⟩ := hj
    have : (mkD ρ s0 rs.length).unp rs s0 (kI ρ i) id = some j := by
      unfold RG.unp
      have e' : id - s0.nx = j := by omega
      rw [e', if_pos ⟨by omega, by omega, h2, h3⟩]
    rw [hu] at this; cases this
  | some j =>
    obtain ⟨e1, e2, e3, e4⟩ := unp_eq hu
    simp only
    by_cases ha : anB rs i j = true
    · rw [if_pos ha, if_neg]
      rintro ⟨j', hj, e⟩
      have : j' = j := by omega
      subst this
      have h1 := (List.mem_filter.1 hj).2
      have h2 : (anR rs i).contains j' = true := ha
      rw [h2] at h1; cases h1
    · rw [if_neg ha]
      rcases Nat.lt_or_ge j i with hji | hji
      · rw [if_pos]
        refine ⟨j, List.mem_filter.2 ⟨(I.lo j).2 ⟨hji, e3, e4⟩, ?_⟩, e1⟩
        have h2 : ¬ (anR rs i).contains j = true := ha
        simpa using h2
      · have hnone : (mkD ρ s0 rs.length).full rs s0 (Lt i) (kI ρ i) id = none := by
          unfold RG.full
          rw [hu]
          have : Lt i j = false := by simp [Lt]; omega
          simp [this]
        rw [hnone]
        split <;> rfl

theorem inv_step {i : Nat} (hi : i < rs.length) (I : Inv P rs s0 Δ ρ i) : Inv P rs s0 Δ ρ (i + 1) := by
  have hr : rs[i]? = some rs[i] := List.getElem?_eq_getElem hi
  have hOK := run_oks R
  have hD := run_done R (Nat.le_of_lt hi)
  have han := Lt_an R hi
  have hL' := Lt_succ i
  have hs := semAt R hr
  have kSame : (ρ i).mn = false → kI ρ (i + 1) = kI ρ i := fun h4 => by unfold kI; rw [cnt_succ]; simp [h4]
  have fin : ∀ {ho : Nat → Option DObj} {nx : Nat}, (Δ (i + 1)).es.ds = (⟨(Δ i).es.ds.sv, ho, nx⟩ : DS).put rs[i].dst (ρ i).d → ho = (mkD ρ s0 rs.length).full rs s0 (Lt (i + 1)) (kI ρ (i + 1)) →
      (∀ j, j ∈ (Δ (i + 1)).lo ↔ j < i + 1 ∧ (ρ j).lay.isSome = true ∧ (mkD ρ s0 rs.length).pr rs (kI ρ (i + 1)) j = false) → Inv P rs s0 Δ ρ (i + 1) := fun {ho nx} h1 h2 h3 => by
    obtain ⟨e1, e2⟩ := reg_put (D := mkD ρ s0 rs.length) (L := Lt i) (L' := Lt (i + 1)) hOK hr hL' (kI ρ (i + 1)) ⟨(Δ i).es.ds.sv, ho, nx⟩ I.sv h2
    exact ⟨by rw [h1]; exact e1.symm, by rw [h1]; exact e2.symm, h3⟩
  have loSame : (ρ i).mn = false → (ρ i).lay = none → (Δ (i + 1)).lo = (Δ i).lo → ∀ j, j ∈ (Δ (i + 1)).lo ↔ j < i + 1 ∧ (ρ j).lay.isSome = true ∧ (mkD ρ s0 rs.length).pr rs (kI ρ (i + 1)) j = false := fun h1 h2 h3 j => by
    rw [h3, kSame h1, I.lo]
    constructor
    · rintro ⟨g1, g2⟩; exact ⟨by omega, g2⟩
    · rintro ⟨g1, g2, g3⟩
      refine ⟨?_, g2, g3⟩
      have : j ≠ i := fun e => by rw [e, h2] at g2; cases g2
      omega
  cases hs with
  | off hw hd hl ht hm he hlo hws hps =>
    refine fin (ho := (Δ i).es.ds.ho) (nx := (Δ i).es.ds.nx) (by rw [hd]; exact he) ?_ (loSame hm hl hlo)
    rw [kSame hm, I.ho]
    exact (full_keep (D := mkD ρ s0 rs.length) (L := Lt i) (L' := Lt (i + 1)) (i := i) hL' hl ht).symm
  | read hw hrf hx hl ht hm he hlo hws hlk hps =>
    refine fin (ho := (Δ i).es.ds.ho) (nx := (Δ i).es.ds.nx) he ?_ (loSame hm hl hlo)
    rw [kSame hm, I.ho]
    exact (full_keep (D := mkD ρ s0 rs.length) (L := Lt i) (L' := Lt (i + 1)) (i := i) hL' hl ht).symm
  | lay ob hw hrf hx hl ht hm he hlo hws hlk hps =>
    refine fin he ?_ fun j => ?_
    · rw [kSame hm, I.ho]
      exact (full_lay (D := mkD ρ s0 rs.length) (L := Lt i) (L' := Lt (i + 1)) hOK hD hr (Lt_self i) hL' hl ht).symm
    · rw [hlo, List.mem_cons, kSame hm, I.lo]
      constructor
      · rintro (rfl | ⟨g1, g2⟩)
        · exact ⟨by omega, by rw [hl]; rfl, pr_self R (Nat.le_refl _)⟩
        · exact ⟨by omega, g2⟩
      · rintro ⟨g1, g2⟩
        by_cases hji : j = i
        · exact .inl hji
        · exact .inr ⟨by omega, g2⟩
  | wr ob hw hc hrf hx hal hlt hant hl ht hob hm he hlo hws hps =>
    refine fin he ?_ (loSame hm hl hlo)
    obtain ⟨g1, g2, g3⟩ := (I.lo _).1 hlt
    have hu : (mkD ρ s0 rs.length).unp rs s0 (kI ρ i) (s0.nx + tgtI rs rs[i]) = some (tgtI rs rs[i]) := by
      unfold RG.unp
      have g1' : tgtI rs rs[i] < i := g1
      have e' : s0.nx + tgtI rs rs[i] - s0.nx = tgtI rs rs[i] := by omega
      rw [e', if_pos ⟨by omega, by omega, g2, g3⟩]
    rw [kSame hm, I.ho, ← hob]
    exact (full_wr (D := mkD ρ s0 rs.length) (L := Lt i) (L' := Lt (i + 1)) hOK hD hr (Lt_self i) han hL' hu hant ht hl).symm
  | main hid hs hhid hhs hw hc hrf hx hg hl ht hm he hlo hws hps =>
    have hmi : (mkD ρ s0 rs.length).main[kI ρ i]? = some i := main_get.2 ⟨hi, hm, rfl⟩
    have hk : kI ρ (i + 1) = kI ρ i + 1 := by unfold kI; rw [cnt_succ]; simp [hm]
    have hH : (mkD ρ s0 rs.length).H (kI ρ i + 1) = (ρ i).H := by
      have : ((List.range rs.length).filter fun i => (ρ i).mn)[kI ρ i]? = some i := hmi
      show mkH ρ s0.ho ((List.range rs.length).filter fun i => (ρ i).mn) (kI ρ i + 1) = _
      simp only [mkH, this]
    have hnx := nx_at R i (by omega)
    have hmem : ∀ j, j ∈ hid ↔ j ∈ (Δ i).lo ∧ anB rs i j = false := fun j => by
      rw [hhid, List.mem_filter]
      show _ ∧ (!(anB rs i j)) = true ↔ _
      simp
    refine fin he ?_ fun j => ?_
    · funext id
      rw [hk, full_main (D := mkD ρ s0 rs.length) (L := Lt i) (L' := Lt (i + 1)) hL' hmi hl ht id, hH]
      cases hu : (mkD ρ s0 rs.length).unp rs s0 (kI ρ i) id with
      | none =>
        simp only
        rw [if_neg]
        rintro ⟨j, hj, e⟩
        obtain ⟨h1, h2, h3⟩ := (I.lo j).1 ((hmem j).1 hj).1
        have : (mkD ρ s0 rs.length).unp rs s0 (kI ρ i) id = some j := by
          unfold RG.unp
          have e' : id - s0.nx = j := by omega
          rw [e', if_pos ⟨by omega, by omega, h2, h3⟩]
        rw [hu] at this; cases this
      | some j =>
        obtain ⟨e1, e2, e3, e4⟩ := unp_eq hu
        simp only
        by_cases ha : anB rs i j = true
        · rw [if_pos ha, if_neg]
          rintro ⟨j', hj, e⟩
          have : j' = j := by omega
          subst this
          rw [((hmem j').1 hj).2] at ha; cases ha
        · rw [if_neg ha]
          have hfull : (mkD ρ s0 rs.length).full rs s0 (Lt i) (kI ρ i) id = if Lt i j = true then (mkD ρ s0 rs.length).cur rs (Lt i) j else none := by
            unfold RG.full; rw [hu]
          rcases Nat.lt_or_ge j i with hji | hji
          · rw [if_pos ⟨j, (hmem j).2 ⟨(I.lo j).2 ⟨hji, e3, e4⟩, by simpa using ha⟩, e1⟩, I.ho, hfull]
          · have hLj : Lt i j = false := by simp [Lt]; omega
            rw [hLj]
            rw [hLj] at hfull
            simp only [Bool.false_eq_true, if_false] at hfull ⊢
            rw [if_neg (fun ⟨j', hj, e⟩ => by
              have : j' = j := by omega
              subst this
              have := ((I.lo j').1 ((hmem j').1 hj).1).1
              omega)]
            cases hx : (ρ i).H id with
            | none => rfl
            | some x =>
              exfalso
              have hn : hs.ho id = none := by
                rw [hhs]
                simp only
                rw [I.ho, hfull]
                split <;> rfl
              have := (hg.new id hn (by show (ρ i).H id ≠ none; rw [hx]; simp)).1
              rw [hhs] at this
              have h7 : (Δ i).es.nx ≤ id := this
              have := hnx.2.1
              omega
    · rw [hlo, hmem, I.lo, hk, pr_succ hmi, Bool.or_eq_false_iff]
      constructor
      · rintro ⟨⟨g1, g2, g3⟩, g4⟩; exact ⟨by omega, g2, g3, g4⟩
      · rintro ⟨g1, g2, g3, g4⟩
        have : j ≠ i := fun e => by rw [e, hl] at g2; cases g2
        exact ⟨⟨by omega, g2, g3⟩, g4⟩

theorem inv_all : ∀ i, i ≤ rs.length → Inv P rs s0 Δ ρ i
  | 0, _ => by
    refine ⟨?_, ?_, fun j => by rw [R.lo0]; simp⟩
    · funext t
      rw [R.z]
      show s0.sv t = RG.sv rs s0 _ _ t
      unfold RG.sv
      split
      · simp [Lt]
      · rfl
    · funext id
      rw [R.z]
      show s0.ho id = RG.full rs s0 _ _ _ id
      unfold RG.full
      cases hu : (mkD ρ s0 rs.length).unp rs s0 (kI ρ 0) id with
      | none => rfl
      | some j =>
        have := unp_eq hu
        simp [Lt]
        exact R.fr id (by omega)
  | i + 1, hi => inv_step R (by omega) (inv_all i (by omega))
end
end Go.DD

/- The evaluator's regions that draw their order, third part: the theorem. -/
namespace Go.DD

theorem evRefs {s : DS} {op : DOp} {x : Operand} (hx : x ∈ op.opnds) {id : Nat} (h : id ∈ (s.ev x).refs) : opRefs s op id := by
  cases x with
  | tmp t =>
    simp only [DS.ev] at h
    split at h
    · exact ⟨t, hx, h⟩
    · simp [DV.refs] at h
  | const x => simp only [DS.ev] at h; rw [refs_ofV] at h; cases h
  | func f => simp [DS.ev, DV.refs, DV.refsL] at h
  | global g => simp only [DS.ev] at h; rw [gvD_refs] at h; cases h

/-- The same object; or at least one, as there was one. -/
def HoEq (c : Bool) (a b : Option DObj) : Prop := if c = true then a = b else a.isSome = b.isSome
theorem HoEq.of {c : Bool} {a b : Option DObj} (h : a = b) : HoEq c a b := by
  unfold HoEq; subst h; split <;> rfl
theorem HoEq.some {c : Bool} {a b : Option DObj} (h : HoEq c a b) : a.isSome = b.isSome := by
  unfold HoEq at h; split at h
  · rw [h]
  · exact h
theorem HoEq.symm {c : Bool} {a b : Option DObj} (h : HoEq c a b) : HoEq c b a := by
  unfold HoEq at *
  split at h
  · rename_i hc; rw [if_pos hc]; exact h.symm
  · rename_i hc; rw [if_neg hc]; exact h.symm
theorem HoEq.trans {c : Bool} {a b d : Option DObj} (h : HoEq c a b) (h' : HoEq c b d) : HoEq c a d := by
  unfold HoEq at *
  split at h
  · rename_i hc; rw [if_pos hc] at h' ⊢; exact h.trans h'
  · rename_i hc; rw [if_neg hc] at h' ⊢; exact h.trans h'
theorem look_eq {c : Bool} {a b : Tr DObj} {id : Nat} (h : (if c = true then sameAt a b id else bothAt a b id) = true) : HoEq c (a.get id) (b.get id) := by
  unfold HoEq
  split at h
  · rename_i hc; rw [if_pos hc]; exact sameAt_eq h
  · rename_i hc; rw [if_neg hc]; unfold bothAt at h; simpa using h

/-- The same slots, and the same objects where it looks. -/
theorem agree_of {op : DOp} {s s' : DS} (hsv : ∀ t, .tmp t ∈ op.opnds → s'.sv t = s.sv t) (hho : ∀ id, opRefs s op id → HoEq op.rdC (s'.ho id) (s.ho id)) : Agree op s s' := by
  refine ⟨fun x hx => ?_, fun x hx => ?_, fun hc x hx id hid => (by have := hho id (evRefs hx hid); unfold HoEq at this; rwa [if_pos hc] at this)⟩
  · cases x with
    | tmp t =>
      have h1 := hsv t hx
      have h2 : s'.live (s'.sv t) = s.live (s.sv t) := by
        rw [h1]
        unfold DS.live
        rw [Bool.eq_iff_iff, List.all_eq_true, List.all_eq_true]
        constructor
        · intro h id hid; rw [← (hho id ⟨t, hx, hid⟩).some]; exact h id hid
        · intro h id hid; rw [(hho id ⟨t, hx, hid⟩).some]; exact h id hid
      simp only [DS.ev]
      rw [h2, h1]
    | _ => rfl
  · cases x with
    | tmp t => exact hsv t hx
    | _ => rfl

section
variable {P : Program} {rs : List DR} {s0 : DS} {Δ : Nat → DSt} {ρ : Nat → Rec} (R : Run P rs s0 Δ ρ)
include R

theorem ws_mono {i : Nat} (hi : i < rs.length) : (∀ w ∈ (Δ i).ws, w ∈ (Δ (i + 1)).ws) ∧ (∀ p ∈ (Δ i).ps, p ∈ (Δ (i + 1)).ps) := by
  cases semAt R (List.getElem?_eq_getElem hi) with
  | off hw hd hl ht hm he hlo hws hps => rw [hws, hps]; exact ⟨fun _ h => h, fun _ h => h⟩
  | read hw hrf hx hl ht hm he hlo hws hlk hps => rw [hps]; exact ⟨hws, fun _ h => h⟩
  | lay ob hw hrf hx hl ht hm he hlo hws hlk hps => rw [hps]; exact ⟨hws, fun _ h => h⟩
  | wr ob hw hc hrf hx hal hlt han hl ht hob hm he hlo hws hps => rw [hws, hps]; exact ⟨fun _ h => h, fun _ h => h⟩
  | main hid hs hhid hhs hw hc hrf hx hg hl ht hm he hlo hws hps => rw [hws, hps]; exact ⟨fun _ h => h, fun _ h => List.mem_cons_of_mem _ h⟩
theorem ws_all {i j : Nat} (h : i ≤ j) (hj : j ≤ rs.length) : (∀ w ∈ (Δ i).ws, w ∈ (Δ j).ws) ∧ (∀ p ∈ (Δ i).ps, p ∈ (Δ j).ps) := by
  induction h with
  | refl => exact ⟨fun _ h => h, fun _ h => h⟩
  | @step j h ih =>
    obtain ⟨h1, h2⟩ := ih (by have : j + 1 ≤ rs.length := hj; omega)
    obtain ⟨h3, h4⟩ := ws_mono R (i := j) hj
    exact ⟨fun w hw => h3 w (h1 w hw), fun p hp => h4 p (h2 p hp)⟩
theorem past_in {q : Nat} (hq : q < rs.length) (hm : (ρ q).mn = true) : (⟨q, anR rs q, (Δ q).es.hp, (Δ (q + 1)).es.hp⟩ : Past) ∈ (Δ rs.length).ps := by
  refine (ws_all R (i := q + 1) (by omega) (Nat.le_refl _)).2 _ ?_
  cases semAt R (List.getElem?_eq_getElem hq) with
  | off hw hd hl ht hm' he hlo hws hps => rw [hm] at hm'; cases hm'
  | read hw hrf hx hl ht hm' he hlo hws hlk hps => rw [hm] at hm'; cases hm'
  | lay ob hw hrf hx hl ht hm' he hlo hws hlk hps => rw [hm] at hm'; cases hm'
  | wr ob hw hc hrf hx hal hlt han hl ht hob hm' he hlo hws hps => rw [hm] at hm'; cases hm'
  | main hid hs hhid hhs hw hc hrf hx hg hl ht hm' he hlo hws hps => rw [hps]; exact List.mem_cons_self ..

theorem st_sv {i : Nat} {r : DR} (hr : rs[i]? = some r) (k : Nat) {t : Nat} (ht : t ∈ r.tmps) : ((mkD ρ s0 rs.length).st rs s0 i k).sv t = (Δ i).es.ds.sv t := by
  have hi := (List.getElem?_eq_some_iff.1 hr).1
  have I := inv_all R i (by omega)
  rw [I.sv]
  exact (reg_sv (D := mkD ρ s0 rs.length) (L := Lt i) (k := kI ρ i) (run_oks R) (run_done R (by omega)) hr (Lt_self i) (Lt_an R hi) t ht).symm
omit R in
theorem opnd_tmp {r : DR} {t : Nat} (h : .tmp t ∈ r.op.opnds) : t ∈ r.tmps := by
  simp only [DR.tmps, List.mem_append, List.mem_filterMap]
  exact .inl ⟨_, h, rfl⟩

/-- What an operation's forerunners left is what it sees in the text's order. -/
theorem st_ho {i : Nat} {r : DR} (hr : rs[i]? = some r) {id : Nat} (h : okRefP s0.nx rs.length (anR rs i) (Δ i).es.ds id) : ((mkD ρ s0 rs.length).st rs s0 i (kI ρ i)).ho id = (Δ i).es.ds.ho id := by
  have hi := (List.getElem?_eq_some_iff.1 hr).1
  have I := inv_all R i (by omega)
  rw [seen R hi I, if_neg]
  rintro ⟨j, hj, e⟩
  have h1 := (List.mem_filter.1 hj)
  have h2 := (I.lo j).1 h1.1
  rcases h.2 with h3 | h3 | h3
  · omega
  · omega
  · have : id - s0.nx = j := by omega
    rw [this] at h3
    have h4 := h1.2
    rw [h3] at h4; cases h4

/-- One step of the ordered operations, which may come before or behind, does not change what is looked at. -/
theorem win_step {i : Nat} {r : DR} (hr : rs[i]? = some r) {id : Nat} (hlk : ((mainsI rs).any fun q => !anB rs q i && !anB rs i q) = true → (⟨i, anR rs i, id, (Δ i).lo.contains (id - s0.nx), r.op.rdC⟩ : Look) ∈ (Δ (i + 1)).ws)
    {q p : Nat} (hq : (mkD ρ s0 rs.length).main[q]? = some p) (h1 : anB rs p i = false) (h2 : anB rs i p = false) :
    HoEq r.op.rdC (((mkD ρ s0 rs.length).st rs s0 i (q + 1)).ho id) (((mkD ρ s0 rs.length).st rs s0 i q).ho id) := by
  have hi := (List.getElem?_eq_some_iff.1 hr).1
  obtain ⟨g1, g2, g3⟩ := main_get.1 hq
  have hwide : ((mainsI rs).any fun q => !anB rs q i && !anB rs i q) = true := by
    rw [List.any_eq_true]
    exact ⟨p, by simp [mainsI, g1, (mn_cls R g1 g2).1], by simp [h1, h2]⟩
  have hl := (ws_all R (i := i + 1) (by omega) (Nat.le_refl _)).1 _ (hlk hwide)
  have hp := past_in R g1 g2
  have hok := List.all_eq_true.1 (List.all_eq_true.1 R.look _ hl) _ hp
  simp only at hok
  have e1 : (anR rs i).contains p = false := h2
  have e2 : (anR rs p).contains i = false := h1
  rw [e1, e2, Bool.false_or, Bool.false_or] at hok
  have hkp : kI ρ (p + 1) = q + 1 := by
    have h5 := cnt_succ (fun i => (ρ i).mn) p
    rw [if_pos g2] at h5
    unfold kI at g3 ⊢
    omega
  split at hok
  · rename_i hout
    have hout : id < s0.nx ∨ s0.nx + rs.length ≤ id := by
      rw [Bool.or_eq_true] at hout
      rcases hout with h | h
      · exact .inl (by simpa [Nat.blt_eq] using h)
      · exact .inr (by simpa [Nat.ble_eq] using h)
    have hu : ∀ k, (mkD ρ s0 rs.length).unp rs s0 k id = none := fun k => by
      unfold RG.unp
      rw [if_neg (fun hc => by omega)]
    have hf : ∀ L k, (mkD ρ s0 rs.length).full rs s0 L k id = (mkD ρ s0 rs.length).H k id := fun L k => by
      unfold RG.full; rw [hu]
    show HoEq _ ((mkD ρ s0 rs.length).full rs s0 _ _ id) ((mkD ρ s0 rs.length).full rs s0 _ _ id)
    rw [hf, hf]
    have hs := look_eq hok
    have i1 := congrFun (inv_all R p (by omega)).ho id
    have i2 := congrFun (inv_all R (p + 1) (by omega)).ho id
    rw [hf] at i1 i2
    rw [g3] at i1
    rw [hkp] at i2
    rw [← i1, ← i2]
    exact hs.symm
  · rename_i hin
    rw [Bool.and_eq_true] at hok
    have hin' : s0.nx ≤ id ∧ id < s0.nx + rs.length := by
      rw [Bool.or_eq_true] at hin
      refine ⟨?_, ?_⟩
      · rcases Nat.lt_or_ge id s0.nx with h | h
        · exact absurd (.inl (by simpa [Nat.blt_eq] using h)) hin
        · exact h
      · rcases Nat.lt_or_ge id (s0.nx + rs.length) with h | h
        · exact h
        · exact absurd (.inr (by simpa [Nat.ble_eq] using h)) hin
    have hlo : id - s0.nx ∈ (Δ i).lo := by simpa using hok.1
    obtain ⟨l1, l2, l3⟩ := ((inv_all R i (by omega)).lo _).1 hlo
    have hpj : anB rs p (id - s0.nx) = false := by
      have : (!(anB rs p (id - s0.nx))) = true := hok.2
      simpa using this
    have hpr : (mkD ρ s0 rs.length).pr rs q (id - s0.nx) = false := by
      unfold RG.pr
      rw [List.any_eq_false]
      intro x hx
      obtain ⟨n, hn, rfl⟩ := List.mem_iff_getElem.1 hx
      rw [List.length_take] at hn
      have hm : (mkD ρ s0 rs.length).main[n]? = some ((mkD ρ s0 rs.length).main.take q)[n] := by
        rw [List.getElem_take]; exact List.getElem?_eq_getElem (by omega)
      have hch := (run_oks R).chain n q _ _ hm hq (by omega)
      intro h
      have := an_trans R.ok g1 hch h
      rw [hpj] at this; cases this
    have hu1 : (mkD ρ s0 rs.length).unp rs s0 q id = some (id - s0.nx) := by
      unfold RG.unp
      rw [if_pos ⟨hin'.1, hin'.2, l2, hpr⟩]
    have hu2 : (mkD ρ s0 rs.length).unp rs s0 (q + 1) id = some (id - s0.nx) := by
      unfold RG.unp
      rw [if_pos ⟨hin'.1, hin'.2, l2, by rw [pr_succ hq, hpr, hpj]; rfl⟩]
    refine HoEq.of ?_
    show (mkD ρ s0 rs.length).full rs s0 _ _ id = (mkD ρ s0 rs.length).full rs s0 _ _ id
    unfold RG.full
    rw [hu1, hu2]

/-- Which of the ordered operations may come before or behind. -/
theorem may_between {i : Nat} (hi : i < rs.length) {k : Nat} (h : (mkD ρ s0 rs.length).may rs i k) {q p : Nat} (hq : (mkD ρ s0 rs.length).main[q]? = some p) (hb : (kI ρ i ≤ q ∧ q < k) ∨ (k ≤ q ∧ q < kI ρ i)) : anB rs p i = false ∧ anB rs i p = false := by
  obtain ⟨g1, g2, g3⟩ := main_get.1 hq
  rcases hb with ⟨h1, h2⟩ | ⟨h1, h2⟩
  · refine ⟨h.2.1 q p h2 hq, ?_⟩
    cases hx : anB rs i p with
    | false => rfl
    | true =>
      have h3 := an_lt R.ok hi hx
      have : kI ρ p < kI ρ i := cnt_lt _ h3 g2
      omega
  · refine ⟨?_, h.2.2 q p h1 hq⟩
    cases hx : anB rs p i with
    | false => rfl
    | true =>
      have h3 := an_lt R.ok g1 hx
      have : kI ρ i ≤ kI ρ p := cnt_mono _ (by omega)
      omega
omit R in
theorem between {c : Bool} {f : Nat → Option DObj} {a b : Nat} (hab : a ≤ b) (h : ∀ q, a ≤ q → q < b → HoEq c (f (q + 1)) (f q)) : HoEq c (f b) (f a) := by
  induction hab with
  | refl => exact HoEq.of rfl
  | @step m hm ih =>
    exact (h m hm (Nat.lt_succ_self m)).trans (ih fun q h1 h2 => h q h1 (by omega))
theorem win {i : Nat} {r : DR} (hr : rs[i]? = some r) {id : Nat} (hlk : ((mainsI rs).any fun q => !anB rs q i && !anB rs i q) = true → (⟨i, anR rs i, id, (Δ i).lo.contains (id - s0.nx), r.op.rdC⟩ : Look) ∈ (Δ (i + 1)).ws)
    {k : Nat} (h : (mkD ρ s0 rs.length).may rs i k) : HoEq r.op.rdC (((mkD ρ s0 rs.length).st rs s0 i k).ho id) (((mkD ρ s0 rs.length).st rs s0 i (kI ρ i)).ho id) := by
  have hi := (List.getElem?_eq_some_iff.1 hr).1
  have hstep : ∀ q, (kI ρ i ≤ q ∧ q < k) ∨ (k ≤ q ∧ q < kI ρ i) → HoEq r.op.rdC (((mkD ρ s0 rs.length).st rs s0 i (q + 1)).ho id) (((mkD ρ s0 rs.length).st rs s0 i q).ho id) := fun q hb => by
    have hql : q < (mkD ρ s0 rs.length).main.length := by
      have h1 := h.1
      have h2 : kI ρ i ≤ (mkD ρ s0 rs.length).main.length := cnt_mono _ (Nat.le_of_lt hi)
      omega
    have hq := List.getElem?_eq_getElem hql
    obtain ⟨h1, h2⟩ := may_between R hi h hq hb
    exact win_step R hr hlk hq h1 h2
  rcases Nat.le_total (kI ρ i) k with hle | hle
  · exact between (f := fun q => ((mkD ρ s0 rs.length).st rs s0 i q).ho id) hle fun q h1 h2 => hstep q (.inl ⟨h1, h2⟩)
  · exact (between (f := fun q => ((mkD ρ s0 rs.length).st rs s0 i q).ho id) hle fun q h1 h2 => hstep q (.inr ⟨h1, h2⟩)).symm

theorem st_live {i : Nat} {r : DR} (hr : rs[i]? = some r) (hrf : ∀ id, opRefs (Δ i).es.ds r.op id → okRefP s0.nx rs.length (anR rs i) (Δ i).es.ds id) {k : Nat} (hk : ∀ id, opRefs (Δ i).es.ds r.op id → HoEq r.op.rdC (((mkD ρ s0 rs.length).st rs s0 i k).ho id) (((mkD ρ s0 rs.length).st rs s0 i (kI ρ i)).ho id)) :
    liveR ((mkD ρ s0 rs.length).st rs s0 i k) r ∧ Agree r.op (Δ i).es.ds ((mkD ρ s0 rs.length).st rs s0 i k) := by
  have hsv : ∀ t, .tmp t ∈ r.op.opnds → ((mkD ρ s0 rs.length).st rs s0 i k).sv t = (Δ i).es.ds.sv t := fun t ht => st_sv R hr k (opnd_tmp ht)
  have hho : ∀ id, opRefs (Δ i).es.ds r.op id → HoEq r.op.rdC (((mkD ρ s0 rs.length).st rs s0 i k).ho id) ((Δ i).es.ds.ho id) := fun id hid => (hk id hid).trans (HoEq.of (st_ho R hr (hrf id hid)))
  refine ⟨fun t ht => ?_, agree_of hsv hho⟩
  rw [hsv t ht]
  unfold DS.live
  rw [List.all_eq_true]
  intro id hid
  rw [(hho id ⟨t, ht, hid⟩).some]
  exact (hrf id ⟨t, ht, hid⟩).1

theorem run_ev (i : Nat) (r : DR) (hr : rs[i]? = some r) : (mkD ρ s0 rs.length).ev rs s0 P i r := by
  have hi := (List.getElem?_eq_some_iff.1 hr).1
  have I := inv_all R i (by omega)
  have hwe : ((mkD ρ s0 rs.length).st rs s0 i 0).wanted r.g = (Δ i).es.ds.wanted r.g := by
    unfold DS.wanted
    cases hg : r.g with
    | none => rfl
    | some p =>
      obtain ⟨t, b⟩ := p
      have := st_sv R hr 0 (t := t) (by simp [DR.tmps, hg])
      simp only [this]
  have hnm : (ρ i).mn = false → i ∉ (mkD ρ s0 rs.length).main := fun h hmem => by
    obtain ⟨k, hk⟩ := List.mem_iff_getElem?.1 hmem
    have := (main_get.1 hk).2.1
    rw [h] at this; cases this
  unfold RG.ev
  rw [hwe]
  have hs := semAt R hr
  have notcall : ∀ {nid : Nat} {d : DV} {u : Upd}, execU nid (Δ i).es.ds r.op = some (d, u) → (∀ f args, r.op ≠ .call f args) ∧ ∀ tb x args, r.op ≠ .cv tb x args := fun {nid d u} h => ⟨fun f args e => (by rw [e] at h; cases h), fun tb x args e => (by rw [e] at h; cases h)⟩
  have nonmain : ∀ {u0 : Upd}, (ρ i).mn = false → (Δ i).es.ds.wanted r.g = some true → execU (s0.nx + i) (Δ i).es.ds r.op = some ((ρ i).d, u0) → (∀ id, opRefs (Δ i).es.ds r.op id → okRefP s0.nx rs.length (anR rs i) (Δ i).es.ds id) →
      (∀ k, (mkD ρ s0 rs.length).may rs i k → (∀ id, opRefs (Δ i).es.ds r.op id → HoEq r.op.rdC (((mkD ρ s0 rs.length).st rs s0 i k).ho id) (((mkD ρ s0 rs.length).st rs s0 i (kI ρ i)).ho id)) ∧ match u0 with
          | .keep => (ρ i).lay = none ∧ (ρ i).tgt = none
          | .lay o => (ρ i).lay = some o ∧ (ρ i).tgt = none
          | .wr id o => ∃ j, (mkD ρ s0 rs.length).unp rs s0 k id = some j ∧ anB rs i j = true ∧ (ρ i).tgt = some j ∧ (ρ i).ob = o ∧ (ρ i).lay = none
          | _ => False) → (mkD ρ s0 rs.length).ev rs s0 P i r := fun {u0} hm hw hx hrf hk => by
    have hnc := notcall hx
    unfold RG.ev
    rw [hwe, hw]
    simp only
    have key : ∀ k, (mkD ρ s0 rs.length).may rs i k → liveR ((mkD ρ s0 rs.length).st rs s0 i k) r ∧ ∃ u, execU (s0.nx + i) ((mkD ρ s0 rs.length).st rs s0 i k) r.op = some ((mkD ρ s0 rs.length).d i, u) ∧ match u with
          | .keep => (mkD ρ s0 rs.length).lay i = none ∧ (mkD ρ s0 rs.length).tgt i = none
          | .lay o => (mkD ρ s0 rs.length).lay i = some o ∧ (mkD ρ s0 rs.length).tgt i = none
          | .wr id o => ∃ j, (mkD ρ s0 rs.length).unp rs s0 k id = some j ∧ anB rs i j = true ∧ (mkD ρ s0 rs.length).tgt i = some j ∧ (mkD ρ s0 rs.length).ob i = o ∧ (mkD ρ s0 rs.length).lay i = none
          | _ => False := fun k hmay => by
      obtain ⟨h1, h2⟩ := hk k hmay
      obtain ⟨h3, h4⟩ := st_live R hr hrf h1
      refine ⟨h3, u0, by rw [execU_congr h4]; exact hx, h2⟩
    split
    · rename_i f args ho; exact absurd ho (hnc.1 f args)
    · rename_i tb x args ho; exact absurd ho (hnc.2 tb x args)
    · exact .inr ⟨hnm hm, key⟩
  cases hs with
  | off hw hd hl ht hm he hlo hws hps => rw [hw]; exact ⟨hd, hl, ht, hnm hm⟩
  | read hw hrf hx hl ht hm he hlo hws hlk hps =>
    have := nonmain hm hw hx hrf fun k hmay => ⟨fun id hid => win R hr (fun h => hlk h id hid) hmay, hl, ht⟩
    unfold RG.ev at this
    rwa [hwe] at this
  | lay ob hw hrf hx hl ht hm he hlo hws hlk hps =>
    have := nonmain hm hw hx hrf fun k hmay => ⟨fun id hid => win R hr (fun h => hlk h id hid) hmay, hl, ht⟩
    unfold RG.ev at this
    rwa [hwe] at this
  | wr ob hw hc hrf hx hal hlt hant hl ht hob hm he hlo hws hps =>
    obtain ⟨g1, g2, g3⟩ := (I.lo _).1 hlt
    have g1' : tgtI rs r < i := g1
    have hunp : ∀ k, (mkD ρ s0 rs.length).may rs i k → (mkD ρ s0 rs.length).unp rs s0 k (s0.nx + tgtI rs r) = some (tgtI rs r) := fun k hmay => by
      have hpr : (mkD ρ s0 rs.length).pr rs k (tgtI rs r) = false := by
        unfold RG.pr
        rw [List.any_eq_false]
        intro x hx
        obtain ⟨n, hn, rfl⟩ := List.mem_iff_getElem.1 hx
        rw [List.length_take] at hn
        have hmn : (mkD ρ s0 rs.length).main[n]? = some ((mkD ρ s0 rs.length).main.take k)[n] := by
          rw [List.getElem_take]; exact List.getElem?_eq_getElem (by omega)
        obtain ⟨f1, f2, f3⟩ := main_get.1 hmn
        intro h
        rcases Nat.lt_or_ge n (kI ρ i) with hlt' | hge
        · have : (mkD ρ s0 rs.length).pr rs (kI ρ i) (tgtI rs r) = true := by
            unfold RG.pr
            rw [List.any_eq_true]
            refine ⟨_, List.mem_iff_getElem?.2 ⟨n, ?_⟩, h⟩
            rw [List.getElem?_take, if_pos hlt']; exact hmn
          have g3' : (mkD ρ s0 rs.length).pr rs (kI ρ i) (tgtI rs r) = false := g3
          rw [g3'] at this; cases this
        · obtain ⟨u1, u2⟩ := may_between R hi hmay hmn (.inl ⟨hge, by omega⟩)
          rcases (tgt_wr R ht).2.2 _ f1 h with h' | h' | h'
          · rw [u1] at h'; cases h'
          · rw [u2] at h'; cases h'
          · rw [← h'] at f2; rw [hm] at f2; cases f2
      unfold RG.unp
      have e' : s0.nx + tgtI rs r - s0.nx = tgtI rs r := by omega
      rw [e', if_pos ⟨by omega, by omega, g2, hpr⟩]
    have hmay0 : (mkD ρ s0 rs.length).may rs i (kI ρ i) := reg_may (D := mkD ρ s0 rs.length) (L := Lt i) (run_oks R) (run_done R (by omega)) (Lt_self i) (Lt_an R hi)
    have hfull : ∀ k, (mkD ρ s0 rs.length).may rs i k → ((mkD ρ s0 rs.length).st rs s0 i k).ho (s0.nx + tgtI rs r) = (mkD ρ s0 rs.length).cur rs (anB rs i) (tgtI rs r) := fun k hmay => by
      show (mkD ρ s0 rs.length).full rs s0 _ _ _ = _
      unfold RG.full
      rw [hunp k hmay]
      have ha : anB rs i (tgtI rs r) = true := hant
      simp only
      rw [if_pos ha]
    have := nonmain hm hw hx hrf fun k hmay => ⟨fun id hid => by
      have e : id = s0.nx + tgtI rs r := hal id hid
      exact HoEq.of (by rw [e, hfull k hmay, hfull _ hmay0]), ⟨_, hunp k hmay, hant, ht, hob, hl⟩⟩
    unfold RG.ev at this
    rwa [hwe] at this
  | main hid hs hhid hhs hw hc hrf hx hg hl ht hm he hlo hws hps =>
    rw [hw]
    simp only
    have hmi : (mkD ρ s0 rs.length).main[kI ρ i]? = some i := main_get.2 ⟨hi, hm, rfl⟩
    have hfn : ((List.range rs.length).filter fun i => (ρ i).mn)[kI ρ i]? = some i := hmi
    have hH : (mkD ρ s0 rs.length).H (kI ρ i + 1) = (ρ i).H := by
      show mkH ρ s0.ho ((List.range rs.length).filter fun i => (ρ i).mn) (kI ρ i + 1) = _
      simp only [mkH, hfn]
    have hN : (mkD ρ s0 rs.length).N (kI ρ i + 1) = (ρ i).N := by
      show mkN ρ (s0.nx + rs.length) ((List.range rs.length).filter fun i => (ρ i).mn) (kI ρ i + 1) = _
      simp only [mkN, hfn]
    have hnx := (nx_at R i (by omega)).1
    obtain ⟨hlv, _⟩ := st_live R hr hrf (k := kI ρ i) fun _ _ => HoEq.of rfl
    have hsho : hs.ho = ((mkD ρ s0 rs.length).st rs s0 i (kI ρ i)).ho := by
      funext id
      rw [seen R hi I, hhs, hhid]
    have hsnx : hs.nx = ((mkD ρ s0 rs.length).st rs s0 i (kI ρ i)).nx := by
      rw [hhs]
      exact hnx.symm
    have hssv : ∀ t, .tmp t ∈ r.op.opnds → ((mkD ρ s0 rs.length).st rs s0 i (kI ρ i)).sv t = hs.sv t := fun t htm => by
      rw [hhs]; exact st_sv R hr _ (opnd_tmp htm)
    have hag : Agree r.op hs ((mkD ρ s0 rs.length).st rs s0 i (kI ρ i)) := agree_of hssv fun id _ => HoEq.of (by rw [hsho])
    have hst : (⟨((mkD ρ s0 rs.length).st rs s0 i (kI ρ i)).sv, hs.ho, hs.nx⟩ : DS) = (mkD ρ s0 rs.length).st rs s0 i (kI ρ i) := by rw [hsho, hsnx]
    have hargs : ∀ (args : List Operand), (∀ x ∈ args, x ∈ r.op.opnds) → args.map ((mkD ρ s0 rs.length).st rs s0 i (kI ρ i)).rv = args.map hs.rv := fun args hsub => List.map_congr_left fun x hx => hag.rv x (hsub x hx)
    unfold MainOK at hx
    split
    · rename_i f args ho
      rw [ho] at hx
      simp only at hx
      refine ⟨kI ρ i, hmi, hlv, ?_⟩
      rw [hargs args (fun x hx => by rw [ho]; exact hx), hH, hN, ← hst]
      exact hx _
    · rename_i tb x args ho
      rw [ho] at hx
      simp only at hx
      obtain ⟨f, fr, cs, h1, h2⟩ := hx
      refine ⟨kI ρ i, f, fr, cs, hmi, hlv, ?_, ?_⟩
      · rw [hag.ev x (by rw [ho]; simp [DOp.opnds])]; exact h1
      · rw [hargs args (fun y hy => by rw [ho]; simp [DOp.opnds, hy]), hH, hN, ← hst]
        exact h2 _
    · rename_i hn2 hn3
      have hx' : ∃ u, hs.hasU u = true ∧ execU hs.nx hs r.op = some ((ρ i).d, u) ∧ (ρ i).H = u.app hs.nx hs.ho ∧ (ρ i).N = if u.new then hs.nx + 1 else hs.nx := by
        revert hx
        split
        · rename_i f args ho; exact absurd ho (hn2 f args)
        · rename_i tb x args ho; exact absurd ho (hn3 tb x args)
        · exact id
      obtain ⟨u, h1, h2, h3, h4⟩ := hx'
      refine .inl ⟨kI ρ i, u, hmi, hlv, ?_, ?_, ?_, ?_⟩
      · cases u with
        | wr id o => simp only [DS.hasU] at h1 ⊢; rw [← hsho]; exact h1
        | mv old o =>
          cases old with
          | none => rfl
          | some id => simp only [DS.hasU] at h1 ⊢; rw [← hsho]; exact h1
        | _ => rfl
      · have e : hs.nx = (mkD ρ s0 rs.length).N (kI ρ i) := hsnx
        rw [execU_congr hag, ← e]
        exact h2
      · have e : hs.nx = (mkD ρ s0 rs.length).N (kI ρ i) := hsnx
        rw [hH, h3, hsho, e]
      · have e : hs.nx = (mkD ρ s0 rs.length).N (kI ρ i) := hsnx
        rw [hN, h4, e]

theorem run_ok : (mkD ρ s0 rs.length).OK rs s0 P := { run_oks R with ev := run_ev R }
theorem run_end : (mkD ρ s0 rs.length).at_ rs s0 (fun _ => true) (mkD ρ s0 rs.length).main.length = (Δ rs.length).es.ds := by
  have I := inv_all R rs.length (Nat.le_refl _)
  have hN := (nx_at R rs.length (Nat.le_refl _)).1
  have hsv : (mkD ρ s0 rs.length).sv rs s0 (fun _ => true) = (mkD ρ s0 rs.length).sv rs s0 (Lt rs.length) := by
    funext t
    unfold RG.sv
    cases hp : rs.findIdx? (fun r => r.dst == some t) with
    | none => rfl
    | some p =>
      have : p < rs.length := (List.findIdx?_eq_some_iff_findIdx_eq.1 hp).1
      simp [Lt, this]
  have hho : (mkD ρ s0 rs.length).full rs s0 (fun _ => true) (kI ρ rs.length) = (mkD ρ s0 rs.length).full rs s0 (Lt rs.length) (kI ρ rs.length) := by
    funext id
    unfold RG.full
    cases hu : (mkD ρ s0 rs.length).unp rs s0 (kI ρ rs.length) id with
    | none => rfl
    | some j =>
      have hj := (unp_eq hu).2.1
      have hc : (mkD ρ s0 rs.length).cur rs (fun _ => true) j = (mkD ρ s0 rs.length).cur rs (Lt rs.length) j := by
        unfold RG.cur
        rw [lastW_congr (L := Lt rs.length) (L' := fun _ => true) fun w hw _ => by simp [Lt, hw]]
      simp [Lt, hj, hc]
  show (⟨_, _, _⟩ : DS) = _
  rw [main_len, hsv, hho, hN, ← I.sv, ← I.ho]
  rfl
end

/-- A region that draws its order. -/
theorem regE_ok {C : Ctx} {call : CallT} (hc : CallOK C.P call) (hm : C.P.follows .mixedOrders = true) {rs : List DR} {es es' : ES} (hok : (regInfo rs).ok = true) (h : regE rs.length (rundE rs (regInfo rs).l 0) call es = some es') (hfr : es.ds.Fr) :
    Gw es.ds es'.ds ∧ ∀ (info : RI) (Q : Exit → DS → Prop), Q .normal es'.ds → DW C (.reg true rs info) Q es.ds := by
  obtain ⟨Δ, ρ, R, rfl⟩ := run_of hc hok h hfr
  refine ⟨?_, fun info Q hQ => DW.regd (mkD ρ es.ds rs.length) hm (run_ok R) (by rw [run_end R]; exact hQ)⟩
  have key : ∀ i, i ≤ rs.length → ∀ id, es.ds.ho id = none → (Δ i).es.ds.ho id ≠ none → es.ds.nx ≤ id ∧ id < (Δ i).es.nx := by
    intro i
    induction i with
    | zero => intro _ id h1 h2; rw [R.z] at h2; exact absurd h1 h2
    | succ i ih =>
      intro hi id h1 h2
      have hn := (nx_at R i (by omega)).2.1
      obtain ⟨g1, g2⟩ := (semAt R (List.getElem?_eq_getElem (show i < rs.length by omega))).gw (by omega) hn
      cases h3 : (Δ i).es.ds.ho id with
      | none => exact g2 id h3 h2
      | some o =>
        have := ih (by omega) id h1 (by rw [h3]; simp)
        omega
  have hn := (nx_at R rs.length (Nat.le_refl _)).2.1
  exact ⟨by show es.ds.nx ≤ (Δ rs.length).es.nx; omega, key _ (Nat.le_refl _)⟩
end Go.DD

/- The contract of a function, out of its body. -/
namespace Go.DD
open Go.RowKit (Below)

/-- What a body hands back. -/
def finD (s : DS) (rs : List (Nat × Option (Option Nat))) : Option DV :=
  match resV s rs with
  | some d => rz s.ho 6 d
  | none => none

/-- The contract of a function, out of its body. -/
theorem DCall.intro {P : Program} {f : FuncId} {fn : Func} {df : DF} {args : List DV} {R : DV → Prop} (hf : P.funcs[f]? = some fn) (hc : compFn P fn = some df) (hn : args.length ≤ df.nt)
    (h : ∀ (S : Nat → Prop) (w0 : World), DW ⟨P, S, fun _ => False, w0, df.nt, fun _ _ => False, fun _ => False, none, fun _ => none, fun _ => False⟩ df.code (fun e s => (e = .normal ∨ e = .ret) ∧ ∃ r, finD s df.res = some r ∧ R r) ⟨argF args, fun _ => none, 0⟩) : DCall P f args R := by
  intro w S vs hS hl hrel hglv
  unfold compFn at hc
  split at hc
  rotate_left
  · cases hc
  rename_i body hb
  split at hc
  rotate_left
  · cases hc
  rename_i c r hcc hcr
  cases hc
  refine callsIn_wide.1 (callsIn_of_wp_marks (n := 0) hf hb trivial ?_)
  have hhh : HH ⟨P, S, fun _ => False, w, fn.ntmps, fun _ _ => False, fun _ => False, none, fun _ => none, fun _ => False⟩ (Us ⟨P, S, fun _ => False, w, fn.ntmps, fun _ _ => False, fun _ => False, none, fun _ => none, fun _ => False⟩ 0) (vwF (fun _ => none) (fun _ => none)) (fun _ => none) w :=
    ⟨hS, ⟨rfl, rfl, rfl, Nat.le_refl _, fun _ _ _ => rfl⟩, fun _ _ h => (by cases h), fun _ _ _ h => (by cases h), fun _ _ => rfl, fun _ _ h => (by cases h)⟩
  have hentry := enters_ok (C := ⟨P, S, fun _ => False, w, fn.ntmps, fun _ _ => False, fun _ => False, none, fun _ => none, fun _ => False⟩) (ho := fun _ => none) (nx := 0) (args := args) (vs := vs) hhh
    (fun x d h => h.elim False.elim fun h => WV.flat (.imm _ _ ((hglv x d h).mono fun b hb => ⟨⟨.inl hb, hS b hb, fun _ h => (by cases h)⟩, rfl⟩)) (relI_refs (hglv x d h))) (fun _ _ h => (by cases h)) (fun _ h => h.elim) hn hl
    (fun j v d hv hd => WV.flat (.imm _ _ ((hrel j v d hv hd).mono fun b hb => ⟨⟨.inl hb, hS b hb, fun _ h => (by cases h)⟩, rfl⟩)) (relI_refs (hrel j v d hv hd)))
  refine wpIn_mono (h S w body hcc _ w ⟨fun _ h => h.elim, _, hentry⟩) ?_
  have hfin : ∀ (s : DS) (a : Act) (w' : World), Holds ⟨P, S, fun _ => False, w, fn.ntmps, fun _ _ => False, fun _ => False, none, fun _ => none, fun _ => False⟩ s a w' → (∃ d, finD s r = some d ∧ R d) → LeavesInM Fence.wide 0 P fn a.tmps (fun e w' => ∃ v' d, e = .returned v' ∧ R d ∧ Below w.heap.size w w' ∧ RelI w' (fun b => (S b ∨ w.heap.size ≤ b) ∧ b < w'.heap.size) v' d) a.defers .returning w' := by
    rintro s ⟨tmps, l⟩ w' ⟨_, β, hs⟩ ⟨d, hd, hR⟩
    unfold finD at hd
    split at hd
    · rename_i d0 hd0
      refine ends_ok hcr hd0 tmps (fun v w'' hs hr => ?_) l w' hs
      have hbl := hs.hh.bel
      exact ⟨v, d, rfl, hR, ⟨hbl.os, hbl.tape, hbl.output, hbl.size, fun k hk => hbl.block k hk (fun h => h)⟩, (rz_ok hs.hh (fun id o ho => vw_some ho) 6 v d0 d hr hd).mono fun b hb => ⟨⟨hb.1.imp id (fun h => h.resolve_right (fun h => h)), hb.2⟩, rfl⟩⟩
    · cases hd
  rintro e a w' ⟨s, ⟨h1, h2⟩, hs⟩
  rcases h1 with rfl | rfl
  · exact hfin s a w' hs h2
  · exact hfin s a w' hs h2

/-- .. out of a walk on an empty heap. -/
theorem DCall.of_callI {P : Program} {f : FuncId} {args : List DV} {R : DV → Prop} {sv : Nat → DV} (h : callI P f args ⟨sv, fun _ => none, 0⟩ fun s d => ∃ r, rz s.ho 6 d = some r ∧ R r) : DCall P f args R := by
  obtain ⟨fn, df, hf, hc, hn, hw⟩ := h
  refine DCall.intro hf hc hn fun S w0 => (hw S (fun _ => False) w0 (fun _ _ => False) (fun _ => False) (fun _ => none) (fun _ => False)).mono ?_
  rintro e s ⟨h1, d, h2, r, h3, h4⟩
  refine ⟨h1, r, ?_, h4⟩
  unfold finD
  rw [h2]
  exact h3
end Go.DD

/- The evaluator's code and calls. -/
namespace Go.DD

theorem sem_trace_gw {P : Program} {call : CallT} (hc : CallOK P call) {n0 m : Nat} : ∀ (rs : List DR) (os : List OI) (i : Nat) (δ δ' : DSt), i + rs.length ≤ m → rundE rs os i call n0 m δ = some δ' → δ.es.ds.Fr → n0 + m ≤ δ.es.nx →
    δ.es.nx ≤ δ'.es.nx ∧ ∀ id, δ.es.ds.ho id = none → δ'.es.ds.ho id ≠ none → n0 ≤ id ∧ id < δ'.es.nx
  | [], os, i, δ, δ', hm, h, hfr, hn => by
    have h3 : some δ = some δ' := by cases os <;> exact h
    cases h3
    exact ⟨Nat.le_refl _, fun id h1 h2 => absurd h1 h2⟩
  | r :: rs, [], i, δ, δ', hm, h, hfr, hn => by
    have h3 : some δ = some δ' := h
    cases h3
    exact ⟨Nat.le_refl _, fun id h1 h2 => absurd h1 h2⟩
  | r :: rs, o :: os, i, δ, δ', hm, h, hfr, hn => by
    have h' : dq (dstpG i r o) (rundE rs os (i + 1)) call n0 m δ = some δ' := h
    obtain ⟨δ1, h1, h2⟩ := optR h'
    obtain ⟨ρ0, hs⟩ := dstpG_sem hc hfr h1
    have him : i < m := by simp at hm; omega
    obtain ⟨g1, g2⟩ := hs.gw him hn
    obtain ⟨g3, g4⟩ := sem_trace_gw hc rs os (i + 1) δ1 δ' (by simp at hm; omega) h2 (hs.fr him hn hfr) (by omega)
    refine ⟨by omega, fun id k1 k2 => ?_⟩
    cases k3 : δ1.es.ds.ho id with
    | none => exact g4 id k3 k2
    | some x =>
      have := g2 id k1 (by rw [k3]; simp)
      omega
theorem regE_gw {P : Program} {call : CallT} (hc : CallOK P call) {rs : List DR} {os : List OI} {es es' : ES} (h : regE rs.length (rundE rs os 0) call es = some es') (hfr : es.ds.Fr) : Gw es.ds es'.ds := by
  unfold regE at h
  obtain ⟨δ', h1, h2⟩ := optR h
  obtain ⟨h3, h4⟩ := iteB_some h2
  cases h4
  rw [cs_eq, forceN_eq] at h1
  obtain ⟨g1, g2⟩ := sem_trace_gw hc rs os 0 _ _ (by omega) h1 (fun id hid => hfr id (by
    have : es.nx + rs.length ≤ id := hid
    show es.nx ≤ id; omega)) (Nat.le_refl _)
  exact ⟨by have : es.nx + rs.length ≤ δ'.es.nx := g1
            show es.nx ≤ δ'.es.nx; omega, fun id k1 k2 => g2 id k1 k2⟩

theorem evv {s : DS} {x : Operand} {v : Value} (h : s.rv x = .v v) : s.ev x = .v v := by
  cases x with
  | tmp t =>
    have h' : s.sv t = .v v := h
    simp only [DS.ev]
    rw [h', if_pos]
    rfl
  | _ => exact h

theorem cS_some {a b : CE} {call : CallT} {es es' : ES} {e : Exit} (h : cS a b call es = some (e, es')) : (∃ es1, a call es = some (.normal, es1) ∧ b call es1 = some (e, es')) ∨ (a call es = some (e, es') ∧ e ≠ .normal) := by
  obtain ⟨⟨e1, es1⟩, h1, h2⟩ := optR h
  cases e1 with
  | normal => exact .inl ⟨es1, h1, h2⟩
  | _ =>
    cases h2
    exact .inr ⟨h1, by simp⟩
theorem cN_some {s : Stp} {call : CallT} {es es' : ES} {e : Exit} (h : cN s call es = some (e, es')) : s call es = some es' ∧ e = .normal := by
  obtain ⟨es1, h1, h2⟩ := optR h
  cases h2
  exact ⟨h1, rfl⟩
theorem cC_some {x : Operand} {a b : CE} {call : CallT} {es es' : ES} {e : Exit} (h : cC (.of x) a b call es = some (e, es')) : ∃ t, es.ds.ev x = .v (.bool t) ∧ (if t = true then a call es else b call es) = some (e, es') := by
  unfold cC at h
  rw [rawE_eq] at h
  obtain ⟨v, hv, h⟩ := cV_some h
  cases v with
  | bool t =>
    refine ⟨t, evv hv, ?_⟩
    cases t <;> exact h
  | _ => cases h
theorem cB_some {id : Nat} {c : CE} {call : CallT} {es es' : ES} {e : Exit} (h : cB id c call es = some (e, es')) : ∃ e1, c call es = some (e1, es') ∧ ∀ (Q : Exit → DS → Prop), Q e es'.ds → blkQ id Q e1 es'.ds := by
  obtain ⟨⟨e1, es1⟩, h1, h2⟩ := optR h
  cases e1 with
  | exit i =>
    have h3 : iteB (Nat.beq i id) (some (Exit.normal, es1)) (some (Exit.exit i, es1)) = some (e, es') := h2
    rw [iteB_eq] at h3
    split at h3
    · rename_i hb
      cases h3
      exact ⟨_, h1, fun Q hQ => by simp only [blkQ]; rw [if_pos (Nat.eq_of_beq_eq_true hb)]; exact hQ⟩
    · rename_i hb
      cases h3
      refine ⟨_, h1, fun Q hQ => ?_⟩
      simp only [blkQ]
      rw [if_neg (fun e => hb (by rw [e]; exact Nat.beq_refl id))]; exact hQ
  | _ =>
    cases h2
    exact ⟨_, h1, fun Q hQ => hQ⟩

/-- What an evaluated piece of code means. -/
def EvOK (P : Program) (nt : Nat) (rd : Bool) (c : DC) (es : ES) (e : Exit) (es' : ES) : Prop :=
  Gw es.ds es'.ds ∧ ∀ (C : Ctx) (Q : Exit → DS → Prop), C.P = P → C.nt = nt → (rd = false → C.rd = none) → Q e es'.ds → DW C c Q es.ds

theorem loop_ok {P : Program} {call : CallT} {n nt : Nat} {rd : Bool} {c : DC} (ih : ∀ es e es', evalE n nt rd c call es = some (e, es') → es.ds.Fr → EvOK P nt rd c es e es') : ∀ (m : Nat) (es : ES) (e : Exit) (es' : ES), cL m (evalE n nt rd c) call es = some (e, es') → es.ds.Fr → EvOK P nt rd (.loop c) es e es' := by
  have gw : ∀ (m : Nat) (es : ES) (e : Exit) (es' : ES), cL m (evalE n nt rd c) call es = some (e, es') → es.ds.Fr → Gw es.ds es'.ds := by
    intro m
    induction m with
    | zero => intro es e es' h _; cases h
    | succ m im =>
      intro es e es' h hfr
      have h' : cS (evalE n nt rd c) (cL m (evalE n nt rd c)) call es = some (e, es') := h
      rcases cS_some h' with ⟨es1, h1, h2⟩ | ⟨h1, _⟩
      · have g1 := (ih _ _ _ h1 hfr).1
        exact g1.trans (im es1 e es' h2 (Gw.fr hfr g1))
      · exact (ih _ _ _ h1 hfr).1
  intro m es e es' h hfr
  refine ⟨gw m es e es' h hfr, fun C Q hP hnt hrd hQ => ?_⟩
  refine DW.loop (I := fun k s => ∃ es1, s = es1.ds ∧ es1.ds.Fr ∧ cL k (evalE n nt rd c) call es1 = some (e, es')) m ⟨es, rfl, hfr, h⟩ ?_
  rintro k s ⟨es1, rfl, hfr1, h1⟩
  cases k with
  | zero => cases h1
  | succ k =>
    have h' : cS (evalE n nt rd c) (cL k (evalE n nt rd c)) call es1 = some (e, es') := h1
    rcases cS_some h' with ⟨es2, h2, h3⟩ | ⟨h2, hne⟩
    · obtain ⟨g1, g2⟩ := ih _ _ _ h2 hfr1
      exact g2 C _ hP hnt hrd ⟨k, Nat.lt_succ_self k, es2, rfl, Gw.fr hfr1 g1, h3⟩
    · obtain ⟨g1, g2⟩ := ih _ _ _ h2 hfr1
      refine g2 C _ hP hnt hrd ?_
      cases e <;> first | exact hQ | exact absurd rfl hne

theorem evalE_ok {P : Program} {call : CallT} (hc : CallOK P call) (hm : P.follows .mixedOrders = true) {n nt : Nat} {rd : Bool} : ∀ (c : DC) (es : ES) (e : Exit) (es' : ES), evalE n nt rd c call es = some (e, es') → es.ds.Fr → EvOK P nt rd c es e es' := by
  intro c
  induction c with
  | skip =>
    intro es e es' h hfr
    have h' : some (Exit.normal, es) = some (e, es') := h
    cases h'
    exact ⟨Gw.refl _, fun C Q _ _ _ hQ => DW.skip hQ⟩
  | ret =>
    intro es e es' h hfr
    have h' : some (Exit.ret, es) = some (e, es') := h
    cases h'
    exact ⟨Gw.refl _, fun C Q _ _ _ hQ => DW.ret hQ⟩
  | exit id =>
    intro es e es' h hfr
    have h' : some (Exit.exit id, es) = some (e, es') := h
    cases h'
    exact ⟨Gw.refl _, fun C Q _ _ _ hQ => DW.exit hQ⟩
  | seq a b iha ihb =>
    intro es e es' h hfr
    have h' : cS (evalE n nt rd a) (evalE n nt rd b) call es = some (e, es') := h
    rcases cS_some h' with ⟨es1, h1, h2⟩ | ⟨h1, hne⟩
    · obtain ⟨g1, k1⟩ := iha _ _ _ h1 hfr
      obtain ⟨g2, k2⟩ := ihb _ _ _ h2 (Gw.fr hfr g1)
      exact ⟨g1.trans g2, fun C Q hP hnt hrd hQ => DW.seq (k1 C _ hP hnt hrd (k2 C Q hP hnt hrd hQ))⟩
    · obtain ⟨g1, k1⟩ := iha _ _ _ h1 hfr
      refine ⟨g1, fun C Q hP hnt hrd hQ => DW.seq (k1 C _ hP hnt hrd ?_)⟩
      cases e <;> first | exact hQ | exact absurd rfl hne
  | cond x a b iha ihb =>
    intro es e es' h hfr
    have h' : cC (.of x) (evalE n nt rd a) (evalE n nt rd b) call es = some (e, es') := h
    obtain ⟨t, ht, h2⟩ := cC_some h'
    cases t with
    | true =>
      rw [if_pos rfl] at h2
      obtain ⟨g1, k1⟩ := iha _ _ _ h2 hfr
      exact ⟨g1, fun C Q hP hnt hrd hQ => DW.cond ht (fun _ => k1 C Q hP hnt hrd hQ) (fun h => by cases h)⟩
    | false =>
      rw [if_neg (by simp)] at h2
      obtain ⟨g1, k1⟩ := ihb _ _ _ h2 hfr
      exact ⟨g1, fun C Q hP hnt hrd hQ => DW.cond ht (fun h => by cases h) (fun _ => k1 C Q hP hnt hrd hQ)⟩
  | blk id c ih =>
    intro es e es' h hfr
    have h' : cB id (evalE n nt rd c) call es = some (e, es') := h
    obtain ⟨e1, h1, h2⟩ := cB_some h'
    obtain ⟨g1, k1⟩ := ih _ _ _ h1 hfr
    exact ⟨g1, fun C Q hP hnt hrd hQ => DW.blk (k1 C _ hP hnt hrd (h2 Q hQ))⟩
  | loop c ih =>
    intro es e es' h hfr
    exact loop_ok ih n es e es' h hfr
  | reg draw ops info =>
    intro es e es' h hfr
    cases draw with
    | false =>
      have h' : cN (runE ops) call es = some (e, es') := h
      obtain ⟨h1, rfl⟩ := cN_some h'
      obtain ⟨g1, k1⟩ := runE_ok hc ops es es' h1 hfr
      exact ⟨g1, fun C Q hP hnt hrd hQ => DW.reg (by rw [hP]; exact k1 _ hQ)⟩
    | true =>
      cases hok : info.ok with
      | false =>
        have h' : (match info.ok with
          | true => cN (regE ops.length (rundE ops info.l 0))
          | false => fun _ _ => none : CE) call es = some (e, es') := h
        rw [hok] at h'
        cases h'
      | true =>
        have h' : (match info.ok with
          | true => cN (regE ops.length (rundE ops info.l 0))
          | false => fun _ _ => none : CE) call es = some (e, es') := h
        rw [hok] at h'
        have h'' : cN (regE ops.length (rundE ops info.l 0)) call es = some (e, es') := h'
        obtain ⟨h1, rfl⟩ := cN_some h''
        refine ⟨regE_gw hc h1 hfr, fun C Q hP hnt hrd hQ => ?_⟩
        intro code hcode
        obtain ⟨id, os, hcd, hl, hi⟩ := compC_reg hcode
        have hi' := hi rfl
        subst hi'
        subst hP
        exact (regE_ok hc hm hok h1 hfr).2 _ Q hQ code hcode
  | rng g ps a b iha ihb =>
    intro es e es' h hfr
    have h' : cR nt rd (.of g) ps a b call es = some (e, es') := h
    unfold cR at h'
    split at h'
    · cases h'
    rename_i hrdn
    rw [evE_eq] at h'
    split at h'
    rotate_left
    · cases h'
    rename_i f cs hfn
    split at h'
    rotate_left
    · cases h'
    rename_i d hp nx hcall
    obtain ⟨n1, n2, hcb, hcI⟩ := hc _ _ _ _ _ _ _ hcall (fun id hid => by
      rw [Tr.set_ho]
      simp only [setH]
      rw [if_neg (by omega)]
      exact hfr id (by show es.nx ≤ id; omega))
    rw [Tr.set_ho] at n2 hcI
    have gw : ∀ es2 : ES, es2.hp = hp.set es.nx none → es2.nx = nx → Gw es.ds es2.ds := fun es2 e1 e2 => by
      refine ⟨by show es.nx ≤ es2.nx; omega, fun id k1 k2 => ?_⟩
      have k2' : es2.hp.get id ≠ none := k2
      rw [e1, Tr.set_ho] at k2'
      simp only [setH] at k2'
      split at k2'
      · exact absurd rfl k2'
      · rename_i hne
        have := n2 id (by simp only [setH]; rw [if_neg hne]; exact k1) k2'
        show es.nx ≤ id ∧ id < es2.nx
        omega
    have dw : ∀ (C : Ctx) (Q : Exit → DS → Prop), C.P = P → C.nt = nt → (rd = false → C.rd = none) → (∃ lp, hp.get es.nx = some (.loop lp) ∧ lp.st ≠ .busy ∧ match lp.pend with
      | none => Q .normal ⟨es.ds.sv, setH hp.get es.nx none, nx⟩
      | some .ret => Q .ret ⟨es.ds.sv, setH hp.get es.nx none, nx⟩
      | some (.exit i) => Q (.exit i) ⟨es.ds.sv, setH hp.get es.nx none, nx⟩
      | _ => False) → DW C (.rng g ps a b) Q es.ds := fun C Q hP hnt hrd hQ => by
      subst hP hnt
      exact DW.rng (sl := .t es.sl) rfl (hrd (by simpa using hrdn)) hfn hcb (callC.i (ds := .yl es.nx :: cs) ⟨.yl es.nx, List.mem_cons_self, by simp [DV.refs]⟩ (hcI es.ds.sv _ hQ))
    split at h'
    rotate_left
    · cases h'
    rename_i lp hlp
    have hst : lp.st ≠ .busy := fun hb => by
      rw [hb] at h'
      cases h'
    have hmatch : (match lp.pend with
          | none => some (Exit.normal, ⟨es.sl, hp.set es.nx none, nx⟩)
          | some .ret => some (Exit.ret, ⟨es.sl, hp.set es.nx none, nx⟩)
          | some (.exit i) => some (Exit.exit i, ⟨es.sl, hp.set es.nx none, nx⟩)
          | _ => none) = some (e, es') := by
      revert h'
      split
      · rename_i hb; exact absurd hb hst
      · exact id
    have hfin : ∀ es2 : ES, es2 = ⟨es.sl, hp.set es.nx none, nx⟩ → es2.ds = ⟨es.ds.sv, setH hp.get es.nx none, nx⟩ := fun es2 he => by
      subst he
      rw [ds_eq, Tr.set_ho]; rfl
    cases hpe : lp.pend with
    | none =>
      rw [hpe] at hmatch
      cases hmatch
      refine ⟨gw _ rfl rfl, fun C Q hP hnt hrd hQ => dw C Q hP hnt hrd ⟨lp, hlp, hst, ?_⟩⟩
      rw [hpe]
      rw [hfin _ rfl] at hQ
      exact hQ
    | some p =>
      rw [hpe] at hmatch
      cases p with
      | ret =>
        cases hmatch
        refine ⟨gw _ rfl rfl, fun C Q hP hnt hrd hQ => dw C Q hP hnt hrd ⟨lp, hlp, hst, ?_⟩⟩
        rw [hpe]
        rw [hfin _ rfl] at hQ
        exact hQ
      | exit i =>
        cases hmatch
        refine ⟨gw _ rfl rfl, fun C Q hP hnt hrd hQ => dw C Q hP hnt hrd ⟨lp, hlp, hst, ?_⟩⟩
        rw [hpe]
        rw [hfin _ rfl] at hQ
        exact hQ
      | _ => cases hmatch
  | dfq t g cap =>
    intro es e es' h hfr
    cases rd with
    | true => cases h
    | false =>
      have h' : cN (stepE (some (pth t)) (.mkf (.func g) [] cap)) call es = some (e, es') := h
      obtain ⟨h1, rfl⟩ := cN_some h'
      have hex : Exd es.ds (.mkf (.func g) [] cap) (some t) es'.ds := stepE_ex (dst := some t) (fun _ _ e => by cases e) (fun _ _ _ e => by cases e) (fun _ _ e => by cases e) h1
      refine ⟨hex.gw hfr, fun C Q hP hnt hrd hQ => DW.dfq (hrd rfl) ?_⟩
      obtain ⟨d, u, h2, h3⟩ := hex
      have h4 : some (DV.fn (.func g) (.tup [] :: cap.map es.ds.ev), Upd.keep) = some (d, u) := h2
      cases h4
      rw [h3] at hQ
      exact hQ
  | bad =>
    intro es e es' h hfr
    cases h
end Go.DD

/- Functions that range over maps: all orders are run; what they leave alike is kept. -/
namespace Go.DD

/-- A state that knows less. -/
theorem Imp.weak {s s' : DS} (hsv : ∀ t, s'.sv t = s.sv t ∨ s'.sv t = .any) (hho : ∀ id, s'.ho id = s.ho id ∨ s'.ho id = none) (hnx : s.nx ≤ s'.nx) : Imp s s' := by
  intro C a w ⟨hR, β, hs⟩
  refine ⟨fun id h => Nat.lt_of_lt_of_le (hR id h) hnx, β, ?_⟩
  have h := hs.hh.less (U' := Us C s'.nx) (β' := β) (V' := s'.vw C) (fun id h => ⟨Nat.lt_of_lt_of_le h.1 hnx, h.2⟩) (fun _ => .inl rfl) (fun id => by
    unfold DS.vw vwF
    rcases hho id with e | e
    · rw [e]; exact .inl rfl
    · rw [e]
      cases hq : s.ho id with
      | none => exact .inl rfl
      | some o =>
        refine .inr ?_
        cases hy : C.Y id with
        | none => rfl
        | some o' => rw [hs.yd id o' hy] at hq; cases hq)
  refine ⟨h.1, h.2.2.mark hs.df, hs.sz, fun t => ?_, fun x d hx => h.2.1 _ _ (hs.gh x d hx), fun id o hy => ?_⟩
  · rcases hsv t with e | e
    · rw [e]; exact h.2.1 _ _ (hs.sl t)
    · rw [e]; exact WV.any
  · rcases hho id with e | e
    · rw [e]; exact hs.yd id o hy
    · exact e

/-! What two states have alike. -/
def meetV (a b : Option DObj) : Option DObj := match a, b with
  | some x, some y => if sameO x y then some x else none
  | _, _ => none
def meetS (a b : Option DV) : Option DV := match a, b with
  | some x, some y => if sameDV 6 x y then some x else none
  | _, _ => none
def meetT {α : Type} (f : Option α → Option α → Option α) : Tr α → Tr α → Tr α
  | .n l v r, .n l' v' r' => .n (meetT f l l') (f v v') (meetT f r r')
  | _, _ => .e
theorem meetT_get {α : Type} {f : Option α → Option α → Option α} (hf : f none none = none) : ∀ (a b : Tr α) (k : Nat), (meetT f a b).get k = f (a.get k) (b.get k) ∨ (meetT f a b).get k = none
  | .n l v r, .n l' v' r', 0 => .inl rfl
  | .n l v r, .n l' v' r', k + 1 => by
    simp only [meetT, Tr.get]
    split
    · exact meetT_get hf l l' _
    · exact meetT_get hf r r' _
  | .e, _, _ => .inr rfl
  | .n _ _ _, .e, _ => .inr rfl
theorem meetV_or (a b : Option DObj) : (meetV a b = a ∧ meetV a b = b) ∨ meetV a b = none := by
  unfold meetV
  split
  · split
    · rename_i h; rw [sameO_eq h]; exact .inl ⟨rfl, rfl⟩
    · exact .inr rfl
  · exact .inr rfl
theorem meetS_or (a b : Option DV) : (meetS a b = a ∧ meetS a b = b) ∨ meetS a b = none := by
  unfold meetS
  split
  · split
    · rename_i h; rw [sameDV_eq _ _ _ h]; exact .inl ⟨rfl, rfl⟩
    · exact .inr rfl
  · exact .inr rfl
def meetE (a b : ES) : ES := ⟨meetT meetS a.sl b.sl, meetT meetV a.hp b.hp, max a.nx b.nx⟩
/-- The one knows no more than the other. -/
structure Less (s s' : DS) : Prop where
  sv : ∀ t, s'.sv t = s.sv t ∨ s'.sv t = .any
  ho : ∀ id, s'.ho id = s.ho id ∨ s'.ho id = none
  nx : s.nx ≤ s'.nx
theorem Less.refl (s : DS) : Less s s := ⟨fun _ => .inl rfl, fun _ => .inl rfl, Nat.le_refl _⟩
theorem Less.trans {a b c : DS} (h : Less a b) (h' : Less b c) : Less a c := by
  refine ⟨fun t => ?_, fun id => ?_, Nat.le_trans h.nx h'.nx⟩
  · rcases h'.sv t with e | e
    · rw [e]; exact h.sv t
    · exact .inr e
  · rcases h'.ho id with e | e
    · rw [e]; exact h.ho id
    · exact .inr e
theorem meetE_l (a b : ES) : Less a.ds (meetE a b).ds := by
  refine ⟨fun t => ?_, fun id => ?_, Nat.le_max_left _ _⟩
  · show ((meetT meetS a.sl b.sl).get t).getD .any = (a.sl.get t).getD .any ∨ ((meetT meetS a.sl b.sl).get t).getD .any = .any
    rcases meetT_get (f := meetS) rfl a.sl b.sl t with h | h
    · rcases meetS_or (a.sl.get t) (b.sl.get t) with h2 | h2
      · rw [h, h2.1]; exact .inl rfl
      · rw [h, h2]; exact .inr rfl
    · rw [h]; exact .inr rfl
  · show (meetT meetV a.hp b.hp).get id = a.hp.get id ∨ _
    rcases meetT_get (f := meetV) rfl a.hp b.hp id with h | h
    · rcases meetV_or (a.hp.get id) (b.hp.get id) with h2 | h2
      · rw [h]; exact .inl h2.1
      · exact .inr (by show (meetT meetV a.hp b.hp).get id = none; rw [h, h2])
    · exact .inr h
theorem meetE_r (a b : ES) : Less b.ds (meetE a b).ds := by
  refine ⟨fun t => ?_, fun id => ?_, Nat.le_max_right _ _⟩
  · show ((meetT meetS a.sl b.sl).get t).getD .any = (b.sl.get t).getD .any ∨ ((meetT meetS a.sl b.sl).get t).getD .any = .any
    rcases meetT_get (f := meetS) rfl a.sl b.sl t with h | h
    · rcases meetS_or (a.sl.get t) (b.sl.get t) with h2 | h2
      · rw [h, h2.2]; exact .inl rfl
      · rw [h, h2]; exact .inr rfl
    · rw [h]; exact .inr rfl
  · show (meetT meetV a.hp b.hp).get id = b.hp.get id ∨ _
    rcases meetT_get (f := meetV) rfl a.hp b.hp id with h | h
    · rcases meetV_or (a.hp.get id) (b.hp.get id) with h2 | h2
      · rw [h]; exact .inl h2.2
      · exact .inr (by show (meetT meetV a.hp b.hp).get id = none; rw [h, h2])
    · exact .inr h

/-! All that may come. -/
def bindL {α β : Type} (f : α → Option (List β)) : List α → Option (List β)
  | [] => some []
  | a :: r => match f a with
    | some b => match bindL f r with
      | some c => some (b ++ c)
      | none => none
    | none => none
theorem bindL_some {α β : Type} {f : α → Option (List β)} : ∀ {l : List α} {m : List β}, bindL f l = some m → ∀ a ∈ l, ∃ b, f a = some b ∧ ∀ x ∈ b, x ∈ m
  | [], _, _, a, ha => by cases ha
  | a :: r, m, h, a', ha => by
    unfold bindL at h
    split at h
    rotate_left
    · cases h
    rename_i b hb
    split at h
    rotate_left
    · cases h
    rename_i c hc
    cases h
    rcases List.mem_cons.1 ha with rfl | ha
    · exact ⟨b, hb, fun x hx => List.mem_append.2 (.inl hx)⟩
    · obtain ⟨b', h1, h2⟩ := bindL_some hc a' ha
      exact ⟨b', h1, fun x hx => List.mem_append.2 (.inr (h2 x hx))⟩

noncomputable def runN : List DR → CallT → ES → Option (List ES)
  | [], _, es => some [es]
  | r :: rest, call, es => match r.op, r.g with
    | .nxm k x, none => match nxmL es.ds k x with
      | some l => bindL (fun p => runN rest call ((ES.mk es.sl (updE es.hp es.nx p.2) es.nx).putE (pthO r.dst) p.1)) l
      | none => none
    | _, _ => match stpR r call es with
      | some es' => runN rest call es'
      | none => none
noncomputable def loopN (f : ES → Option (List (Exit × ES))) : Nat → ES → Option (List (Exit × ES))
  | 0, _ => none
  | n + 1, es => match f es with
    | some l => bindL (fun p => match p.1 with
      | .normal => loopN f n p.2
      | e => some [(e, p.2)]) l
    | none => none
noncomputable def codeN (n nt : Nat) : DC → CallT → ES → Option (List (Exit × ES))
  | .skip, _, es => some [(.normal, es)]
  | .ret, _, es => some [(.ret, es)]
  | .exit id, _, es => some [(.exit id, es)]
  | .seq a b, call, es => match codeN n nt a call es with
    | some l => bindL (fun p => match p.1 with
      | .normal => codeN n nt b call p.2
      | e => some [(e, p.2)]) l
    | none => none
  | .cond x a b, call, es => match rawE es (.of x) with
    | .v (.bool t) => if t then codeN n nt a call es else codeN n nt b call es
    | _ => none
  | .blk id c, call, es => match codeN n nt c call es with
    | some l => some (l.map fun p => match p.1 with
      | .exit i => if i = id then (.normal, p.2) else (.exit i, p.2)
      | e => (e, p.2))
    | none => none
  | .loop c, call, es => loopN (codeN n nt c call) n es
  | .reg false ops _, call, es => match runN ops call es with
    | some l => some (l.map fun e => (.normal, e))
    | none => none
  | d, call, es => match evalE n nt false d call es with
    | some p => some [p]
    | none => none

/-- A piece of code comes to one of these. -/
def EvL (P : Program) (nt : Nat) (c : DC) (es : ES) (l : List (Exit × ES)) : Prop :=
  (∀ p ∈ l, Gw es.ds p.2.ds) ∧ ∀ (C : Ctx) (Q : Exit → DS → Prop), C.P = P → C.nt = nt → C.rd = none → (∀ p ∈ l, Q p.1 p.2.ds) → DW C c Q es.ds

theorem runN_ok {P : Program} {call : CallT} (hc : CallOK P call) : ∀ (ops : List DR) (es : ES) (l : List ES), runN ops call es = some l → es.ds.Fr → (∀ e ∈ l, Gw es.ds e.ds) ∧ ∀ K : DS → Prop, (∀ e ∈ l, K e.ds) → runOps P ops es.ds K
  | [], es, l, h, _ => by
    have h3 : some [es] = some l := h
    cases h3
    exact ⟨fun e he => by rw [List.mem_singleton] at he; subst he; exact Gw.refl _, fun K hK => hK es (by simp)⟩
  | r :: rest, es, l, h, hfr => by
    unfold runN at h
    split at h
    · rename_i k x ho hg
      split at h
      rotate_left
      · cases h
      rename_i lo hlo
      have hstep : ∀ p ∈ lo, ((ES.mk es.sl (updE es.hp es.nx p.2) es.nx).putE (pthO r.dst) p.1).ds = (es.ds.upd es.ds.nx p.2).put r.dst p.1 := fun p _ => by
        have e : (ES.mk es.sl (updE es.hp es.nx p.2) es.nx).ds = es.ds.upd es.ds.nx p.2 := by
          simp only [ES.ds, updE_ho]; rfl
        rw [putE_ds, e]
      have hgw : ∀ p ∈ lo, Gw es.ds ((ES.mk es.sl (updE es.hp es.nx p.2) es.nx).putE (pthO r.dst) p.1).ds := fun p hp => by
        rw [hstep p hp]
        exact (gw_updK (nxm_hasU hlo p hp).1 (nxm_hasU hlo p hp).2 _).trans (Gw.put _ _ _)
      refine ⟨fun e he => ?_, fun K hK => ?_⟩
      · have key : ∀ {lo' : List (DV × Upd)} {l' : List ES}, (∀ p ∈ lo', p ∈ lo) → bindL (fun p => runN rest call ((ES.mk es.sl (updE es.hp es.nx p.2) es.nx).putE (pthO r.dst) p.1)) lo' = some l' → ∀ e ∈ l', Gw es.ds e.ds := by
          intro lo'
          induction lo' with
          | nil => intro l' _ h e he; cases h; cases he
          | cons p lo' ih =>
            intro l' hsub h e he
            unfold bindL at h
            split at h
            rotate_left
            · cases h
            rename_i b hb
            split at h
            rotate_left
            · cases h
            rename_i c hcc
            cases h
            rcases List.mem_append.1 he with he | he
            · have hp := hsub p (by simp)
              exact (hgw p hp).trans ((runN_ok hc rest _ b hb (Gw.fr hfr (hgw p hp))).1 e he)
            · exact ih (fun q hq => hsub q (by simp [hq])) hcc e he
        exact key (fun p hp => hp) h e he
      · simp only [runOps, hg, DS.wanted]
        unfold stepR
        rw [ho]
        simp only [hlo]
        intro p hp
        obtain ⟨b, h1, h2⟩ := bindL_some h p hp
        rw [← hstep p hp]
        exact (runN_ok hc rest _ b h1 (Gw.fr hfr (hgw p hp))).2 K fun e he => hK e (h2 e he)
    · split at h
      rotate_left
      · cases h
      rename_i es1 h1
      obtain ⟨g1, k1⟩ := stpR_ok hc h1 hfr
      obtain ⟨g2, k2⟩ := runN_ok hc rest es1 l h (Gw.fr hfr g1)
      exact ⟨fun e he => g1.trans (g2 e he), fun K hK => k1 (k2 K hK)⟩

theorem bindL_gw {α : Type} {s : DS} {g : α → DS} {f : α → Option (List (Exit × ES))} (hg : ∀ a b, f a = some b → Gw s (g a) → ∀ p ∈ b, Gw s p.2.ds) : ∀ {l : List α} {m : List (Exit × ES)}, (∀ a ∈ l, Gw s (g a)) → bindL f l = some m → ∀ p ∈ m, Gw s p.2.ds
  | [], m, _, h, p, hp => by cases h; cases hp
  | a :: r, m, hl, h, p, hp => by
    unfold bindL at h
    split at h
    rotate_left
    · cases h
    rename_i b hb
    split at h
    rotate_left
    · cases h
    rename_i c hcc
    cases h
    rcases List.mem_append.1 hp with hp | hp
    · exact hg a b hb (hl a (by simp)) p hp
    · exact bindL_gw hg (fun x hx => hl x (by simp [hx])) hcc p hp

theorem codeN_ok {P : Program} {call : CallT} (hc : CallOK P call) (hm : P.follows .mixedOrders = true) {n nt : Nat} : ∀ (c : DC) (es : ES) (l : List (Exit × ES)), codeN n nt c call es = some l → es.ds.Fr → EvL P nt c es l := by
  intro c
  have one : ∀ (d : DC) (es : ES) (l : List (Exit × ES)), (match evalE n nt false d call es with
    | some p => some [p]
    | none => none) = some l → es.ds.Fr → EvL P nt d es l := by
    intro d es l h hfr
    split at h
    rotate_left
    · cases h
    rename_i p hp
    cases h
    obtain ⟨e, es'⟩ := p
    obtain ⟨g, k⟩ := evalE_ok hc hm d es e es' hp hfr
    exact ⟨fun q hq => by rw [List.mem_singleton] at hq; subst hq; exact g, fun C Q hP hnt hrd hQ => k C Q hP hnt (fun _ => hrd) (hQ (e, es') (by simp))⟩
  induction c with
  | skip =>
    intro es l h hfr
    have h' : some [(Exit.normal, es)] = some l := h
    cases h'
    exact ⟨fun q hq => by rw [List.mem_singleton] at hq; subst hq; exact Gw.refl _, fun C Q _ _ _ hQ => DW.skip (hQ (.normal, es) (by simp))⟩
  | ret =>
    intro es l h hfr
    have h' : some [(Exit.ret, es)] = some l := h
    cases h'
    exact ⟨fun q hq => by rw [List.mem_singleton] at hq; subst hq; exact Gw.refl _, fun C Q _ _ _ hQ => DW.ret (hQ (.ret, es) (by simp))⟩
  | exit id =>
    intro es l h hfr
    have h' : some [(Exit.exit id, es)] = some l := h
    cases h'
    exact ⟨fun q hq => by rw [List.mem_singleton] at hq; subst hq; exact Gw.refl _, fun C Q _ _ _ hQ => DW.exit (hQ (.exit id, es) (by simp))⟩
  | seq a b iha ihb =>
    intro es l h hfr
    unfold codeN at h
    split at h
    rotate_left
    · cases h
    rename_i la hla
    obtain ⟨ga, ka⟩ := iha es la hla hfr
    refine ⟨?_, fun C Q hP hnt hrd hQ => DW.seq (ka C _ hP hnt hrd fun p hp => ?_)⟩
    · refine bindL_gw (g := fun p : Exit × ES => p.2.ds) (fun p b hb hgp q hq => ?_) ga h
      split at hb
      · exact hgp.trans ((ihb p.2 b hb (Gw.fr hfr hgp)).1 q hq)
      · cases hb; rw [List.mem_singleton] at hq; subst hq; exact hgp
    · obtain ⟨m, h1, h2⟩ := bindL_some h p hp
      obtain ⟨e, es1⟩ := p
      cases e with
      | normal => exact (ihb es1 m h1 (Gw.fr hfr (ga _ hp))).2 C Q hP hnt hrd fun q hq => hQ q (h2 q hq)
      | _ => cases h1; exact hQ _ (h2 _ (by simp))
  | cond x a b iha ihb =>
    intro es l h hfr
    unfold codeN at h
    split at h
    rotate_left
    · cases h
    rename_i t ht
    rw [rawE_eq] at ht
    have ht' := evv ht
    split at h
    · rename_i htt
      obtain ⟨g, k⟩ := iha es l h hfr
      exact ⟨g, fun C Q hP hnt hrd hQ => DW.cond ht' (fun _ => k C Q hP hnt hrd hQ) (fun h => by rw [htt] at h; cases h)⟩
    · rename_i htt
      obtain ⟨g, k⟩ := ihb es l h hfr
      exact ⟨g, fun C Q hP hnt hrd hQ => DW.cond ht' (fun h => absurd h htt) (fun _ => k C Q hP hnt hrd hQ)⟩
  | blk id c ih =>
    intro es l h hfr
    unfold codeN at h
    split at h
    rotate_left
    · cases h
    rename_i lc hlc
    cases h
    obtain ⟨g, k⟩ := ih es lc hlc hfr
    refine ⟨fun p hp => ?_, fun C Q hP hnt hrd hQ => DW.blk (k C _ hP hnt hrd fun p hp => ?_)⟩
    · obtain ⟨q, hq, rfl⟩ := List.mem_map.1 hp
      obtain ⟨e, es1⟩ := q
      have := g _ hq
      cases e <;> first | exact this | (simp only; split <;> exact this)
    · have := hQ _ (List.mem_map.2 ⟨p, hp, rfl⟩)
      obtain ⟨e, es1⟩ := p
      cases e with
      | exit i =>
        simp only [blkQ] at this ⊢
        split
        · rename_i hi; rw [if_pos hi] at this; exact this
        · rename_i hi; rw [if_neg hi] at this; exact this
      | _ => exact this
  | loop c ih =>
    intro es l h hfr
    have h' : loopN (codeN n nt c call) n es = some l := h
    have gw : ∀ (m : Nat) (es : ES) (l : List (Exit × ES)), loopN (codeN n nt c call) m es = some l → es.ds.Fr → ∀ p ∈ l, Gw es.ds p.2.ds := by
      intro m
      induction m with
      | zero => intro es l h _; cases h
      | succ m im =>
        intro es l h hfr
        unfold loopN at h
        split at h
        rotate_left
        · cases h
        rename_i lc hlc
        obtain ⟨g, _⟩ := ih es lc hlc hfr
        refine bindL_gw (g := fun p : Exit × ES => p.2.ds) (fun p b hb hgp q hq => ?_) g h
        split at hb
        · exact hgp.trans (im p.2 b hb (Gw.fr hfr hgp) q hq)
        · cases hb; rw [List.mem_singleton] at hq; subst hq; exact hgp
    refine ⟨gw n es l h' hfr, fun C Q hP hnt hrd hQ => ?_⟩
    refine DW.loop (I := fun k s => ∃ es1 l1, s = es1.ds ∧ es1.ds.Fr ∧ loopN (codeN n nt c call) k es1 = some l1 ∧ ∀ p ∈ l1, Q p.1 p.2.ds) n ⟨es, l, rfl, hfr, h', hQ⟩ ?_
    rintro k s ⟨es1, l1, rfl, hfr1, h1, hQ1⟩
    cases k with
    | zero => cases h1
    | succ k =>
      unfold loopN at h1
      split at h1
      rotate_left
      · cases h1
      rename_i lc hlc
      obtain ⟨g, kk⟩ := ih es1 lc hlc hfr1
      refine kk C _ hP hnt hrd fun p hp => ?_
      obtain ⟨m, h2, h3⟩ := bindL_some h1 p hp
      obtain ⟨e, es2⟩ := p
      cases e with
      | normal => exact ⟨k, Nat.lt_succ_self k, es2, m, rfl, Gw.fr hfr1 (g _ hp), h2, fun q hq => hQ1 q (h3 q hq)⟩
      | _ => cases h2; exact hQ1 _ (h3 _ (by simp))
  | reg draw ops info =>
    intro es l h hfr
    cases draw with
    | false =>
      unfold codeN at h
      split at h
      rotate_left
      · cases h
      rename_i lc hlc
      cases h
      obtain ⟨g, k⟩ := runN_ok hc ops es lc hlc hfr
      refine ⟨fun p hp => ?_, fun C Q hP hnt hrd hQ => DW.reg (by rw [hP]; exact k _ fun e he => hQ _ (List.mem_map.2 ⟨e, he, rfl⟩))⟩
      obtain ⟨e, he, rfl⟩ := List.mem_map.1 hp
      exact g e he
    | true => exact one _ es l h hfr
  | rng g ps a b _ _ => intro es l h hfr; exact one _ es l h hfr
  | dfq t g cap => intro es l h hfr; exact one _ es l h hfr
  | bad => intro es l h hfr; exact one _ es l h hfr

/-- The last states, as one. -/
def meetL : List (Exit × ES) → Option ES
  | [] => none
  | [p] => match p.1 with
    | .normal => some p.2
    | .ret => some p.2
    | _ => none
  | p :: r => match p.1, meetL r with
    | .normal, some es => some (meetE p.2 es)
    | .ret, some es => some (meetE p.2 es)
    | _, _ => none
theorem meetL_ok : ∀ {l : List (Exit × ES)} {es : ES}, meetL l = some es → ∀ p ∈ l, (p.1 = .normal ∨ p.1 = .ret) ∧ Less p.2.ds es.ds
  | [p], es, h, q, hq => by
    rw [List.mem_singleton] at hq
    subst hq
    obtain ⟨e, es1⟩ := q
    cases e <;> simp only [meetL] at h <;> first | (cases h; done) | skip
    · cases h; exact ⟨.inl rfl, Less.refl _⟩
    · cases h; exact ⟨.inr rfl, Less.refl _⟩
  | p :: p' :: r, es, h, q, hq => by
    obtain ⟨e, es1⟩ := p
    cases hm : meetL (p' :: r) with
    | none => cases e <;> simp [meetL, hm] at h
    | some es2 =>
      have hee : (e = .normal ∨ e = .ret) ∧ es = meetE es1 es2 := by
        cases e <;> simp only [meetL, hm] at h <;> first | (cases h; done) | (cases h; first | exact ⟨.inl rfl, rfl⟩ | exact ⟨.inr rfl, rfl⟩)
      obtain ⟨h1, rfl⟩ := hee
      rcases List.mem_cons.1 hq with rfl | hq
      · exact ⟨h1, meetE_l _ _⟩
      · have := meetL_ok hm q hq
        exact ⟨this.1, this.2.trans (meetE_r _ _)⟩

/-- Does it step through a map? -/
def DC.hasN : DC → Bool
  | .seq a b => a.hasN || b.hasN
  | .cond _ a b => a.hasN || b.hasN
  | .blk _ c => c.hasN
  | .loop c => c.hasN
  | .reg false ops _ => ops.any fun r => match r.op with
    | .nxm _ _ => true
    | _ => false
  | _ => false
noncomputable def cM (n nt : Nat) (c : DC) : CE := fun call es => match codeN n nt c call es with
  | some l => match meetL l with
    | some es' => some (.ret, es')
    | none => none
  | none => none
/-- A body, as it is run. -/
noncomputable def runF (n nt : Nat) (c : DC) : CE := Bool.rec (motive := fun _ => CE) (evalE n nt false c) (cM n nt c) c.hasN

theorem runF_ok {P : Program} {call : CallT} (hc : CallOK P call) (hm : P.follows .mixedOrders = true) {n nt : Nat} {c : DC} {es es' : ES} {e : Exit} (h : runF n nt c call es = some (e, es')) (hfr : es.ds.Fr) :
    Gw es.ds es'.ds ∧ ∀ (C : Ctx) (Q : Exit → DS → Prop), C.P = P → C.nt = nt → C.rd = none → (∀ e', e' = e ∨ e' = .normal ∨ e' = .ret → Q e' es'.ds) → DW C c Q es.ds := by
  unfold runF at h
  cases hh : c.hasN with
  | false =>
    rw [hh] at h
    obtain ⟨g, k⟩ := evalE_ok hc hm c es e es' h hfr
    exact ⟨g, fun C Q hP hnt hrd hQ => k C Q hP hnt (fun _ => hrd) (hQ e (.inl rfl))⟩
  | true =>
    rw [hh] at h
    have h' : cM n nt c call es = some (e, es') := h
    unfold cM at h'
    split at h'
    rotate_left
    · cases h'
    rename_i l hl
    split at h'
    rotate_left
    · cases h'
    rename_i es2 hes2
    cases h'
    obtain ⟨g, k⟩ := codeN_ok hc hm c es l hl hfr
    have hml := meetL_ok hes2
    have hne : ∃ p, p ∈ l := by
      cases l with
      | nil => cases hes2
      | cons p r => exact ⟨p, by simp⟩
    obtain ⟨p0, hp0⟩ := hne
    refine ⟨⟨Nat.le_trans (g p0 hp0).le (hml p0 hp0).2.nx, fun id h1 h2 => ?_⟩, fun C Q hP hnt hrd hQ => ?_⟩
    · have hl0 := (hml p0 hp0).2
      rcases hl0.ho id with e | e
      · rw [e] at h2
        have := (g p0 hp0).new id h1 h2
        exact ⟨this.1, Nat.lt_of_lt_of_le this.2 hl0.nx⟩
      · exact absurd e h2
    · intro code hcode a w hs
      refine wpIn_mono (k C (fun e s => (e = .normal ∨ e = .ret) ∧ Less s es'.ds) hP hnt hrd (fun p hp => hml p hp) code hcode a w hs) ?_
      rintro e a' w' ⟨s, ⟨he, hls⟩, hh⟩
      exact ⟨es'.ds, hQ e (.inr he), Imp.weak hls.sv hls.ho hls.nx C a' w' hh⟩
end Go.DD
