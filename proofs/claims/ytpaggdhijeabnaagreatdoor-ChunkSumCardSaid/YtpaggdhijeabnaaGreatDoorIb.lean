/- Functions that range over maps: all orders are run; what they leave alike is kept. -/
import Derived.Test.YtpaggdhijeabnaaGreatDoorHz
namespace Go.DD

/-- A state that knows less. -/
theorem Imp.weak {s s' : DS} (hsv : ∀ t, s'.sv t = s.sv t ∨ s'.sv t = .any) (hho : ∀ id, s'.ho id = s.ho id ∨ s'.ho id = none) (hnx : s.nx ≤ s'.nx) : Imp s s' := by
  intro C a w ⟨hR, β, hs⟩
  refine ⟨fun id h => Nat.lt_of_lt_of_le (hR id h) hnx, β, ?_⟩
  have h := hs.hh.less (U' := Us C s'.nx) (β' := β) (V' := s'.vw C) (fun id h => ⟨Nat.lt_of_lt_of_le h.1 hnx, h.2⟩) (fun _ => .inl rfl) (fun id => by
    unfold DS.vw vwF
    rcases hho id with e | e
    · rw [e]; exact .inl rfl
    · rw [e]
      cases hq : s.ho id with
      | none => exact .inl rfl
      | some o =>
        refine .inr ?_
        cases hy : C.Y id with
        | none => rfl
        | some o' => rw [hs.yd id o' hy] at hq; cases hq)
  refine ⟨h.1, h.2.2.mark hs.df, hs.sz, fun t => ?_, fun x d hx => h.2.1 _ _ (hs.gh x d hx), fun id o hy => ?_⟩
  · rcases hsv t with e | e
    · rw [e]; exact h.2.1 _ _ (hs.sl t)
    · rw [e]; exact WV.any
  · rcases hho id with e | e
    · rw [e]; exact hs.yd id o hy
    · exact e

/-! What two states have alike. -/
def meetV (a b : Option DObj) : Option DObj := match a, b with
  | some x, some y => if sameO x y then some x else none
  | _, _ => none
def meetS (a b : Option DV) : Option DV := match a, b with
  | some x, some y => if sameDV 6 x y then some x else none
  | _, _ => none
def meetT {α : Type} (f : Option α → Option α → Option α) : Tr α → Tr α → Tr α
  | .n l v r, .n l' v' r' => .n (meetT f l l') (f v v') (meetT f r r')
  | _, _ => .e
theorem meetT_get {α : Type} {f : Option α → Option α → Option α} (hf : f none none = none) : ∀ (a b : Tr α) (k : Nat), (meetT f a b).get k = f (a.get k) (b.get k) ∨ (meetT f a b).get k = none
  | .n l v r, .n l' v' r', 0 => .inl rfl
  | .n l v r, .n l' v' r', k + 1 => by
    simp only [meetT, Tr.get]
    split
    · exact meetT_get hf l l' _
    · exact meetT_get hf r r' _
  | .e, _, _ => .inr rfl
  | .n _ _ _, .e, _ => .inr rfl
theorem meetV_or (a b : Option DObj) : (meetV a b = a ∧ meetV a b = b) ∨ meetV a b = none := by
  unfold meetV
  split
  · split
    · rename_i h; rw [sameO_eq h]; exact .inl ⟨rfl, rfl⟩
    · exact .inr rfl
  · exact .inr rfl
theorem meetS_or (a b : Option DV) : (meetS a b = a ∧ meetS a b = b) ∨ meetS a b = none := by
  unfold meetS
  split
  · split
    · rename_i h; rw [sameDV_eq _ _ _ h]; exact .inl ⟨rfl, rfl⟩
    · exact .inr rfl
  · exact .inr rfl
def meetE (a b : ES) : ES := ⟨meetT meetS a.sl b.sl, meetT meetV a.hp b.hp, max a.nx b.nx⟩
/-- The one knows no more than the other. -/
structure Less (s s' : DS) : Prop where
  sv : ∀ t, s'.sv t = s.sv t ∨ s'.sv t = .any
  ho : ∀ id, s'.ho id = s.ho id ∨ s'.ho id = none
  nx : s.nx ≤ s'.nx
theorem Less.refl (s : DS) : Less s s := ⟨fun _ => .inl rfl, fun _ => .inl rfl, Nat.le_refl _⟩
theorem Less.trans {a b c : DS} (h : Less a b) (h' : Less b c) : Less a c := by
  refine ⟨fun t => ?_, fun id => ?_, Nat.le_trans h.nx h'.nx⟩
  · rcases h'.sv t with e | e
    · rw [e]; exact h.sv t
    · exact .inr e
  · rcases h'.ho id with e | e
    · rw [e]; exact h.ho id
    · exact .inr e
theorem meetE_l (a b : ES) : Less a.ds (meetE a b).ds := by
  refine ⟨fun t => ?_, fun id => ?_, Nat.le_max_left _ _⟩
  · show ((meetT meetS a.sl b.sl).get t).getD .any = (a.sl.get t).getD .any ∨ ((meetT meetS a.sl b.sl).get t).getD .any = .any
    rcases meetT_get (f := meetS) rfl a.sl b.sl t with h | h
    · rcases meetS_or (a.sl.get t) (b.sl.get t) with h2 | h2
      · rw [h, h2.1]; exact .inl rfl
      · rw [h, h2]; exact .inr rfl
    · rw [h]; exact .inr rfl
  · show (meetT meetV a.hp b.hp).get id = a.hp.get id ∨ _
    rcases meetT_get (f := meetV) rfl a.hp b.hp id with h | h
    · rcases meetV_or (a.hp.get id) (b.hp.get id) with h2 | h2
      · rw [h]; exact .inl h2.1
      · exact .inr (by show (meetT meetV a.hp b.hp).get id = none; rw [h, h2])
    · exact .inr h
theorem meetE_r (a b : ES) : Less b.ds (meetE a b).ds := by
  refine ⟨fun t => ?_, fun id => ?_, Nat.le_max_right _ _⟩
  · show ((meetT meetS a.sl b.sl).get t).getD .any = (b.sl.get t).getD .any ∨ ((meetT meetS a.sl b.sl).get t).getD .any = .any
    rcases meetT_get (f := meetS) rfl a.sl b.sl t with h | h
    · rcases meetS_or (a.sl.get t) (b.sl.get t) with h2 | h2
      · rw [h, h2.2]; exact .inl rfl
      · rw [h, h2]; exact .inr rfl
    · rw [h]; exact .inr rfl
  · show (meetT meetV a.hp b.hp).get id = b.hp.get id ∨ _
    rcases meetT_get (f := meetV) rfl a.hp b.hp id with h | h
    · rcases meetV_or (a.hp.get id) (b.hp.get id) with h2 | h2
      · rw [h]; exact .inl h2.2
      · exact .inr (by show (meetT meetV a.hp b.hp).get id = none; rw [h, h2])
    · exact .inr h

/-! All that may come. -/
def bindL {α β : Type} (f : α → Option (List β)) : List α → Option (List β)
  | [] => some []
  | a :: r => match f a with
    | some b => match bindL f r with
      | some c => some (b ++ c)
      | none => none
    | none => none
theorem bindL_some {α β : Type} {f : α → Option (List β)} : ∀ {l : List α} {m : List β}, bindL f l = some m → ∀ a ∈ l, ∃ b, f a = some b ∧ ∀ x ∈ b, x ∈ m
  | [], _, _, a, ha => by cases ha
  | a :: r, m, h, a', ha => by
    unfold bindL at h
    split at h
    rotate_left
    · cases h
    rename_i b hb
    split at h
    rotate_left
    · cases h
    rename_i c hc
    cases h
    rcases List.mem_cons.1 ha with rfl | ha
    · exact ⟨b, hb, fun x hx => List.mem_append.2 (.inl hx)⟩
    · obtain ⟨b', h1, h2⟩ := bindL_some hc a' ha
      exact ⟨b', h1, fun x hx => List.mem_append.2 (.inr (h2 x hx))⟩

noncomputable def runN : List DR → CallT → ES → Option (List ES)
  | [], _, es => some [es]
  | r :: rest, call, es => match r.op, r.g with
    | .nxm k x, none => match nxmL es.ds k x with
      | some l => bindL (fun p => runN rest call ((ES.mk es.sl (updE es.hp es.nx p.2) es.nx).putE (pthO r.dst) p.1)) l
      | none => none
    | _, _ => match stpR r call es with
      | some es' => runN rest call es'
      | none => none
noncomputable def loopN (f : ES → Option (List (Exit × ES))) : Nat → ES → Option (List (Exit × ES))
  | 0, _ => none
  | n + 1, es => match f es with
    | some l => bindL (fun p => match p.1 with
      | .normal => loopN f n p.2
      | e => some [(e, p.2)]) l
    | none => none
noncomputable def codeN (n nt : Nat) : DC → CallT → ES → Option (List (Exit × ES))
  | .skip, _, es => some [(.normal, es)]
  | .ret, _, es => some [(.ret, es)]
  | .exit id, _, es => some [(.exit id, es)]
  | .seq a b, call, es => match codeN n nt a call es with
    | some l => bindL (fun p => match p.1 with
      | .normal => codeN n nt b call p.2
      | e => some [(e, p.2)]) l
    | none => none
  | .cond x a b, call, es => match rawE es (.of x) with
    | .v (.bool t) => if t then codeN n nt a call es else codeN n nt b call es
    | _ => none
  | .blk id c, call, es => match codeN n nt c call es with
    | some l => some (l.map fun p => match p.1 with
      | .exit i => if i = id then (.normal, p.2) else (.exit i, p.2)
      | e => (e, p.2))
    | none => none
  | .loop c, call, es => loopN (codeN n nt c call) n es
  | .reg false ops _, call, es => match runN ops call es with
    | some l => some (l.map fun e => (.normal, e))
    | none => none
  | d, call, es => match evalE n nt false d call es with
    | some p => some [p]
    | none => none

/-- A piece of code comes to one of these. -/
def EvL (P : Program) (nt : Nat) (c : DC) (es : ES) (l : List (Exit × ES)) : Prop :=
  (∀ p ∈ l, Gw es.ds p.2.ds) ∧ ∀ (C : Ctx) (Q : Exit → DS → Prop), C.P = P → C.nt = nt → C.rd = none → (∀ p ∈ l, Q p.1 p.2.ds) → DW C c Q es.ds

theorem runN_ok {P : Program} {call : CallT} (hc : CallOK P call) : ∀ (ops : List DR) (es : ES) (l : List ES), runN ops call es = some l → es.ds.Fr → (∀ e ∈ l, Gw es.ds e.ds) ∧ ∀ K : DS → Prop, (∀ e ∈ l, K e.ds) → runOps P ops es.ds K
  | [], es, l, h, _ => by
    have h3 : some [es] = some l := h
    cases h3
    exact ⟨fun e he => by rw [List.mem_singleton] at he; subst he; exact Gw.refl _, fun K hK => hK es (by simp)⟩
  | r :: rest, es, l, h, hfr => by
    unfold runN at h
    split at h
    · rename_i k x ho hg
      split at h
      rotate_left
      · cases h
      rename_i lo hlo
      have hstep : ∀ p ∈ lo, ((ES.mk es.sl (updE es.hp es.nx p.2) es.nx).putE (pthO r.dst) p.1).ds = (es.ds.upd es.ds.nx p.2).put r.dst p.1 := fun p _ => by
        have e : (ES.mk es.sl (updE es.hp es.nx p.2) es.nx).ds = es.ds.upd es.ds.nx p.2 := by
          simp only [ES.ds, updE_ho]; rfl
        rw [putE_ds, e]
      have hgw : ∀ p ∈ lo, Gw es.ds ((ES.mk es.sl (updE es.hp es.nx p.2) es.nx).putE (pthO r.dst) p.1).ds := fun p hp => by
        rw [hstep p hp]
        exact (gw_updK (nxm_hasU hlo p hp).1 (nxm_hasU hlo p hp).2 _).trans (Gw.put _ _ _)
      refine ⟨fun e he => ?_, fun K hK => ?_⟩
      · have key : ∀ {lo' : List (DV × Upd)} {l' : List ES}, (∀ p ∈ lo', p ∈ lo) → bindL (fun p => runN rest call ((ES.mk es.sl (updE es.hp es.nx p.2) es.nx).putE (pthO r.dst) p.1)) lo' = some l' → ∀ e ∈ l', Gw es.ds e.ds := by
          intro lo'
          induction lo' with
          | nil => intro l' _ h e he; cases h; cases he
          | cons p lo' ih =>
            intro l' hsub h e he
            unfold bindL at h
            split at h
            rotate_left
            · cases h
            rename_i b hb
            split at h
            rotate_left
            · cases h
            rename_i c hcc
            cases h
            rcases List.mem_append.1 he with he | he
            · have hp := hsub p (by simp)
              exact (hgw p hp).trans ((runN_ok hc rest _ b hb (Gw.fr hfr (hgw p hp))).1 e he)
            · exact ih (fun q hq => hsub q (by simp [hq])) hcc e he
        exact key (fun p hp => hp) h e he
      · simp only [runOps, hg, DS.wanted]
        unfold stepR
        rw [ho]
        simp only [hlo]
        intro p hp
        obtain ⟨b, h1, h2⟩ := bindL_some h p hp
        rw [← hstep p hp]
        exact (runN_ok hc rest _ b h1 (Gw.fr hfr (hgw p hp))).2 K fun e he => hK e (h2 e he)
    · split at h
      rotate_left
      · cases h
      rename_i es1 h1
      obtain ⟨g1, k1⟩ := stpR_ok hc h1 hfr
      obtain ⟨g2, k2⟩ := runN_ok hc rest es1 l h (Gw.fr hfr g1)
      exact ⟨fun e he => g1.trans (g2 e he), fun K hK => k1 (k2 K hK)⟩

theorem bindL_gw {α : Type} {s : DS} {g : α → DS} {f : α → Option (List (Exit × ES))} (hg : ∀ a b, f a = some b → Gw s (g a) → ∀ p ∈ b, Gw s p.2.ds) : ∀ {l : List α} {m : List (Exit × ES)}, (∀ a ∈ l, Gw s (g a)) → bindL f l = some m → ∀ p ∈ m, Gw s p.2.ds
  | [], m, _, h, p, hp => by cases h; cases hp
  | a :: r, m, hl, h, p, hp => by
    unfold bindL at h
    split at h
    rotate_left
    · cases h
    rename_i b hb
    split at h
    rotate_left
    · cases h
    rename_i c hcc
    cases h
    rcases List.mem_append.1 hp with hp | hp
    · exact hg a b hb (hl a (by simp)) p hp
    · exact bindL_gw hg (fun x hx => hl x (by simp [hx])) hcc p hp

theorem codeN_ok {P : Program} {call : CallT} (hc : CallOK P call) (hm : P.follows .mixedOrders = true) {n nt : Nat} : ∀ (c : DC) (es : ES) (l : List (Exit × ES)), codeN n nt c call es = some l → es.ds.Fr → EvL P nt c es l := by
  intro c
  have one : ∀ (d : DC) (es : ES) (l : List (Exit × ES)), (match evalE n nt false d call es with
    | some p => some [p]
    | none => none) = some l → es.ds.Fr → EvL P nt d es l := by
    intro d es l h hfr
    split at h
    rotate_left
    · cases h
    rename_i p hp
    cases h
    obtain ⟨e, es'⟩ := p
    obtain ⟨g, k⟩ := evalE_ok hc hm d es e es' hp hfr
    exact ⟨fun q hq => by rw [List.mem_singleton] at hq; subst hq; exact g, fun C Q hP hnt hrd hQ => k C Q hP hnt (fun _ => hrd) (hQ (e, es') (by simp))⟩
  induction c with
  | skip =>
    intro es l h hfr
    have h' : some [(Exit.normal, es)] = some l := h
    cases h'
    exact ⟨fun q hq => by rw [List.mem_singleton] at hq; subst hq; exact Gw.refl _, fun C Q _ _ _ hQ => DW.skip (hQ (.normal, es) (by simp))⟩
  | ret =>
    intro es l h hfr
    have h' : some [(Exit.ret, es)] = some l := h
    cases h'
    exact ⟨fun q hq => by rw [List.mem_singleton] at hq; subst hq; exact Gw.refl _, fun C Q _ _ _ hQ => DW.ret (hQ (.ret, es) (by simp))⟩
  | exit id =>
    intro es l h hfr
    have h' : some [(Exit.exit id, es)] = some l := h
    cases h'
    exact ⟨fun q hq => by rw [List.mem_singleton] at hq; subst hq; exact Gw.refl _, fun C Q _ _ _ hQ => DW.exit (hQ (.exit id, es) (by simp))⟩
  | seq a b iha ihb =>
    intro es l h hfr
    unfold codeN at h
    split at h
    rotate_left
    · cases h
    rename_i la hla
    obtain ⟨ga, ka⟩ := iha es la hla hfr
    refine ⟨?_, fun C Q hP hnt hrd hQ => DW.seq (ka C _ hP hnt hrd fun p hp => ?_)⟩
    · refine bindL_gw (g := fun p : Exit × ES => p.2.ds) (fun p b hb hgp q hq => ?_) ga h
      split at hb
      · exact hgp.trans ((ihb p.2 b hb (Gw.fr hfr hgp)).1 q hq)
      · cases hb; rw [List.mem_singleton] at hq; subst hq; exact hgp
    · obtain ⟨m, h1, h2⟩ := bindL_some h p hp
      obtain ⟨e, es1⟩ := p
      cases e with
      | normal => exact (ihb es1 m h1 (Gw.fr hfr (ga _ hp))).2 C Q hP hnt hrd fun q hq => hQ q (h2 q hq)
      | _ => cases h1; exact hQ _ (h2 _ (by simp))
  | cond x a b iha ihb =>
    intro es l h hfr
    unfold codeN at h
    split at h
    rotate_left
    · cases h
    rename_i t ht
    rw [rawE_eq] at ht
    have ht' := evv ht
    split at h
    · rename_i htt
      obtain ⟨g, k⟩ := iha es l h hfr
      exact ⟨g, fun C Q hP hnt hrd hQ => DW.cond ht' (fun _ => k C Q hP hnt hrd hQ) (fun h => by rw [htt] at h; cases h)⟩
    · rename_i htt
      obtain ⟨g, k⟩ := ihb es l h hfr
      exact ⟨g, fun C Q hP hnt hrd hQ => DW.cond ht' (fun h => absurd h htt) (fun _ => k C Q hP hnt hrd hQ)⟩
  | blk id c ih =>
    intro es l h hfr
    unfold codeN at h
    split at h
    rotate_left
    · cases h
    rename_i lc hlc
    cases h
    obtain ⟨g, k⟩ := ih es lc hlc hfr
    refine ⟨fun p hp => ?_, fun C Q hP hnt hrd hQ => DW.blk (k C _ hP hnt hrd fun p hp => ?_)⟩
    · obtain ⟨q, hq, rfl⟩ := List.mem_map.1 hp
      obtain ⟨e, es1⟩ := q
      have := g _ hq
      cases e <;> first | exact this | (simp only; split <;> exact this)
    · have := hQ _ (List.mem_map.2 ⟨p, hp, rfl⟩)
      obtain ⟨e, es1⟩ := p
      cases e with
      | exit i =>
        simp only [blkQ] at this ⊢
        split
        · rename_i hi; rw [if_pos hi] at this; exact this
        · rename_i hi; rw [if_neg hi] at this; exact this
      | _ => exact this
  | loop c ih =>
    intro es l h hfr
    have h' : loopN (codeN n nt c call) n es = some l := h
    have gw : ∀ (m : Nat) (es : ES) (l : List (Exit × ES)), loopN (codeN n nt c call) m es = some l → es.ds.Fr → ∀ p ∈ l, Gw es.ds p.2.ds := by
      intro m
      induction m with
      | zero => intro es l h _; cases h
      | succ m im =>
        intro es l h hfr
        unfold loopN at h
        split at h
        rotate_left
        · cases h
        rename_i lc hlc
        obtain ⟨g, _⟩ := ih es lc hlc hfr
        refine bindL_gw (g := fun p : Exit × ES => p.2.ds) (fun p b hb hgp q hq => ?_) g h
        split at hb
        · exact hgp.trans (im p.2 b hb (Gw.fr hfr hgp) q hq)
        · cases hb; rw [List.mem_singleton] at hq; subst hq; exact hgp
    refine ⟨gw n es l h' hfr, fun C Q hP hnt hrd hQ => ?_⟩
    refine DW.loop (I := fun k s => ∃ es1 l1, s = es1.ds ∧ es1.ds.Fr ∧ loopN (codeN n nt c call) k es1 = some l1 ∧ ∀ p ∈ l1, Q p.1 p.2.ds) n ⟨es, l, rfl, hfr, h', hQ⟩ ?_
    rintro k s ⟨es1, l1, rfl, hfr1, h1, hQ1⟩
    cases k with
    | zero => cases h1
    | succ k =>
      unfold loopN at h1
      split at h1
      rotate_left
      · cases h1
      rename_i lc hlc
      obtain ⟨g, kk⟩ := ih es1 lc hlc hfr1
      refine kk C _ hP hnt hrd fun p hp => ?_
      obtain ⟨m, h2, h3⟩ := bindL_some h1 p hp
      obtain ⟨e, es2⟩ := p
      cases e with
      | normal => exact ⟨k, Nat.lt_succ_self k, es2, m, rfl, Gw.fr hfr1 (g _ hp), h2, fun q hq => hQ1 q (h3 q hq)⟩
      | _ => cases h2; exact hQ1 _ (h3 _ (by simp))
  | reg draw ops info =>
    intro es l h hfr
    cases draw with
    | false =>
      unfold codeN at h
      split at h
      rotate_left
      · cases h
      rename_i lc hlc
      cases h
      obtain ⟨g, k⟩ := runN_ok hc ops es lc hlc hfr
      refine ⟨fun p hp => ?_, fun C Q hP hnt hrd hQ => DW.reg (by rw [hP]; exact k _ fun e he => hQ _ (List.mem_map.2 ⟨e, he, rfl⟩))⟩
      obtain ⟨e, he, rfl⟩ := List.mem_map.1 hp
      exact g e he
    | true => exact one _ es l h hfr
  | rng g ps a b _ _ => intro es l h hfr; exact one _ es l h hfr
  | dfq t g cap => intro es l h hfr; exact one _ es l h hfr
  | bad => intro es l h hfr; exact one _ es l h hfr

/-- The last states, as one. -/
def meetL : List (Exit × ES) → Option ES
  | [] => none
  | [p] => match p.1 with
    | .normal => some p.2
    | .ret => some p.2
    | _ => none
  | p :: r => match p.1, meetL r with
    | .normal, some es => some (meetE p.2 es)
    | .ret, some es => some (meetE p.2 es)
    | _, _ => none
theorem meetL_ok : ∀ {l : List (Exit × ES)} {es : ES}, meetL l = some es → ∀ p ∈ l, (p.1 = .normal ∨ p.1 = .ret) ∧ Less p.2.ds es.ds
  | [p], es, h, q, hq => by
    rw [List.mem_singleton] at hq
    subst hq
    obtain ⟨e, es1⟩ := q
    cases e <;> simp only [meetL] at h <;> first | (cases h; done) | skip
    · cases h; exact ⟨.inl rfl, Less.refl _⟩
    · cases h; exact ⟨.inr rfl, Less.refl _⟩
  | p :: p' :: r, es, h, q, hq => by
    obtain ⟨e, es1⟩ := p
    cases hm : meetL (p' :: r) with
    | none => cases e <;> simp [meetL, hm] at h
    | some es2 =>
      have hee : (e = .normal ∨ e = .ret) ∧ es = meetE es1 es2 := by
        cases e <;> simp only [meetL, hm] at h <;> first | (cases h; done) | (cases h; first | exact ⟨.inl rfl, rfl⟩ | exact ⟨.inr rfl, rfl⟩)
      obtain ⟨h1, rfl⟩ := hee
      rcases List.mem_cons.1 hq with rfl | hq
      · exact ⟨h1, meetE_l _ _⟩
      · have := meetL_ok hm q hq
        exact ⟨this.1, this.2.trans (meetE_r _ _)⟩

/-- Does it step through a map? -/
def DC.hasN : DC → Bool
  | .seq a b => a.hasN || b.hasN
  | .cond _ a b => a.hasN || b.hasN
  | .blk _ c => c.hasN
  | .loop c => c.hasN
  | .reg false ops _ => ops.any fun r => match r.op with
    | .nxm _ _ => true
    | _ => false
  | _ => false
noncomputable def cM (n nt : Nat) (c : DC) : CE := fun call es => match codeN n nt c call es with
  | some l => match meetL l with
    | some es' => some (.ret, es')
    | none => none
  | none => none
/-- A body, as it is run. -/
noncomputable def runF (n nt : Nat) (c : DC) : CE := Bool.rec (motive := fun _ => CE) (evalE n nt false c) (cM n nt c) c.hasN

theorem runF_ok {P : Program} {call : CallT} (hc : CallOK P call) (hm : P.follows .mixedOrders = true) {n nt : Nat} {c : DC} {es es' : ES} {e : Exit} (h : runF n nt c call es = some (e, es')) (hfr : es.ds.Fr) :
    Gw es.ds es'.ds ∧ ∀ (C : Ctx) (Q : Exit → DS → Prop), C.P = P → C.nt = nt → C.rd = none → (∀ e', e' = e ∨ e' = .normal ∨ e' = .ret → Q e' es'.ds) → DW C c Q es.ds := by
  unfold runF at h
  cases hh : c.hasN with
  | false =>
    rw [hh] at h
    obtain ⟨g, k⟩ := evalE_ok hc hm c es e es' h hfr
    exact ⟨g, fun C Q hP hnt hrd hQ => k C Q hP hnt (fun _ => hrd) (hQ e (.inl rfl))⟩
  | true =>
    rw [hh] at h
    have h' : cM n nt c call es = some (e, es') := h
    unfold cM at h'
    split at h'
    rotate_left
    · cases h'
    rename_i l hl
    split at h'
    rotate_left
    · cases h'
    rename_i es2 hes2
    cases h'
    obtain ⟨g, k⟩ := codeN_ok hc hm c es l hl hfr
    have hml := meetL_ok hes2
    have hne : ∃ p, p ∈ l := by
      cases l with
      | nil => cases hes2
      | cons p r => exact ⟨p, by simp⟩
    obtain ⟨p0, hp0⟩ := hne
    refine ⟨⟨Nat.le_trans (g p0 hp0).le (hml p0 hp0).2.nx, fun id h1 h2 => ?_⟩, fun C Q hP hnt hrd hQ => ?_⟩
    · have hl0 := (hml p0 hp0).2
      rcases hl0.ho id with e | e
      · rw [e] at h2
        have := (g p0 hp0).new id h1 h2
        exact ⟨this.1, Nat.lt_of_lt_of_le this.2 hl0.nx⟩
      · exact absurd e h2
    · intro code hcode a w hs
      refine wpIn_mono (k C (fun e s => (e = .normal ∨ e = .ret) ∧ Less s es'.ds) hP hnt hrd (fun p hp => hml p hp) code hcode a w hs) ?_
      rintro e a' w' ⟨s, ⟨he, hls⟩, hh⟩
      exact ⟨es'.ds, hQ e (.inr he), Imp.weak hls.sv hls.ho hls.nx C a' w' hh⟩
end Go.DD
