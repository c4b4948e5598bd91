/- Functions that range over maps: all orders are run; what they leave alike is kept. -/
import Derived.Test.YtnphfnhhpcelbaaGreatVe
import Derived.IntWalk
namespace Go.DD
theorem Imp.weak {s s' : DS} (hsv : ∀ t, s'.sv t = s.sv t ∨ s'.sv t = .any) (hho : ∀ id, s'.ho id = s.ho id ∨ s'.ho id = none) (hnx : s.nx ≤ s'.nx) : Imp s s' := by
  intro C a w ⟨hR, β, hs⟩
  refine ⟨fun id h => Nat.lt_of_lt_of_le (hR id h) hnx, β, ?_⟩
  have h := hs.hh.less (U' := Us C s'.nx) (β' := β) (V' := s'.vw C) (fun id h => ⟨Nat.lt_of_lt_of_le h.1 hnx, h.2⟩) (fun _ => .inl rfl) (fun id => by
    unfold DS.vw vwF
    rcases hho id with e | e
    · rw [e]; exact .inl rfl
    · rw [e]
      cases hq : s.ho id with
      | none => exact .inl rfl
      | some o =>
        refine .inr ?_
        cases hy : C.Y id with
        | none => rfl
        | some o' => rw [hs.yd id o' hy] at hq; cases hq)
  refine ⟨h.1, h.2.2.mark hs.df, hs.sz, fun t => ?_, fun x d hx => h.2.1 _ _ (hs.gh x d hx), fun id o hy => ?_⟩
  · rcases hsv t with e | e
    · rw [e]; exact h.2.1 _ _ (hs.sl t)
    · rw [e]; exact WV.any
  · rcases hho id with e | e
    · rw [e]; exact hs.yd id o hy
    · exact e
def meetV (a b : Option DObj) : Option DObj := match a, b with
  | some x, some y => if sameO x y then some x else none
  | _, _ => none
def meetS (a b : Option DV) : Option DV := match a, b with
  | some x, some y => if Ab7 6 x y then some x else none
  | _, _ => none
def meetT {α : Type} (f : Option α → Option α → Option α) : Tr α → Tr α → Tr α
  | .n l v r, .n l' v' r' => .n (meetT f l l') (f v v') (meetT f r r')
  | _, _ => .e
theorem Ai9 {α : Type} {f : Option α → Option α → Option α} (hf : f none none = none) : ∀ (a b : Tr α) (k : Nat), (meetT f a b).get k = f (a.get k) (b.get k) ∨ (meetT f a b).get k = none
  | .n l v r, .n l' v' r', 0 => .inl rfl
  | .n l v r, .n l' v' r', k + 1 => by
    simp only [meetT, Tr.get]
    split
    · exact Ai9 hf l l' _
    · exact Ai9 hf r r' _
  | .e, _, _ => .inr rfl
  | .n _ _ _, .e, _ => .inr rfl
theorem Bc0 (a b : Option DObj) : (meetV a b = a ∧ meetV a b = b) ∨ meetV a b = none := by
  unfold meetV
  split
  · split
    · rename_i h; rw [Bb6 h]; exact .inl ⟨rfl, rfl⟩
    · exact .inr rfl
  · exact .inr rfl
theorem Bc1 (a b : Option DV) : (meetS a b = a ∧ meetS a b = b) ∨ meetS a b = none := by
  unfold meetS
  split
  · split
    · rename_i h; rw [Ah0 _ _ _ h]; exact .inl ⟨rfl, rfl⟩
    · exact .inr rfl
  · exact .inr rfl
def meetE (a b : ES) : ES := ⟨meetT meetS a.sl b.sl, meetT meetV a.hp b.hp, max a.nx b.nx⟩
structure Less (s s' : DS) : Prop where
  sv : ∀ t, s'.sv t = s.sv t ∨ s'.sv t = .any
  ho : ∀ id, s'.ho id = s.ho id ∨ s'.ho id = none
  nx : s.nx ≤ s'.nx
theorem Less.refl (s : DS) : Less s s := ⟨fun _ => .inl rfl, fun _ => .inl rfl, Nat.le_refl _⟩
theorem Less.trans {a b c : DS} (h : Less a b) (h' : Less b c) : Less a c := by
  refine ⟨fun t => ?_, fun id => ?_, Nat.le_trans h.nx h'.nx⟩
  · rcases h'.sv t with e | e
    · rw [e]; exact h.sv t
    · exact .inr e
  · rcases h'.ho id with e | e
    · rw [e]; exact h.ho id
    · exact .inr e
theorem Ca1 (a b : ES) : Less a.ds (meetE a b).ds := by
  refine ⟨fun t => ?_, fun id => ?_, Nat.le_max_left _ _⟩
  · show ((meetT meetS a.sl b.sl).get t).getD .any = (a.sl.get t).getD .any ∨ ((meetT meetS a.sl b.sl).get t).getD .any = .any
    rcases Ai9 (f := meetS) rfl a.sl b.sl t with h | h
    · rcases Bc1 (a.sl.get t) (b.sl.get t) with h2 | h2
      · rw [h, h2.1]; exact .inl rfl
      · rw [h, h2]; exact .inr rfl
    · rw [h]; exact .inr rfl
  · show (meetT meetV a.hp b.hp).get id = a.hp.get id ∨ _
    rcases Ai9 (f := meetV) rfl a.hp b.hp id with h | h
    · rcases Bc0 (a.hp.get id) (b.hp.get id) with h2 | h2
      · rw [h]; exact .inl h2.1
      · exact .inr (by show (meetT meetV a.hp b.hp).get id = none; rw [h, h2])
    · exact .inr h
theorem Ca2 (a b : ES) : Less b.ds (meetE a b).ds := by
  refine ⟨fun t => ?_, fun id => ?_, Nat.le_max_right _ _⟩
  · show ((meetT meetS a.sl b.sl).get t).getD .any = (b.sl.get t).getD .any ∨ ((meetT meetS a.sl b.sl).get t).getD .any = .any
    rcases Ai9 (f := meetS) rfl a.sl b.sl t with h | h
    · rcases Bc1 (a.sl.get t) (b.sl.get t) with h2 | h2
      · rw [h, h2.2]; exact .inl rfl
      · rw [h, h2]; exact .inr rfl
    · rw [h]; exact .inr rfl
  · show (meetT meetV a.hp b.hp).get id = b.hp.get id ∨ _
    rcases Ai9 (f := meetV) rfl a.hp b.hp id with h | h
    · rcases Bc0 (a.hp.get id) (b.hp.get id) with h2 | h2
      · rw [h]; exact .inl h2.2
      · exact .inr (by show (meetT meetV a.hp b.hp).get id = none; rw [h, h2])
    · exact .inr h
def bindL {α β : Type} (f : α → Option (List β)) : List α → Option (List β)
  | [] => some []
  | a :: r => match f a with
    | some b => match bindL f r with
      | some c => some (b ++ c)
      | none => none
    | none => none
theorem Am4 {α β : Type} {f : α → Option (List β)} : ∀ {l : List α} {m : List β}, bindL f l = some m → ∀ a ∈ l, ∃ b, f a = some b ∧ ∀ x ∈ b, x ∈ m
  | [], _, _, a, ha => by cases ha
  | a :: r, m, h, a', ha => by
    unfold bindL at h
    split at h
    rotate_left
    · cases h
    rename_i b hb
    split at h
    rotate_left
    · cases h
    rename_i c hc
    cases h
    rcases List.mem_cons.1 ha with rfl | ha
    · exact ⟨b, hb, fun x hx => List.mem_append.2 (.inl hx)⟩
    · obtain ⟨b', h1, h2⟩ := Am4 hc a' ha
      exact ⟨b', h1, fun x hx => List.mem_append.2 (.inr (h2 x hx))⟩
noncomputable def runN : List DR → CallT → ES → Option (List ES)
  | [], _, es => some [es]
  | r :: rest, call, es => match r.op, r.g with
    | .nxm k x, none => match nxmL es.ds k x with
      | some l => bindL (fun p => runN rest call ((ES.mk es.sl (updE es.hp es.nx p.2) es.nx).putE (pthO r.dst) p.1)) l
      | none => none
    | _, _ => match stpR r call es with
      | some es' => runN rest call es'
      | none => none
noncomputable def loopN (f : ES → Option (List (Exit × ES))) : Nat → ES → Option (List (Exit × ES))
  | 0, _ => none
  | n + 1, es => match f es with
    | some l => bindL (fun p => match p.1 with
      | .normal => loopN f n p.2
      | e => some [(e, p.2)]) l
    | none => none
noncomputable def codeN (n nt : Nat) : DC → CallT → ES → Option (List (Exit × ES))
  | .skip, _, es => some [(.normal, es)]
  | .ret, _, es => some [(.ret, es)]
  | .exit id, _, es => some [(.exit id, es)]
  | .seq a b, call, es => match codeN n nt a call es with
    | some l => bindL (fun p => match p.1 with
      | .normal => codeN n nt b call p.2
      | e => some [(e, p.2)]) l
    | none => none
  | .cond x a b, call, es => match rawE es (.of x) with
    | .v (.bool t) => if t then codeN n nt a call es else codeN n nt b call es
    | _ => none
  | .blk id c, call, es => match codeN n nt c call es with
    | some l => some (l.map fun p => match p.1 with
      | .exit i => if i = id then (.normal, p.2) else (.exit i, p.2)
      | e => (e, p.2))
    | none => none
  | .loop c, call, es => loopN (codeN n nt c call) n es
  | .reg false ops _, call, es => match runN ops call es with
    | some l => some (l.map fun e => (.normal, e))
    | none => none
  | d, call, es => match evalE n nt false d call es with
    | some p => some [p]
    | none => none
def EvL (P : Program) (nt : Nat) (c : DC) (es : ES) (l : List (Exit × ES)) : Prop :=
  (∀ p ∈ l, Gw es.ds p.2.ds) ∧ ∀ (C : Ctx) (Q : Exit → DS → Prop), C.P = P → C.nt = nt → C.rd = none → (∀ p ∈ l, Q p.1 p.2.ds) → DW C c Q es.ds
theorem A05 {P : Program} {call : CallT} (hc : Ac7 P call) : ∀ (ops : List DR) (es : ES) (l : List ES), runN ops call es = some l → es.ds.Fr → (∀ e ∈ l, Gw es.ds e.ds) ∧ ∀ K : DS → Prop, (∀ e ∈ l, K e.ds) → Ai8 P ops es.ds K
  | [], es, l, h, _ => by
    have h3 : some [es] = some l := h
    cases h3
    exact ⟨fun e he => by rw [List.mem_singleton] at he; subst he; exact Gw.refl _, fun K hK => hK es (by simp)⟩
  | r :: rest, es, l, h, hfr => by
    unfold runN at h
    split at h
    · rename_i k x ho hg
      split at h
      rotate_left
      · cases h
      rename_i lo hlo
      have hstep : ∀ p ∈ lo, ((ES.mk es.sl (updE es.hp es.nx p.2) es.nx).putE (pthO r.dst) p.1).ds = (es.ds.upd es.ds.nx p.2).put r.dst p.1 := fun p _ => by
        have e : (ES.mk es.sl (updE es.hp es.nx p.2) es.nx).ds = es.ds.upd es.ds.nx p.2 := by
          simp only [ES.ds, Az8]; rfl
        rw [Af7, e]
      have hgw : ∀ p ∈ lo, Gw es.ds ((ES.mk es.sl (updE es.hp es.nx p.2) es.nx).putE (pthO r.dst) p.1).ds := fun p hp => by
        rw [hstep p hp]
        exact (Bm2 (Az9 hlo p hp).1 (Az9 hlo p hp).2 _).trans (Gw.put _ _ _)
      refine ⟨fun e he => ?_, fun K hK => ?_⟩
      · have key : ∀ {lo' : List (DV × Upd)} {l' : List ES}, (∀ p ∈ lo', p ∈ lo) → bindL (fun p => runN rest call ((ES.mk es.sl (updE es.hp es.nx p.2) es.nx).putE (pthO r.dst) p.1)) lo' = some l' → ∀ e ∈ l', Gw es.ds e.ds := by
          intro lo'
          induction lo' with
          | nil => intro l' _ h e he; cases h; cases he
          | cons p lo' ih =>
            intro l' hsub h e he
            unfold bindL at h
            split at h
            rotate_left
            · cases h
            rename_i b hb
            split at h
            rotate_left
            · cases h
            rename_i c hcc
            cases h
            rcases List.mem_append.1 he with he | he
            · have hp := hsub p (by simp)
              exact (hgw p hp).trans ((A05 hc rest _ b hb (Gw.fr hfr (hgw p hp))).1 e he)
            · exact ih (fun q hq => hsub q (by simp [hq])) hcc e he
        exact key (fun p hp => hp) h e he
      · simp only [Ai8, hg, DS.wanted]
        unfold stepR
        rw [ho]
        simp only [hlo]
        intro p hp
        obtain ⟨b, h1, h2⟩ := Am4 h p hp
        rw [← hstep p hp]
        exact (A05 hc rest _ b h1 (Gw.fr hfr (hgw p hp))).2 K fun e he => hK e (h2 e he)
    · split at h
      rotate_left
      · cases h
      rename_i es1 h1
      obtain ⟨g1, k1⟩ := Bm3 hc h1 hfr
      obtain ⟨g2, k2⟩ := A05 hc rest es1 l h (Gw.fr hfr g1)
      exact ⟨fun e he => g1.trans (g2 e he), fun K hK => k1 (k2 K hK)⟩
theorem A06 {α : Type} {s : DS} {g : α → DS} {f : α → Option (List (Exit × ES))} (hg : ∀ a b, f a = some b → Gw s (g a) → ∀ p ∈ b, Gw s p.2.ds) : ∀ {l : List α} {m : List (Exit × ES)}, (∀ a ∈ l, Gw s (g a)) → bindL f l = some m → ∀ p ∈ m, Gw s p.2.ds
  | [], m, _, h, p, hp => by cases h; cases hp
  | a :: r, m, hl, h, p, hp => by
    unfold bindL at h
    split at h
    rotate_left
    · cases h
    rename_i b hb
    split at h
    rotate_left
    · cases h
    rename_i c hcc
    cases h
    rcases List.mem_append.1 hp with hp | hp
    · exact hg a b hb (hl a (by simp)) p hp
    · exact A06 hg (fun x hx => hl x (by simp [hx])) hcc p hp
theorem Bw3 {P : Program} {call : CallT} (hc : Ac7 P call) (hm : P.follows .mixedOrders = true) {n nt : Nat} : ∀ (c : DC) (es : ES) (l : List (Exit × ES)), codeN n nt c call es = some l → es.ds.Fr → EvL P nt c es l := by
  intro c
  have one : ∀ (d : DC) (es : ES) (l : List (Exit × ES)), (match evalE n nt false d call es with
    | some p => some [p]
    | none => none) = some l → es.ds.Fr → EvL P nt d es l := by
    intro d es l h hfr
    split at h
    rotate_left
    · cases h
    rename_i p hp
    cases h
    obtain ⟨e, es'⟩ := p
    obtain ⟨g, k⟩ := As3 hc hm d es e es' hp hfr
    exact ⟨fun q hq => by rw [List.mem_singleton] at hq; subst hq; exact g, fun C Q hP hnt hrd hQ => k C Q hP hnt (fun _ => hrd) (hQ (e, es') (by simp))⟩
  induction c with
  | skip =>
    intro es l h hfr
    have h' : some [(Exit.normal, es)] = some l := h
    cases h'
    exact ⟨fun q hq => by rw [List.mem_singleton] at hq; subst hq; exact Gw.refl _, fun C Q _ _ _ hQ => DW.skip (hQ (.normal, es) (by simp))⟩
  | ret =>
    intro es l h hfr
    have h' : some [(Exit.ret, es)] = some l := h
    cases h'
    exact ⟨fun q hq => by rw [List.mem_singleton] at hq; subst hq; exact Gw.refl _, fun C Q _ _ _ hQ => DW.ret (hQ (.ret, es) (by simp))⟩
  | exit id =>
    intro es l h hfr
    have h' : some [(Exit.exit id, es)] = some l := h
    cases h'
    exact ⟨fun q hq => by rw [List.mem_singleton] at hq; subst hq; exact Gw.refl _, fun C Q _ _ _ hQ => DW.exit (hQ (.exit id, es) (by simp))⟩
  | seq a b iha ihb =>
    intro es l h hfr
    unfold codeN at h
    split at h
    rotate_left
    · cases h
    rename_i la hla
    obtain ⟨ga, ka⟩ := iha es la hla hfr
    refine ⟨?_, fun C Q hP hnt hrd hQ => DW.seq (ka C _ hP hnt hrd fun p hp => ?_)⟩
    · refine A06 (g := fun p : Exit × ES => p.2.ds) (fun p b hb hgp q hq => ?_) ga h
      split at hb
      · exact hgp.trans ((ihb p.2 b hb (Gw.fr hfr hgp)).1 q hq)
      · cases hb; rw [List.mem_singleton] at hq; subst hq; exact hgp
    · obtain ⟨m, h1, h2⟩ := Am4 h p hp
      obtain ⟨e, es1⟩ := p
      cases e with
      | normal => exact (ihb es1 m h1 (Gw.fr hfr (ga _ hp))).2 C Q hP hnt hrd fun q hq => hQ q (h2 q hq)
      | _ => cases h1; exact hQ _ (h2 _ (by simp))
  | cond x a b iha ihb =>
    intro es l h hfr
    unfold codeN at h
    split at h
    rotate_left
    · cases h
    rename_i t ht
    rw [Aa9] at ht
    have ht' := evv ht
    split at h
    · rename_i htt
      obtain ⟨g, k⟩ := iha es l h hfr
      exact ⟨g, fun C Q hP hnt hrd hQ => DW.cond ht' (fun _ => k C Q hP hnt hrd hQ) (fun h => by rw [htt] at h; cases h)⟩
    · rename_i htt
      obtain ⟨g, k⟩ := ihb es l h hfr
      exact ⟨g, fun C Q hP hnt hrd hQ => DW.cond ht' (fun h => absurd h htt) (fun _ => k C Q hP hnt hrd hQ)⟩
  | blk id c ih =>
    intro es l h hfr
    unfold codeN at h
    split at h
    rotate_left
    · cases h
    rename_i lc hlc
    cases h
    obtain ⟨g, k⟩ := ih es lc hlc hfr
    refine ⟨fun p hp => ?_, fun C Q hP hnt hrd hQ => DW.blk (k C _ hP hnt hrd fun p hp => ?_)⟩
    · obtain ⟨q, hq, rfl⟩ := List.mem_map.1 hp
      obtain ⟨e, es1⟩ := q
      have := g _ hq
      cases e <;> first | exact this | (simp only; split <;> exact this)
    · have := hQ _ (List.mem_map.2 ⟨p, hp, rfl⟩)
      obtain ⟨e, es1⟩ := p
      cases e with
      | exit i =>
        simp only [blkQ] at this ⊢
        split
        · rename_i hi; rw [if_pos hi] at this; exact this
        · rename_i hi; rw [if_neg hi] at this; exact this
      | _ => exact this
  | loop c ih =>
    intro es l h hfr
    have h' : loopN (codeN n nt c call) n es = some l := h
    have gw : ∀ (m : Nat) (es : ES) (l : List (Exit × ES)), loopN (codeN n nt c call) m es = some l → es.ds.Fr → ∀ p ∈ l, Gw es.ds p.2.ds := by
      intro m
      induction m with
      | zero => intro es l h _; cases h
      | succ m im =>
        intro es l h hfr
        unfold loopN at h
        split at h
        rotate_left
        · cases h
        rename_i lc hlc
        obtain ⟨g, _⟩ := ih es lc hlc hfr
        refine A06 (g := fun p : Exit × ES => p.2.ds) (fun p b hb hgp q hq => ?_) g h
        split at hb
        · exact hgp.trans (im p.2 b hb (Gw.fr hfr hgp) q hq)
        · cases hb; rw [List.mem_singleton] at hq; subst hq; exact hgp
    refine ⟨gw n es l h' hfr, fun C Q hP hnt hrd hQ => ?_⟩
    refine DW.loop (I := fun k s => ∃ es1 l1, s = es1.ds ∧ es1.ds.Fr ∧ loopN (codeN n nt c call) k es1 = some l1 ∧ ∀ p ∈ l1, Q p.1 p.2.ds) n ⟨es, l, rfl, hfr, h', hQ⟩ ?_
    rintro k s ⟨es1, l1, rfl, hfr1, h1, hQ1⟩
    cases k with
    | zero => cases h1
    | succ k =>
      unfold loopN at h1
      split at h1
      rotate_left
      · cases h1
      rename_i lc hlc
      obtain ⟨g, kk⟩ := ih es1 lc hlc hfr1
      refine kk C _ hP hnt hrd fun p hp => ?_
      obtain ⟨m, h2, h3⟩ := Am4 h1 p hp
      obtain ⟨e, es2⟩ := p
      cases e with
      | normal => exact ⟨k, Nat.lt_succ_self k, es2, m, rfl, Gw.fr hfr1 (g _ hp), h2, fun q hq => hQ1 q (h3 q hq)⟩
      | _ => cases h2; exact hQ1 _ (h3 _ (by simp))
  | reg draw ops info =>
    intro es l h hfr
    cases draw with
    | false =>
      unfold codeN at h
      split at h
      rotate_left
      · cases h
      rename_i lc hlc
      cases h
      obtain ⟨g, k⟩ := A05 hc ops es lc hlc hfr
      refine ⟨fun p hp => ?_, fun C Q hP hnt hrd hQ => DW.reg (by rw [hP]; exact k _ fun e he => hQ _ (List.mem_map.2 ⟨e, he, rfl⟩))⟩
      obtain ⟨e, he, rfl⟩ := List.mem_map.1 hp
      exact g e he
    | true => exact one _ es l h hfr
  | rng g ps a b _ _ => intro es l h hfr; exact one _ es l h hfr
  | dfq t g cap => intro es l h hfr; exact one _ es l h hfr
  | bad => intro es l h hfr; exact one _ es l h hfr
def meetL : List (Exit × ES) → Option ES
  | [] => none
  | [p] => match p.1 with
    | .normal => some p.2
    | .ret => some p.2
    | _ => none
  | p :: r => match p.1, meetL r with
    | .normal, some es => some (meetE p.2 es)
    | .ret, some es => some (meetE p.2 es)
    | _, _ => none
theorem Bc2 : ∀ {l : List (Exit × ES)} {es : ES}, meetL l = some es → ∀ p ∈ l, (p.1 = .normal ∨ p.1 = .ret) ∧ Less p.2.ds es.ds
  | [p], es, h, q, hq => by
    rw [List.mem_singleton] at hq
    subst hq
    obtain ⟨e, es1⟩ := q
    cases e <;> simp only [meetL] at h <;> first | (cases h; done) | skip
    · cases h; exact ⟨.inl rfl, Less.refl _⟩
    · cases h; exact ⟨.inr rfl, Less.refl _⟩
  | p :: p' :: r, es, h, q, hq => by
    obtain ⟨e, es1⟩ := p
    cases hm : meetL (p' :: r) with
    | none => cases e <;> simp [meetL, hm] at h
    | some es2 =>
      have hee : (e = .normal ∨ e = .ret) ∧ es = meetE es1 es2 := by
        cases e <;> simp only [meetL, hm] at h <;> first | (cases h; done) | (cases h; first | exact ⟨.inl rfl, rfl⟩ | exact ⟨.inr rfl, rfl⟩)
      obtain ⟨h1, rfl⟩ := hee
      rcases List.mem_cons.1 hq with rfl | hq
      · exact ⟨h1, Ca1 _ _⟩
      · have := Bc2 hm q hq
        exact ⟨this.1, this.2.trans (Ca2 _ _)⟩
def DC.hasN : DC → Bool
  | .seq a b => a.hasN || b.hasN
  | .cond _ a b => a.hasN || b.hasN
  | .blk _ c => c.hasN
  | .loop c => c.hasN
  | .reg false ops _ => ops.any fun r => match r.op with
    | .nxm _ _ => true
    | _ => false
  | _ => false
noncomputable def cM (n nt : Nat) (c : DC) : CE := fun call es => match codeN n nt c call es with
  | some l => match meetL l with
    | some es' => some (.ret, es')
    | none => none
  | none => none
noncomputable def runF (n nt : Nat) (c : DC) : CE := Bool.rec (motive := fun _ => CE) (evalE n nt false c) (cM n nt c) c.hasN
theorem Ca3 {P : Program} {call : CallT} (hc : Ac7 P call) (hm : P.follows .mixedOrders = true) {n nt : Nat} {c : DC} {es es' : ES} {e : Exit} (h : runF n nt c call es = some (e, es')) (hfr : es.ds.Fr) :
    Gw es.ds es'.ds ∧ ∀ (C : Ctx) (Q : Exit → DS → Prop), C.P = P → C.nt = nt → C.rd = none → (∀ e', e' = e ∨ e' = .normal ∨ e' = .ret → Q e' es'.ds) → DW C c Q es.ds := by
  unfold runF at h
  cases hh : c.hasN with
  | false =>
    rw [hh] at h
    obtain ⟨g, k⟩ := As3 hc hm c es e es' h hfr
    exact ⟨g, fun C Q hP hnt hrd hQ => k C Q hP hnt (fun _ => hrd) (hQ e (.inl rfl))⟩
  | true =>
    rw [hh] at h
    have h' : cM n nt c call es = some (e, es') := h
    unfold cM at h'
    split at h'
    rotate_left
    · cases h'
    rename_i l hl
    split at h'
    rotate_left
    · cases h'
    rename_i es2 hes2
    cases h'
    obtain ⟨g, k⟩ := Bw3 hc hm c es l hl hfr
    have hml := Bc2 hes2
    have hne : ∃ p, p ∈ l := by
      cases l with
      | nil => cases hes2
      | cons p r => exact ⟨p, by simp⟩
    obtain ⟨p0, hp0⟩ := hne
    refine ⟨⟨Nat.le_trans (g p0 hp0).le (hml p0 hp0).2.nx, fun id h1 h2 => ?_⟩, fun C Q hP hnt hrd hQ => ?_⟩
    · have hl0 := (hml p0 hp0).2
      rcases hl0.ho id with e | e
      · rw [e] at h2
        have := (g p0 hp0).new id h1 h2
        exact ⟨this.1, Nat.lt_of_lt_of_le this.2 hl0.nx⟩
      · exact absurd e h2
    · intro code hcode a w hs
      refine wpIn_mono (k C (fun e s => (e = .normal ∨ e = .ret) ∧ Less s es'.ds) hP hnt hrd (fun p hp => hml p hp) code hcode a w hs) ?_
      rintro e a' w' ⟨s, ⟨he, hls⟩, hh⟩
      exact ⟨es'.ds, hQ e (.inr he), Imp.weak hls.sv hls.ho hls.nx C a' w' hh⟩
end Go.DD

/- The evaluator's calls; what a closed run shows. -/
namespace Go.DD
theorem Bc3 (ds : List DV) (t : Nat) : ((argT ds).get t).getD .any = argF ds t := by
  have key : ∀ (ds : List DV) (i : Nat) (tr : Tr DV), (List.rec (motive := fun _ => Nat → Tr DV → Tr DV) (fun _ t => t) (fun d _ ih i t => ih (i + 1) (sP (pth i) (some d) t)) ds i tr : Tr DV).get t = if i ≤ t ∧ t < i + ds.length then ds[t - i]? else tr.get t := by
    intro ds
    induction ds with
    | nil =>
      intro i tr
      rw [if_neg (by simp only [List.length_nil]; omega)]
    | cons d ds ih =>
      intro i tr
      show (List.rec (motive := fun _ => Nat → Tr DV → Tr DV) (fun _ t => t) (fun d _ ih i t => ih (i + 1) (sP (pth i) (some d) t)) ds (i + 1) (sP (pth i) (some d) tr) : Tr DV).get t = _
      rw [ih, Bl8]
      by_cases h1 : i + 1 ≤ t ∧ t < i + 1 + ds.length
      · rw [if_pos h1, if_pos (by simp; omega)]
        rw [show t - i = (t - (i + 1)) + 1 by omega]
        simp
      · rw [if_neg h1]
        by_cases h2 : i = t
        · subst h2
          rw [if_pos rfl, if_pos (by simp)]
          simp
        · rw [if_neg h2, if_neg (by simp; omega)]
  have := key ds 0 .e
  unfold argT argF
  rw [this]
  by_cases h : t < ds.length
  · rw [if_pos (by omega)]; simp
  · rw [if_neg (by omega), List.getElem?_eq_none (by omega)]
    cases t <;> rfl
theorem Bc4 : ∀ (ps : List Nat) (ds : List DV) (sl : Tr DV), (fun u => ((zipT ps ds sl).get u).getD .any) = zipF ps ds fun u => (sl.get u).getD .any
  | [], ds, sl => by cases ds <;> rfl
  | p :: ps, [], sl => rfl
  | p :: ps, d :: ds, sl => by
    have e : zipT (p :: ps) (d :: ds) sl = zipT ps ds (sP (pth p) (some d) sl) := rfl
    rw [e, Bc4 ps ds]
    simp only [zipF]
    congr 1
    funext u
    rw [Bl8]
    by_cases h : p = u
    · simp [h]
    · simp [h]
theorem Ci5 {k : Option Nat} {t : Nat} {es : ES} {d : DV} (h : xLp k (.t (pth t)) es = some d) : resD es.ds (t, some k) = some d := by
  unfold xLp at h
  rcases Al5 h with ⟨_, _, h⟩ | ⟨id, off, ha, h⟩
  · cases h
  · obtain ⟨T, cs, hr, h⟩ := Av0 h
    have ha' : es.ds.rv (.tmp t) = .pt id off := by rw [← Aa9]; exact ha
    have ho : es.ds.ho id = some (.row T cs) := hr
    simp only [resD, ev_pt ha' (by rw [ho]; rfl), ho]
    rw [← Ad8, ← Ao7]
    exact h
theorem Ca4 {es : ES} {q : Nat × Option (Option Nat)} {d : DV} (h : resE es q = some d) : resD es.ds q = some d := by
  obtain ⟨t, k⟩ := q
  cases k with
  | none =>
    have h' : some (evE es (.t (pth t))) = some d := h
    have e : evE es (.t (pth t)) = es.ds.ev (.tmp t) := Al2 es (.tmp t)
    rw [e] at h'
    exact h'
  | some k => exact Ci5 h
theorem Bn1 {es : ES} : ∀ {qs : List (Nat × Option (Option Nat))} {ds : List DV}, qs.mapM (resE es) = some ds → qs.mapM (resD es.ds) = some ds
  | [], ds, h => by simpa using h
  | q :: qs, ds, h => by
    simp only [List.mapM_cons, Option.bind_eq_bind, Option.bind_eq_some_iff, Option.pure_def] at h ⊢
    obtain ⟨d, hd, dt, hdt, h⟩ := h
    exact ⟨d, Ca4 hd, dt, Bn1 hdt, h⟩
theorem Ca5 {es : ES} {qs : List (Nat × Option (Option Nat))} {d : DV} {hp : Tr DObj} {nx : Nat} (h : finE qs es = some (d, hp, nx)) : resV es.ds qs = some d ∧ hp = es.hp ∧ nx = es.nx := by
  unfold finE at h
  cases hm : qs.mapM (resE es) with
  | none => rw [hm] at h; cases h
  | some ds =>
    rw [hm] at h
    have h2 := Bn1 hm
    unfold resV
    rw [h2]
    match ds, h with
    | [], h => cases h; exact ⟨rfl, rfl, rfl⟩
    | [x], h => cases h; exact ⟨rfl, rfl, rfl⟩
    | x :: y :: l, h => cases h; exact ⟨rfl, rfl, rfl⟩
noncomputable def fnE (P : Program) (n : Nat) (fn : Func) : Option FE := match Aw4 P fn with
  | some df => some ⟨runF n df.nt df.code, df.res, df.nt⟩
  | none => none
def TbAt (P : Program) (n f : Nat) (fe : FE) : Prop := Ac2 P f = true ∧ ∃ fn df, P.funcs[f]? = some fn ∧ Aw4 P fn = some df ∧ fe.run = runF n df.nt df.code ∧ fe.res = df.res ∧ fe.nt = df.nt
def TbOK (P : Program) (n : Nat) (tb : Nat → Option FE) : Prop := ∀ f fe, tb f = some fe → TbAt P n f fe
theorem TbAt.of {P : Program} {n f : Nat} {fe : FE} {fn : Func} (h1 : P.funcs[f]? = some fn) (h2 : Ac2 P f = true) (h3 : fnE P n fn = some fe) : TbAt P n f fe := by
  unfold fnE at h3
  split at h3
  · rename_i df hd
    cases h3
    exact ⟨h2, fn, df, h1, hd, rfl, rfl, rfl⟩
  · cases h3
noncomputable def tbP (P : Program) (n f : Nat) : Option FE := iteB (Ac2 P f) (Option.rec (motive := fun _ => Option FE) none (fun fn => fnE P n fn) (P.funcs[f]?)) none
theorem Bn2 (P : Program) (n : Nat) : TbOK P n (tbP P n) := by
  intro f fe h
  obtain ⟨h1, h2⟩ := Ab8 h
  obtain ⟨fn, h3, h4⟩ := optR h2
  exact TbAt.of h3 h1 h4
theorem B15 (es : ES) (id : Nat) (o : Option DObj) : (ES.mk es.sl (es.hp.set id o) es.nx).ds = es.ds.lay id o := by
  rw [ds_eq, Tr.set_ho]; rfl
theorem B16 {es : ES} {id : Nat} {o : DObj} {x : DObj} (h : es.hp.get id = some x) : Gw es.ds (ES.mk es.sl (es.hp.set id (some o)) es.nx).ds := by
  rw [B15]
  refine ⟨Nat.le_refl _, fun j h1 h2 => ?_⟩
  simp only [DS.lay, setH] at h2
  split at h2
  · rename_i e
    have h1' : es.hp.get j = none := h1
    rw [e, h] at h1'; cases h1'
  · exact absurd h1 h2
theorem As4 {P : Program} (hm : P.follows .mixedOrders = true) {tb : Nat → Option FE} {n' n : Nat} (htb : TbOK P n' tb) {call : CallT} (ih : Ac7 P call) : Ac7 P (stepC tb n call) := by
    intro tg ds hp nx d hp' nx' h hfr
    cases tg with
    | fn f =>
      have h0 : (match tb f with
        | some fe => if ds.length ≤ fe.nt then match fe.run call ⟨argT ds, hp, nx⟩ with
            | some (.normal, es) => finE fe.res es
            | some (.ret, es) => finE fe.res es
            | _ => none
          else none
        | none => none) = some (d, hp', nx') := h
      split at h0
      rotate_left
      · cases h0
      rename_i fe hfe
      obtain ⟨hcb, fn, df, hf, hcf, e1, e2, e3⟩ := htb f fe hfe
      split at h0
      rotate_left
      · cases h0
      rename_i hlen
      rw [e1] at h0
      have hrun : ∃ e es, runF n' df.nt df.code call ⟨argT ds, hp, nx⟩ = some (e, es) ∧ (e = .normal ∨ e = .ret) ∧ finE fe.res es = some (d, hp', nx') := by
        revert h0
        split
        · rename_i es he; exact fun h0 => ⟨_, es, he, .inl rfl, h0⟩
        · rename_i es he; exact fun h0 => ⟨_, es, he, .inr rfl, h0⟩
        · intro h0; cases h0
      obtain ⟨e, es, hev, hee, hfin⟩ := hrun
      obtain ⟨hres, rfl, rfl⟩ := Ca5 hfin
      obtain ⟨g1, g2⟩ := Ca3 ih hm hev hfr
      refine ⟨g1.le, g1.new, hcb, fun sv K hK => .inl ⟨fn, df, hf, hcf, by rw [← e3]; exact hlen, fun S G w0 X M Y R => ?_⟩⟩
      have hst : (ES.mk (argT ds) hp nx).ds = ⟨argF ds, hp.get, nx⟩ := by
        rw [ds_eq]
        congr 1
        funext t
        exact Bc3 ds t
      have := g2 ⟨P, S, G, w0, df.nt, X, M, none, Y, R⟩ (fun e s' => (e = .normal ∨ e = .ret) ∧ ∃ d, resV s' df.res = some d ∧ K ⟨sv, s'.ho, s'.nx⟩ d) rfl rfl rfl (fun e' he' => ⟨by rcases he' with rfl | h | h; exact hee; exact .inl h; exact .inr h, d, by rw [← e2]; exact hres, hK⟩)
      rw [hst] at this
      exact this
    | yl id =>
      have h0 : (match hp.get id with
      | some (.loop lp) => match lp.st, lp.sl with
        | .ready, .t sl => if ds.length = lp.ps.length ∧ lp.ps.all (fun t => Nat.blt t lp.nt) = true then
            match evalE n lp.nt true lp.asg call ⟨zipT lp.ps ds sl, hp, nx⟩ with
            | some (.normal, es1) => match es1.hp.get id with
              | some (.loop lp1) => match lp1.st with
                | .ready => match evalE n lp.nt true lp.body call { es1 with hp := es1.hp.set id (some (.loop { lp1 with st := .busy })) } with
                  | some (e, es2) => match es2.hp.get id with
                    | some (.loop lp2) => match e with
                      | .normal => some (.v (.bool true), es2.hp.set id (some (.loop { lp2 with st := .ready, pend := none })), es2.nx)
                      | .ret => some (.v (.bool false), es2.hp.set id (some (.loop { lp2 with st := .done, pend := some .ret })), es2.nx)
                      | .exit i => some (.v (.bool false), es2.hp.set id (some (.loop { lp2 with st := .done, pend := some (.exit i) })), es2.nx)
                      | _ => none
                    | _ => none
                  | none => none
                | _ => none
              | _ => none
            | _ => none
          else none
        | _, _ => none
      | _ => none) = some (d, hp', nx') := h
      split at h0
      rotate_left
      · cases h0
      rename_i lp hlp
      split at h0
      rotate_left
      · cases h0
      rename_i sl hst hsl
      split at h0
      rotate_left
      · cases h0
      rename_i hlen
      obtain ⟨hlen, hps⟩ := hlen
      split at h0
      rotate_left
      · cases h0
      rename_i es1 hev1
      split at h0
      rotate_left
      · cases h0
      rename_i lp1 hlp1
      split at h0
      rotate_left
      · cases h0
      rename_i hst1
      split at h0
      rotate_left
      · cases h0
      rename_i e es2 hev2
      split at h0
      rotate_left
      · cases h0
      rename_i lp2 hlp2
      obtain ⟨g1, k1⟩ := As3 ih hm lp.asg _ _ _ hev1 hfr
      have hfr0 : (ES.mk (zipT lp.ps ds sl) hp nx).ds.Fr := hfr
      have hfr1 : es1.ds.Fr := Gw.fr hfr0 g1
      have gs1 := B16 (o := .loop { lp1 with st := .busy }) hlp1
      obtain ⟨g2, k2⟩ := As3 ih hm lp.body _ _ _ hev2 (Gw.fr hfr1 gs1)
      have hz : (ES.mk (zipT lp.ps ds sl) hp nx).ds = ⟨zipF lp.ps ds lp.sl.get, hp.get, nx⟩ := by
        rw [ds_eq, hsl]
        congr 1
        exact Bc4 lp.ps ds sl
      have hall : ∀ t ∈ lp.ps, t < lp.nt := fun t ht => by
        have := List.all_eq_true.1 hps t ht
        simpa [Nat.blt_eq] using this
      have gwAll : ∀ o, Gw (ES.mk (zipT lp.ps ds sl) hp nx).ds (ES.mk es2.sl (es2.hp.set id (some o)) es2.nx).ds := fun o => ((g1.trans gs1).trans g2).trans (B16 hlp2)
      have fin : ∀ (o : DObj) (b : Bool), (d = .v (.bool b) ∧ hp' = es2.hp.set id (some o) ∧ nx' = es2.nx) →
          (∀ (sv : Nat → DV) (K : DS → DV → Prop), K ⟨sv, hp'.get, nx'⟩ d → (fun (e : Exit) (s2 : DS) => ∃ lp2, s2.ho id = some (.loop lp2) ∧ match e with
            | .normal => K ⟨sv, setH s2.ho id (some (.loop { lp2 with st := .ready, pend := none })), s2.nx⟩ (.v (.bool true))
            | .ret => K ⟨sv, setH s2.ho id (some (.loop { lp2 with st := .done, pend := some .ret })), s2.nx⟩ (.v (.bool false))
            | .exit i => K ⟨sv, setH s2.ho id (some (.loop { lp2 with st := .done, pend := some (.exit i) })), s2.nx⟩ (.v (.bool false))
            | _ => False) e es2.ds) →
          nx ≤ nx' ∧ (∀ id, hp.get id = none → hp'.get id ≠ none → nx ≤ id ∧ id < nx') ∧ ∀ (sv : Nat → DV) (K : DS → DV → Prop), K ⟨sv, hp'.get, nx'⟩ d → A32 P id ds ⟨sv, hp.get, nx⟩ K := fun o b ⟨q1, q2, q3⟩ hfin => by
        have gw := gwAll o
        subst q2 q3
        refine ⟨gw.le, gw.new, fun sv K hK => ⟨lp, hlp, hst, hlen, hall, fun S G w0 X M Y R l => ?_⟩⟩
        rw [← hz]
        refine k1 _ _ rfl rfl (fun h => by cases h) ⟨rfl, lp1, hlp1, hst1, ?_⟩
        rw [← B15]
        exact k2 _ _ rfl rfl (fun h => by cases h) (hfin sv K hK)
      split at h0
      · cases h0
        refine fin _ true ⟨rfl, rfl, rfl⟩ fun sv K hK => ⟨lp2, hlp2, ?_⟩
        rw [Tr.set_ho] at hK
        exact hK
      · cases h0
        refine fin _ false ⟨rfl, rfl, rfl⟩ fun sv K hK => ⟨lp2, hlp2, ?_⟩
        rw [Tr.set_ho] at hK
        exact hK
      · cases h0
        refine fin _ false ⟨rfl, rfl, rfl⟩ fun sv K hK => ⟨lp2, hlp2, ?_⟩
        rw [Tr.set_ho] at hK
        exact hK
      · cases h0
theorem Bc5 {P : Program} (hm : P.follows .mixedOrders = true) {tb : Nat → Option FE} {n' n : Nat} (htb : TbOK P n' tb) : ∀ k, Ac7 P (callE tb n k)
  | 0 => fun tg ds hp nx d hp' nx' h => by cases h
  | k + 1 => As4 hm htb (Bc5 hm htb k)
abbrev Memo : Type := Tr (List (List DV × DV))
noncomputable def lkD (l : List (List DV × DV)) (ds : List DV) : Option DV := List.rec (motive := fun _ => Option DV) none (fun e _ ih => Bool.rec (motive := fun _ => Option DV) ih (some e.2) (sameL (Ab7 8) e.1 ds)) l
noncomputable def memoC (mm : Memo) (call : CallT) : CallT := fun tg ds hp nx => match tg with
  | .fn f => Option.rec (motive := fun _ => Option (DV × Tr DObj × Nat)) (call (.fn f) ds hp nx) (fun l => Option.rec (motive := fun _ => Option (DV × Tr DObj × Nat)) (call (.fn f) ds hp nx) (fun d => some (d, hp, nx)) (lkD l ds)) (gN mm f)
  | .yl id => call (.yl id) ds hp nx
noncomputable def callR (tb : Nat → Option FE) (mm : Memo) (n : Nat) : Nat → CallT
  | 0 => fun _ _ _ _ => none
  | k + 1 => stepC tb n (memoC mm (callR tb mm n k))
def Known (P : Program) (f : Nat) (ds : List DV) (d : DV) : Prop := Ac2 P f = true ∧ (∀ x ∈ ds, x.refs = []) ∧ DCall P f ds fun d' => d' = d
def MemoOK (P : Program) (mm : Memo) : Prop := ∀ f l, mm.get f = some l → ∀ e ∈ l, Known P f e.1 e.2
theorem Bc6 {ds : List DV} {d : DV} : ∀ {l : List (List DV × DV)}, lkD l ds = some d → (ds, d) ∈ l
  | [], h => by cases h
  | e :: l, h => by
    have h' : Bool.rec (motive := fun _ => Option DV) (lkD l ds) (some e.2) (sameL (Ab7 8) e.1 ds) = some d := h
    cases hs : sameL (Ab7 8) e.1 ds with
    | true =>
      rw [hs] at h'
      cases h'
      have := Am3 (Ah0 8) hs
      obtain ⟨a, b⟩ := e
      simp only at this
      subst this
      simp
    | false =>
      rw [hs] at h'
      exact List.mem_cons_of_mem _ (Bc6 h')
theorem Bw4 {P : Program} {mm : Memo} (hmm : MemoOK P mm) {call : CallT} (hc : Ac7 P call) : Ac7 P (memoC mm call) := by
  intro tg ds hp nx d hp' nx' h hfr
  cases tg with
  | yl id => exact hc (.yl id) ds hp nx d hp' nx' h hfr
  | fn f =>
    have h0 : Option.rec (motive := fun _ => Option (DV × Tr DObj × Nat)) (call (.fn f) ds hp nx) (fun l => Option.rec (motive := fun _ => Option (DV × Tr DObj × Nat)) (call (.fn f) ds hp nx) (fun d => some (d, hp, nx)) (lkD l ds)) (gN mm f) = some (d, hp', nx') := h
    cases hg : gN mm f with
    | none => rw [hg] at h0; exact hc (.fn f) ds hp nx d hp' nx' h0 hfr
    | some l =>
      rw [hg] at h0
      cases hl : lkD l ds with
      | none =>
        have h1 : Option.rec (motive := fun _ => Option (DV × Tr DObj × Nat)) (call (.fn f) ds hp nx) (fun d => some (d, hp, nx)) (lkD l ds) = some (d, hp', nx') := h0
        rw [hl] at h1
        exact hc (.fn f) ds hp nx d hp' nx' h1 hfr
      | some d0 =>
        have h1 : Option.rec (motive := fun _ => Option (DV × Tr DObj × Nat)) (call (.fn f) ds hp nx) (fun d => some (d, hp, nx)) (lkD l ds) = some (d, hp', nx') := h0
        rw [hl] at h1
        cases h1
        rw [gN_eq] at hg
        obtain ⟨k1, k2, k3⟩ := hmm f l hg _ (Bc6 hl)
        exact ⟨Nat.le_refl _, fun id h2 h3 => absurd h2 h3, k1, fun sv K hK => .inr ⟨_, k2, k3, hK⟩⟩
theorem Bc7 {P : Program} (hm : P.follows .mixedOrders = true) {tb : Nat → Option FE} {n' n : Nat} (htb : TbOK P n' tb) {mm : Memo} (hmm : MemoOK P mm) : ∀ k, Ac7 P (callR tb mm n k)
  | 0 => fun tg ds hp nx d hp' nx' h => by cases h
  | k + 1 => As4 hm htb (Bw4 hmm (Bc7 hm htb hmm k))
theorem MemoOK.nil (P : Program) : MemoOK P .e := fun f l h => by cases f <;> cases h
theorem MemoOK.add {P : Program} {mm : Memo} (h : MemoOK P mm) {f : Nat} {l : List (List DV × DV)} (hl : ∀ e ∈ l, Known P f e.1 e.2) : MemoOK P (mm.set f (some l)) := fun g l' hg e he => by
  rw [Tr.get_set] at hg
  split at hg
  · rename_i e1; subst e1; cases hg; exact hl e he
  · exact h g l' hg e he
theorem A78 : ∀ (n : Nat) (d r : DV), rz (fun _ => none) n d = some r → r = d
  | 0, d, r, h => by
    simp only [rz] at h
    split at h
    · cases h; rfl
    · cases h
  | n + 1, d, r, h => by
    have hl : ∀ cs l, rzL (rz (fun _ => none) n) cs = some l → l = cs := fun cs l hz => by
      obtain ⟨h1, h2⟩ := Ar4 hz
      apply List.ext_getElem?
      intro j
      by_cases hj : j < cs.length
      · have e1 := List.getElem?_eq_getElem hj
        have e2 := List.getElem?_eq_getElem (l := l) (i := j) (by omega)
        rcases h2 j _ _ e1 e2 with ⟨_, h3⟩ | h3
        · rw [e1, e2, h3]
        · rw [e1, e2, A78 n _ _ h3]
      · rw [List.getElem?_eq_none (by omega), List.getElem?_eq_none (by omega)]
    cases d with
    | agg cs => obtain ⟨l, hz, rfl⟩ := Option.map_eq_some_iff.1 h; rw [hl cs l hz]
    | tup cs => obtain ⟨l, hz, rfl⟩ := Option.map_eq_some_iff.1 h; rw [hl cs l hz]
    | fn f cs => obtain ⟨l, hz, rfl⟩ := Option.map_eq_some_iff.1 h; rw [hl cs l hz]
    | ifc T d => obtain ⟨e, hz, rfl⟩ := Option.map_eq_some_iff.1 h; rw [A78 n _ _ hz]
    | ms id off k es => simp [rz] at h
    | pt id off => simp [rz] at h
    | mp id => simp [rz] at h
    | yl id => simp [rz] at h
    | any => simp [rz] at h; exact h.symm
    | v x => simp [rz] at h; exact h.symm
    | sl cs k => simp [rz] at h; exact h.symm
    | ia cs => simp [rz] at h; exact h.symm
theorem DCall.of_callC {P : Program} {f : FuncId} {args : List DV} {R : DV → Prop} {sv : Nat → DV} (h : callC P f args ⟨sv, fun _ => none, 0⟩ fun s d => ∃ r, rz s.ho 6 d = some r ∧ R r) : DCall P f args R := by
  rcases h with h | ⟨d, h1, h2, r, h3, h4⟩
  · exact DCall.of_callI h
  · have hd : r = d := A78 6 _ _ h3
    subst hd
    exact h2.mono fun d hd => by rw [hd]; exact h4
noncomputable def flatB (ds : List DV) : Bool := ds.all fun d => (refsE d).isEmpty
noncomputable def retE (x : Option (DV × Tr DObj × Nat)) (d : DV) : Bool := match x with
  | some (d', hp, _) => match rz hp.get 6 d' with
    | some r => Ab7 12 r d
    | none => false
  | none => false
theorem A46 {P : Program} (hm : P.follows .mixedOrders = true) {tb : Nat → Option FE} {n' n k f : Nat} (htb : TbOK P n' tb) {mm : Memo} (hmm : MemoOK P mm) {ds : List DV} {d : DV} (hf : flatB ds = true) (h : retE (callR tb mm n k (.fn f) ds .e 0) d = true) : Known P f ds d := by
  unfold retE at h
  split at h
  rotate_left
  · cases h
  rename_i d' hp nx hr
  split at h
  rotate_left
  · cases h
  rename_i r hrz
  have hd := Ah0 _ _ _ h
  subst hd
  obtain ⟨_, _, hcb, hI⟩ := Bc7 hm htb hmm k _ _ _ _ _ _ _ hr (fun id _ => by cases id <;> rfl)
  refine ⟨hcb, fun x hx => ?_, DCall.of_callC (sv := fun _ => .any) ?_⟩
  · have := List.all_eq_true.1 hf x hx
    rw [Aj8] at this
    simpa using this
  · have := hI (fun _ => .any) (fun s d => ∃ r', rz s.ho 6 d = some r' ∧ r' = r) ⟨r, hrz, rfl⟩
    have e : (Tr.e : Tr DObj).get = fun _ => none := by funext id; cases id <;> rfl
    rw [e] at this
    exact this
theorem Bc8 {P : Program} (hm : P.follows .mixedOrders = true) {tb : Nat → Option FE} {n' n k f : Nat} (htb : TbOK P n' tb) (h : okBE (callE tb n k (.fn f) [] .e 0) = true) : Ac2 P f = true ∧ DCall P f [] fun d => d = .v (.bool true) := by
  unfold okBE at h
  split at h
  rotate_left
  · cases h
  rename_i b hp nx hr
  subst h
  obtain ⟨_, _, hcb, hI⟩ := Bc5 hm htb k _ _ _ _ _ _ _ hr (fun id _ => by cases id <;> rfl)
  refine ⟨hcb, DCall.of_callC (sv := fun _ => .any) ?_⟩
  have := hI (fun _ => .any) (fun s d => ∃ r, rz s.ho 6 d = some r ∧ r = .v (.bool true)) ⟨.v (.bool true), rfl, rfl⟩
  have e : (Tr.e : Tr DObj).get = fun _ => none := by funext id; cases id <;> rfl
  rw [e] at this
  exact this
end Go.DD

/- The evaluator, read with symbols: what a piece of code leads to. -/
namespace Go.DD
def EW (c : CE) (call : CallT) (es : ES) (Q : Exit → ES → Prop) : Prop := ∃ e es', c call es = some (e, es') ∧ Q e es'
def SW (s : Stp) (call : CallT) (es : ES) (Q : ES → Prop) : Prop := ∃ es', s call es = some es' ∧ Q es'
def XW (x : Option DV) (Q : DV → Prop) : Prop := ∃ d, x = some d ∧ Q d
def thenE (next : ES → Prop) (Q : Exit → ES → Prop) : Exit → ES → Prop
  | .normal, es => next es
  | e, es => Q e es
def blkE (id : Nat) (Q : Exit → ES → Prop) : Exit → ES → Prop
  | .exit i, es => if i = id then Q .normal es else Q (.exit i) es
  | e, es => Q e es
theorem EW.mono {c : CE} {call : CallT} {es : ES} {Q Q' : Exit → ES → Prop} (h : EW c call es Q) (hq : ∀ e es, Q e es → Q' e es) : EW c call es Q' := by
  obtain ⟨e, es', h1, h2⟩ := h
  exact ⟨e, es', h1, hq _ _ h2⟩
theorem EW.s {a b : CE} {call : CallT} {es : ES} {Q : Exit → ES → Prop} (h : EW a call es (thenE (fun es1 => EW b call es1 Q) Q)) : EW (cS a b) call es Q := by
  obtain ⟨e, es1, h1, h2⟩ := h
  cases e with
  | normal =>
    obtain ⟨e2, es2, h3, h4⟩ := h2
    refine ⟨e2, es2, ?_, h4⟩
    unfold cS; rw [h1]; exact h3
  | _ => exact ⟨_, es1, by unfold cS; rw [h1], h2⟩
theorem EW.n {s : Stp} {call : CallT} {es : ES} {Q : Exit → ES → Prop} (h : SW s call es (Q .normal)) : EW (cN s) call es Q := by
  obtain ⟨es1, h1, h2⟩ := h
  exact ⟨_, es1, by unfold cN; rw [h1], h2⟩
theorem EW.e {e : Exit} {call : CallT} {es : ES} {Q : Exit → ES → Prop} (h : Q e es) : EW (cE e) call es Q := ⟨e, es, rfl, h⟩
theorem EW.c {x : EO} {a b : CE} {call : CallT} {es : ES} {Q : Exit → ES → Prop} (t : Bool) (ht : rawE es x = .v (.bool t)) (h1 : t = true → EW a call es Q) (h2 : t = false → EW b call es Q) : EW (cC x a b) call es Q := by
  have e : cC x a b call es = Bool.rec (motive := fun _ => Option (Exit × ES)) (b call es) (a call es) t := by unfold cC; rw [ht]; rfl
  cases t with
  | true => obtain ⟨e1, es1, h3, h4⟩ := h1 rfl; exact ⟨e1, es1, e.trans h3, h4⟩
  | false => obtain ⟨e1, es1, h3, h4⟩ := h2 rfl; exact ⟨e1, es1, e.trans h3, h4⟩
theorem EW.b {id : Nat} {c : CE} {call : CallT} {es : ES} {Q : Exit → ES → Prop} (h : EW c call es (blkE id Q)) : EW (cB id c) call es Q := by
  obtain ⟨e, es1, h1, h2⟩ := h
  cases e with
  | exit i =>
    have e1 : cB id c call es = iteB (Nat.beq i id) (some (.normal, es1)) (some (.exit i, es1)) := by unfold cB; rw [h1]
    rw [Aa8] at e1
    simp only [blkE] at h2
    by_cases hi : i = id
    · subst hi
      rw [if_pos (Nat.beq_refl i)] at e1
      rw [if_pos rfl] at h2
      exact ⟨_, _, e1, h2⟩
    · rw [if_neg (fun h => hi (Nat.eq_of_beq_eq_true h))] at e1
      rw [if_neg hi] at h2
      exact ⟨_, _, e1, h2⟩
  | _ => exact ⟨_, es1, by unfold cB; rw [h1], h2⟩
theorem EW.l {c : CE} {call : CallT} {Q : Exit → ES → Prop} (I : Nat → ES → Prop) (step : ∀ n es, I n es → EW c call es (thenE (fun es1 => ∃ m, m < n ∧ I m es1) Q)) : ∀ (n k : Nat) (es : ES), I n es → n < k → EW (cL k c) call es Q := by
  intro n
  induction n using Nat.strongRecOn with
  | _ n ih =>
    intro k es h hk
    cases k with
    | zero => omega
    | succ k =>
      show EW (cS c (cL k c)) call es Q
      refine EW.s ((step n es h).mono ?_)
      intro e es1 h1
      cases e with
      | normal =>
        obtain ⟨m, hm, hI⟩ := h1
        exact ih m hm k es1 hI (by omega)
      | _ => exact h1
theorem SW.q {s k : Stp} {call : CallT} {es : ES} {Q : ES → Prop} (h : SW s call es fun es1 => SW k call es1 Q) : SW (sq s k) call es Q := by
  obtain ⟨es1, h1, es2, h2, h3⟩ := h
  exact ⟨es2, by unfold sq; rw [h1]; exact h2, h3⟩
theorem SW.z {call : CallT} {es : ES} {Q : ES → Prop} (h : Q es) : SW sEnd call es Q := ⟨es, rfl, h⟩
theorem SW.m {dst : Option Pa} {x : EO} {call : CallT} {es : ES} {Q : ES → Prop} (h : Q (es.putE dst (rawE es x))) : SW (sM dst x) call es Q := ⟨_, rfl, h⟩
theorem SW.x {dst : Option Pa} {x : XP} {call : CallT} {es : ES} {Q : ES → Prop} (d : DV) (hx : x es = some d) (h : Q (es.putE dst d)) : SW (sX dst x) call es Q := ⟨_, by unfold sX; rw [hx], h⟩
theorem SW.call {f : Nat} {args : List EO} {dst : Option Pa} {call : CallT} {es : ES} {Q : ES → Prop} (d : DV) (hp : Tr DObj) (nx : Nat) (hc : call (.fn f) (args.map (rawE es)) es.hp es.nx = some (d, hp, nx)) (h : Q ((ES.mk es.sl hp nx).putE dst d)) : SW (sCall f args dst) call es Q := by
  refine ⟨_, ?_, h⟩
  unfold sCall Ah8 evL
  rw [An5, hc]; rfl
theorem gP_e {α : Type} (p : Pa) : gP p (.e : Tr α) = none := by cases p <;> rfl
theorem Av3 {α : Type} : ∀ (p : Pa) (v : Option α) (t : Tr α), gP p (sP p v t) = v
  | .o, v, t => by cases t <;> rfl
  | .l p, v, .e => Av3 p v .e
  | .l p, v, .n l _ _ => Av3 p v l
  | .r p, v, .e => Av3 p v .e
  | .r p, v, .n _ _ r => Av3 p v r
theorem Ao9 {α : Type} : ∀ {p q : Pa} (v : Option α) (t : Tr α), q ≠ p → gP p (sP q v t) = gP p t
  | .o, .o, v, t, h => absurd rfl h
  | .o, .l q, v, t, _ => by cases t <;> rfl
  | .o, .r q, v, t, _ => by cases t <;> rfl
  | .l p, .o, v, t, _ => by cases t <;> first | rfl | exact gP_e p
  | .l p, .r q, v, t, _ => by cases t <;> first | rfl | exact gP_e p
  | .r p, .o, v, t, _ => by cases t <;> first | rfl | exact gP_e p
  | .r p, .l q, v, t, _ => by cases t <;> first | rfl | exact gP_e p
  | .l p, .l q, v, .e, h => show gP p (sP q v .e) = none from (Ao9 (p := p) (q := q) v .e fun e => h (by rw [e])).trans (gP_e p)
  | .l p, .l q, v, .n l _ _, h => Ao9 v l fun e => h (by rw [e])
  | .r p, .r q, v, .e, h => show gP p (sP q v .e) = none from (Ao9 (p := p) (q := q) v .e fun e => h (by rw [e])).trans (gP_e p)
  | .r p, .r q, v, .n _ _ r, h => Ao9 v r fun e => h (by rw [e])
theorem Ca6 (sl : Tr DV) (hp : Tr DObj) (nx : Nat) (p : Pa) (d : DV) : rawE (ES.putE ⟨sl, hp, nx⟩ (some p) d) (.t p) = d := by
  show Option.rec (motive := fun _ => DV) _ _ (gP p (sP p (some d) sl)) = d
  rw [Av3]
theorem A07 (es : ES) {p q : Pa} (d : DV) (h : q ≠ p) : rawE (ES.putE es (some q) d) (.t p) = rawE es (.t p) := by
  obtain ⟨sl, hp, nx⟩ := es
  show Option.rec (motive := fun _ => DV) _ _ (gP p (sP q (some d) sl)) = Option.rec (motive := fun _ => DV) _ _ (gP p sl)
  rw [Ao9 _ _ h]
theorem Bn3 (es : ES) (p : Pa) (d : DV) : rawE (ES.putE es (some p) d) (.t p) = d := by
  obtain ⟨sl, hp, nx⟩ := es
  exact Ca6 sl hp nx p d
theorem Bn4 (es : ES) (p : Option Pa) (d : DV) : (ES.putE es p d).hp = es.hp := by cases p <;> rfl
theorem nx_put (es : ES) (p : Option Pa) (d : DV) : (ES.putE es p d).nx = es.nx := by cases p <;> rfl
theorem Bn5 (es : ES) (hp : Tr DObj) (nx : Nat) (p : Option Pa) (d : DV) : ES.putE (ES.mk es.sl hp nx) p d = ES.mk (ES.putE es p d).sl hp nx := by cases p <;> rfl
theorem B17 (b : Bool) : outV (some (.bool b)) = some (.v (.bool b)) := by cases b <;> rfl
theorem Ci6 (k : IntKind) (n : Int) : outV (some (.int k n)) = some (.v (.int k n)) := by
  show Bl3 n (fun n => some (DV.v (.int k n))) = _
  rw [A38]
def CW (d : DV) (A B : Prop) : Prop := ∃ t, d = .v (.bool t) ∧ (t = true → A) ∧ (t = false → B)
def KW (call : CallT) (tg : Tg) (ds : List DV) (hp : Tr DObj) (nx : Nat) (K : DV → Tr DObj → Nat → Prop) : Prop := ∃ d hp' nx', call tg ds hp nx = some (d, hp', nx') ∧ K d hp' nx'
theorem ew_s {a b : CE} {call : CallT} {es : ES} {Q : Exit → ES → Prop} : EW (cS a b) call es Q ↔ EW a call es (thenE (fun es1 => EW b call es1 Q) Q) := by
  refine ⟨fun ⟨e, es', h1, h2⟩ => ?_, EW.s⟩
  rcases A03 h1 with ⟨es1, h3, h4⟩ | ⟨h3, hne⟩
  · exact ⟨.normal, es1, h3, e, es', h4, h2⟩
  · refine ⟨e, es', h3, ?_⟩
    cases e <;> first | exact h2 | exact absurd rfl hne
theorem ew_n {s : Stp} {call : CallT} {es : ES} {Q : Exit → ES → Prop} : EW (cN s) call es Q ↔ SW s call es (Q .normal) := by
  refine ⟨fun ⟨e, es', h1, h2⟩ => ?_, EW.n⟩
  obtain ⟨h3, rfl⟩ := A04 h1
  exact ⟨es', h3, h2⟩
theorem ew_e {e : Exit} {call : CallT} {es : ES} {Q : Exit → ES → Prop} : EW (cE e) call es Q ↔ Q e es := by
  refine ⟨fun ⟨e', es', h1, h2⟩ => ?_, EW.e⟩
  have h3 : some (e, es) = some (e', es') := h1
  cases h3; exact h2
theorem ew_c {x : EO} {a b : CE} {call : CallT} {es : ES} {Q : Exit → ES → Prop} (h : CW (rawE es x) (EW a call es Q) (EW b call es Q)) : EW (cC x a b) call es Q := by
  obtain ⟨t, h1, h2, h3⟩ := h
  exact EW.c t h1 h2 h3
theorem ew_c' {x : EO} {a b : CE} {call : CallT} {es : ES} {Q : Exit → ES → Prop} : EW (cC x a b) call es Q ↔ CW (rawE es x) (EW a call es Q) (EW b call es Q) := by
  refine ⟨fun ⟨e, es', h1, h2⟩ => ?_, ew_c⟩
  unfold cC at h1
  obtain ⟨v, hv, h1⟩ := Aj9 h1
  cases v with
  | bool t =>
    refine ⟨t, hv, fun ht => ?_, fun ht => ?_⟩
    · subst ht; exact ⟨e, es', h1, h2⟩
    · subst ht; exact ⟨e, es', h1, h2⟩
  | _ => cases h1
theorem ew_b {id : Nat} {c : CE} {call : CallT} {es : ES} {Q : Exit → ES → Prop} : EW (cB id c) call es Q ↔ EW c call es (blkE id Q) := by
  refine ⟨fun ⟨e, es', h1, h2⟩ => ?_, EW.b⟩
  obtain ⟨⟨e1, es1⟩, h3, h4⟩ := optR h1
  refine ⟨e1, es1, h3, ?_⟩
  cases e1 with
  | exit i =>
    have h5 : iteB (Nat.beq i id) (some (Exit.normal, es1)) (some (Exit.exit i, es1)) = some (e, es') := h4
    rw [Aa8] at h5
    simp only [blkE]
    split at h5
    · rename_i hb
      cases h5
      rw [if_pos (Nat.eq_of_beq_eq_true hb)]; exact h2
    · rename_i hb
      cases h5
      rw [if_neg (fun e => hb (by rw [e]; exact Nat.beq_refl id))]; exact h2
  | _ => cases h4; exact h2
theorem sw_q {s k : Stp} {call : CallT} {es : ES} {Q : ES → Prop} : SW (sq s k) call es Q ↔ SW s call es fun es1 => SW k call es1 Q := by
  refine ⟨fun ⟨es', h1, h2⟩ => ?_, SW.q⟩
  obtain ⟨es1, h3, h4⟩ := optR h1
  exact ⟨es1, h3, es', h4, h2⟩
theorem sw_z {call : CallT} {es : ES} {Q : ES → Prop} : SW sEnd call es Q ↔ Q es := by
  refine ⟨fun ⟨es', h1, h2⟩ => ?_, SW.z⟩
  have h3 : some es = some es' := h1
  cases h3; exact h2
theorem sw_m {dst : Option Pa} {x : EO} {call : CallT} {es : ES} {Q : ES → Prop} : SW (sM dst x) call es Q ↔ Q (es.putE dst (rawE es x)) := by
  refine ⟨fun ⟨es', h1, h2⟩ => ?_, SW.m⟩
  have h3 : some (es.putE dst (rawE es x)) = some es' := h1
  cases h3; exact h2
theorem sw_x {dst : Option Pa} {x : XP} {call : CallT} {es : ES} {Q : ES → Prop} : SW (sX dst x) call es Q ↔ XW (x es) fun d => Q (es.putE dst d) := by
  refine ⟨fun ⟨es', h1, h2⟩ => ?_, fun ⟨d, h1, h2⟩ => SW.x d h1 h2⟩
  obtain ⟨d, h3, h4⟩ := optR h1
  have h5 : some (es.putE dst d) = some es' := h4
  cases h5
  exact ⟨d, h3, h2⟩
theorem A08 {d : DV} {Q : DV → Prop} : XW (some d) Q ↔ Q d := ⟨fun ⟨d', h1, h2⟩ => (by cases h1; exact h2), fun h => ⟨d, rfl, h⟩⟩
theorem sw_call {f : Nat} {args : List EO} {dst : Option Pa} {call : CallT} {es : ES} {Q : ES → Prop} : SW (sCall f args dst) call es Q ↔ KW call (.fn f) (args.map (rawE es)) es.hp es.nx fun d hp nx => Q ((ES.mk es.sl hp nx).putE dst d) := by
  have e : sCall f args dst call es = Ah8 (.fn f) (args.map (rawE es)) dst call es := by unfold sCall evL; rw [An5]
  constructor
  · rintro ⟨es', h1, h2⟩
    rw [e] at h1
    obtain ⟨⟨d, hp, nx⟩, h3, h4⟩ := optR h1
    have h5 : some ((ES.mk es.sl hp nx).putE dst d) = some es' := h4
    cases h5
    exact ⟨d, hp, nx, h3, h2⟩
  · rintro ⟨d, hp, nx, h1, h2⟩
    exact SW.call d hp nx h1 h2
theorem cw_b {t : Bool} {A B : Prop} : CW (.v (.bool t)) A B ↔ (t = true → A) ∧ (t = false → B) := ⟨fun ⟨_, h1, h2⟩ => (by cases h1; exact h2), fun h => ⟨t, rfl, h⟩⟩
def binD (op : BinOp) (a b : DV) : Option DV := (binV op a b).map .v
theorem x_bin (op : BinOp) (x y : EO) (es : ES) : xBin op x y es = binD op (rawE es x) (rawE es y) := by
  cases hx : rawE es x with
  | v a =>
    cases hy : rawE es y with
    | v b =>
      cases a with
      | int k m =>
        cases b with
        | int k' n =>
          have e : xBin op x y es = outV (iteB (isSh op) (shI op k m n) (iteB (Nat.beq k.ctorIdx k'.ctorIdx) (binI op k m n) none)) := by unfold xBin; rw [hx, hy]; rfl
          rw [e, Aa8, Aa8]
          have hk : (Nat.beq k.ctorIdx k'.ctorIdx = true) ↔ k = k' := by cases k <;> cases k' <;> simp [IntKind.ctorIdx]
          have hout : ∀ v : Option Value, (∀ w, v = some w → (∃ t, w = .bool t) ∨ ∃ k n, w = .int k n) → outV v = v.map DV.v := by
            intro v hv
            cases v with
            | none => rfl
            | some w =>
              rcases hv w rfl with ⟨t, rfl⟩ | ⟨k, n, rfl⟩
              · exact B17 t
              · exact Ci6 k n
          have hsh : ∀ w, shI op k m n = some w → (∃ t, w = .bool t) ∨ ∃ k n, w = .int k n := by
            intro w hw
            unfold shI at hw
            split at hw
            · cases hw
            · split at hw <;> first | (cases hw; exact .inr ⟨_, _, rfl⟩) | cases hw
          have hbi : ∀ w, binI op k m n = some w → (∃ t, w = .bool t) ∨ ∃ k n, w = .int k n := by
            intro w hw
            unfold binI at hw
            split at hw <;> first | (cases hw; exact .inr ⟨_, _, rfl⟩) | (cases hw; exact .inl ⟨_, rfl⟩) | (split at hw <;> first | (cases hw; exact .inr ⟨_, _, rfl⟩) | cases hw) | cases hw
          simp only [binD, binV]
          split
          · exact hout _ hsh
          · by_cases h : k = k'
            · rw [if_pos (hk.2 h), if_pos h]; exact hout _ hbi
            · rw [if_neg (fun h' => h (hk.1 h')), if_neg h]; rfl
        | _ => unfold xBin; rw [hx, hy]; rfl
      | string m =>
        cases b with
        | string n =>
          have e : xBin op x y es = outV (binS op m n) := by unfold xBin; rw [hx, hy]; rfl
          rw [e]
          simp only [binD, binV]
          have hbs : ∀ w, binS op m n = some w → (∃ t, w = .bool t) ∨ ∃ s, w = .string s := by
            intro w hw
            unfold binS at hw
            split at hw <;> first | (cases hw; exact .inl ⟨_, rfl⟩) | (split at hw <;> first | (cases hw; exact .inr ⟨_, rfl⟩) | cases hw) | cases hw
          cases hv : binS op m n with
          | none => rfl
          | some w =>
            rcases hbs w hv with ⟨t, rfl⟩ | ⟨s, rfl⟩
            · exact B17 t
            · rfl
        | _ => unfold xBin; rw [hx, hy]; rfl
      | _ => unfold xBin; rw [hx, hy]; rfl
    | _ => unfold xBin; rw [hx, hy]; cases a <;> rfl
  | _ => unfold xBin; rw [hx]; rfl
theorem wrap_in {n : Int} (h : -9223372036854775808 ≤ n ∧ n ≤ 9223372036854775807) : IntKind.i64.wrap n = n := IntWalk.i64_in n h
theorem b_lss (k : IntKind) (a b : Int) : binD .lss (.v (.int k a)) (.v (.int k b)) = some (.v (.bool (decide (a < b)))) := by simp [binD, binV, isSh, binI]
theorem b_gtr (k : IntKind) (a b : Int) : binD .gtr (.v (.int k a)) (.v (.int k b)) = some (.v (.bool (decide (a > b)))) := by simp [binD, binV, isSh, binI]
theorem b_leq (k : IntKind) (a b : Int) : binD .leq (.v (.int k a)) (.v (.int k b)) = some (.v (.bool (decide (a ≤ b)))) := by simp [binD, binV, isSh, binI]
theorem b_geq (k : IntKind) (a b : Int) : binD .geq (.v (.int k a)) (.v (.int k b)) = some (.v (.bool (decide (a ≥ b)))) := by simp [binD, binV, isSh, binI]
theorem b_eql (k : IntKind) (a b : Int) : binD .eql (.v (.int k a)) (.v (.int k b)) = some (.v (.bool (a == b))) := by simp [binD, binV, isSh, binI]
theorem b_neq (k : IntKind) (a b : Int) : binD .neq (.v (.int k a)) (.v (.int k b)) = some (.v (.bool (a != b))) := by simp [binD, binV, isSh, binI]
theorem b_add (k : IntKind) (a b : Int) : binD .add (.v (.int k a)) (.v (.int k b)) = some (.v (.int k (k.wrap (a + b)))) := by simp [binD, binV, isSh, binI]
theorem b_sub (k : IntKind) (a b : Int) : binD .sub (.v (.int k a)) (.v (.int k b)) = some (.v (.int k (k.wrap (a - b)))) := by simp [binD, binV, isSh, binI]
theorem b_mul (k : IntKind) (a b : Int) : binD .mul (.v (.int k a)) (.v (.int k b)) = some (.v (.int k (k.wrap (a * b)))) := by simp [binD, binV, isSh, binI]
end Go.DD

/- Contracts in the evaluator's terms. -/
namespace Go.DD
theorem Ci7 {es : ES} {p : Pa} {d : DV} (h : rawE es (.t p) = d) (hr : d.refs = []) : evE es (.t p) = d := by
  have e : evE es (.t p) = liveE es.hp (rawE es (.t p)) := rfl
  rw [e, h]
  unfold liveE
  rw [Aj8, hr]
  rfl
theorem fin1 {es : ES} {t : Nat} {d : DV} (h : rawE es (.t (pth t)) = d) (hr : d.refs = []) : finE [(t, none)] es = some (d, es.hp, es.nx) := by
  have e : resE es (t, none) = some d := congrArg some (Ci7 h hr)
  unfold finE
  simp only [List.mapM_cons, List.mapM_nil, e, Option.pure_def, Option.bind_eq_bind, Option.bind_some, resVE]
theorem fn_of {tb : Nat → Option FE} {n k f : Nat} {fe : FE} {args : List DV} {hp : Tr DObj} {nx : Nat} {d : DV} {hp' : Tr DObj} {nx' : Nat} (hf : tb f = some fe) (hn : args.length ≤ fe.nt)
    (h : EW fe.run (callE tb n k) ⟨argT args, hp, nx⟩ fun e es => (e = .normal ∨ e = .ret) ∧ finE fe.res es = some (d, hp', nx')) : callE tb n (k + 1) (.fn f) args hp nx = some (d, hp', nx') := by
  obtain ⟨e, es, h1, h2, h3⟩ := h
  show (match tb f with
        | some fe => if args.length ≤ fe.nt then match fe.run (callE tb n k) ⟨argT args, hp, nx⟩ with
            | some (.normal, es) => finE fe.res es
            | some (.ret, es) => finE fe.res es
            | _ => none
          else none
        | none => none) = some (d, hp', nx')
  rw [hf]
  simp only
  rw [if_pos hn, h1]
  rcases h2 with rfl | rfl
  · exact h3
  · exact h3
structure Al (hp : Tr DObj) (nx : Nat) (hp' : Tr DObj) (nx' : Nat) : Prop where
  le : nx ≤ nx'
  same : ∀ id, id < nx → hp'.get id = hp.get id
theorem Al.refl (hp : Tr DObj) (nx : Nat) : Al hp nx hp nx := ⟨Nat.le_refl _, fun _ _ => rfl⟩
theorem Al.trans {h1 h2 h3 : Tr DObj} {n1 n2 n3 : Nat} (a : Al h1 n1 h2 n2) (b : Al h2 n2 h3 n3) : Al h1 n1 h3 n3 :=
  ⟨Nat.le_trans a.le b.le, fun id h => by rw [b.same id (by have := a.le; omega), a.same id h]⟩
def CC (tb : Nat → Option FE) (k0 f : Nat) (args : List DV) (r : DV) : Prop := ∀ n k hp nx, k0 ≤ k → callE tb n k (.fn f) args hp nx = some (r, hp, nx)
def CA (tb : Nat → Option FE) (k0 f : Nat) (args : List DV) (r : DV) : Prop := ∀ n k hp nx, k0 ≤ k → ∃ hp' nx', callE tb n k (.fn f) args hp nx = some (r, hp', nx') ∧ Al hp nx hp' nx'
theorem CC.mono {tb : Nat → Option FE} {k0 k1 f : Nat} {args : List DV} {r : DV} (h : CC tb k0 f args r) (hk : k0 ≤ k1) : CC tb k1 f args r := fun n k hp nx h1 => h n k hp nx (by omega)
theorem CA.mono {tb : Nat → Option FE} {k0 k1 f : Nat} {args : List DV} {r : DV} (h : CA tb k0 f args r) (hk : k0 ≤ k1) : CA tb k1 f args r := fun n k hp nx h1 => h n k hp nx (by omega)
theorem CC.of {tb : Nat → Option FE} {k0 f : Nat} {fe : FE} {args : List DV} {r : DV} (hf : tb f = some fe) (hn : args.length ≤ fe.nt)
    (h : ∀ n k hp nx, k0 ≤ k → EW fe.run (callE tb n k) ⟨argT args, hp, nx⟩ fun e es => (e = .normal ∨ e = .ret) ∧ finE fe.res es = some (r, hp, nx)) : CC tb (k0 + 1) f args r := fun n k hp nx hk => by
  obtain ⟨j, rfl⟩ : ∃ j, k = j + 1 := ⟨k - 1, by omega⟩
  exact fn_of hf hn (h n j hp nx (by omega))
theorem CA.of {tb : Nat → Option FE} {k0 f : Nat} {fe : FE} {args : List DV} {r : DV} (hf : tb f = some fe) (hn : args.length ≤ fe.nt)
    (h : ∀ n k hp nx, k0 ≤ k → EW fe.run (callE tb n k) ⟨argT args, hp, nx⟩ fun e es => (e = .normal ∨ e = .ret) ∧ ∃ hp' nx', finE fe.res es = some (r, hp', nx') ∧ Al hp nx hp' nx') : CA tb (k0 + 1) f args r := fun n k hp nx hk => by
  obtain ⟨j, rfl⟩ : ∃ j, k = j + 1 := ⟨k - 1, by omega⟩
  obtain ⟨e, es, h1, h2, hp', nx', h3, h4⟩ := h n j hp nx (by omega)
  exact ⟨hp', nx', fn_of hf hn ⟨e, es, h1, h2, h3⟩, h4⟩
def Ent (es : ES) (args : List DV) : Prop := ∀ i d, args[i]? = some d → rawE es (.t (pth i)) = d
theorem A09 (args : List DV) (hp : Tr DObj) (nx : Nat) : Ent ⟨argT args, hp, nx⟩ args := fun i d h => by
  have e : rawE ⟨argT args, hp, nx⟩ (.t (pth i)) = argF args i := by
    rw [Bl9]
    exact Bc3 args i
  rw [e]
  simp [argF, h]
theorem CC.run1 {tb : Nat → Option FE} {k0 f t : Nat} {c : CE} {nt : Nat} {args : List DV} {r : DV} (hf : tb f = some ⟨c, [(t, none)], nt⟩) (hn : args.length ≤ nt) (hr : r.refs = [])
    (h : ∀ n k es, k0 ≤ k → Ent es args → EW c (callE tb n k) es fun e es' => (e = .normal ∨ e = .ret) ∧ es'.hp = es.hp ∧ es'.nx = es.nx ∧ rawE es' (.t (pth t)) = r) : CC tb (k0 + 1) f args r :=
  CC.of hf hn fun n k hp nx hk => (h n k _ hk (A09 args hp nx)).mono fun _ es' ⟨h1, h2, h3, h4⟩ => ⟨h1, by
    have e2 : es'.hp = hp := h2
    have e3 : es'.nx = nx := h3
    rw [← e2, ← e3]; exact fin1 h4 hr⟩
theorem CA.run1 {tb : Nat → Option FE} {k0 f t : Nat} {c : CE} {nt : Nat} {args : List DV} {r : DV} (hf : tb f = some ⟨c, [(t, none)], nt⟩) (hn : args.length ≤ nt) (hr : r.refs = [])
    (h : ∀ n k es, k0 ≤ k → Ent es args → EW c (callE tb n k) es fun e es' => (e = .normal ∨ e = .ret) ∧ Al es.hp es.nx es'.hp es'.nx ∧ rawE es' (.t (pth t)) = r) : CA tb (k0 + 1) f args r :=
  CA.of hf hn fun n k hp nx hk => (h n k _ hk (A09 args hp nx)).mono fun _ es' ⟨h1, h2, h3⟩ => ⟨h1, es'.hp, es'.nx, fin1 h3 hr, h2⟩
end Go.DD

/- The evaluator, read with symbols: regions that draw their order. -/
namespace Go.DD
def TW (s : DStp) (call : CallT) (n0 m : Nat) (δ : DSt) (Q : DSt → Prop) : Prop := ∃ δ', s call n0 m δ = some δ' ∧ Q δ'
theorem B18 {m : Nat} {s : DStp} {call : CallT} {es : ES} {Q : ES → Prop} : SW (regE m s) call es Q ↔ TW s call es.nx m ⟨⟨es.sl, es.hp, es.nx + m⟩, [], [], []⟩ fun d => Af8 es.nx m d.ws d.ps = true ∧ Q d.es := by
  have e : regE m s call es = Option.rec (motive := fun _ => Option ES) none (fun d => iteB (Af8 es.nx m d.ws d.ps) (some d.es) none) (s call es.nx m ⟨⟨es.sl, es.hp, es.nx + m⟩, [], [], []⟩) := by
    unfold regE; rw [cs_eq, Ab2]
  constructor
  · rintro ⟨es', h1, h2⟩
    rw [e] at h1
    obtain ⟨d, h3, h4⟩ := optR h1
    obtain ⟨h5, h6⟩ := Ab8 h4
    cases h6
    exact ⟨d, h3, h5, h2⟩
  · rintro ⟨d, h1, h2, h3⟩
    exact ⟨d.es, by rw [e, h1]; show iteB _ _ _ = _; rw [h2]; rfl, h3⟩
theorem tw_q {s k : DStp} {call : CallT} {n0 m : Nat} {δ : DSt} {Q : DSt → Prop} : TW (dq s k) call n0 m δ Q ↔ TW s call n0 m δ fun δ' => TW k call n0 m δ' Q := by
  constructor
  · rintro ⟨δ', h1, h2⟩
    obtain ⟨δ1, h3, h4⟩ := optR h1
    exact ⟨δ1, h3, δ', h4, h2⟩
  · rintro ⟨δ1, h1, δ', h2, h3⟩
    exact ⟨δ', by unfold dq; rw [h1]; exact h2, h3⟩
theorem tw_z {call : CallT} {n0 m : Nat} {δ : DSt} {Q : DSt → Prop} : TW dEnd call n0 m δ Q ↔ Q δ := by
  constructor
  · rintro ⟨δ', h1, h2⟩
    have h3 : some δ = some δ' := h1
    cases h3; exact h2
  · exact fun h => ⟨δ, rfl, h⟩
theorem B19 {an : List Nat} {ps : List Pa} {s : DStp} {call : CallT} {n0 m : Nat} {δ : DSt} {Q : DSt → Prop} : TW (dChk an ps s) call n0 m δ Q ↔ allL (refsL δ.es ps) (fun id => okRef n0 m an δ.es.hp id) = true ∧ TW s call n0 m δ Q := by
  constructor
  · rintro ⟨δ', h1, h2⟩
    obtain ⟨h3, h4⟩ := Ab8 (show iteB _ _ _ = _ from h1)
    exact ⟨h3, δ', h4, h2⟩
  · rintro ⟨h1, δ', h2, h3⟩
    exact ⟨δ', by unfold dChk; rw [h1]; exact h2, h3⟩
theorem Bn6 {i : Nat} {an : List Nat} {wide c : Bool} {dst : Option Pa} {x : Nat → XP} {ps : List Pa} {call : CallT} {n0 m : Nat} {es : ES} {lo : List Nat} {ws : List Look} {pp : List Past} {Q : DSt → Prop} :
    TW (dRead i an wide c dst x ps) call n0 m ⟨es, lo, ws, pp⟩ Q ↔ XW (x (n0 + i) es) fun v => Q ⟨es.putE dst v, lo, lookE i an wide c (refsL es ps) n0 lo ws, pp⟩ := by
  constructor
  · rintro ⟨δ', h1, h2⟩
    obtain ⟨v, h3, h4⟩ := optR h1
    have h5 : some (⟨es.putE dst v, lo, lookE i an wide c (refsL es ps) n0 lo ws, pp⟩ : DSt) = some δ' := h4
    cases h5
    exact ⟨v, h3, h2⟩
  · rintro ⟨v, h1, h2⟩
    have e : dRead i an wide c dst x ps call n0 m ⟨es, lo, ws, pp⟩ = Option.rec (motive := fun _ => Option DSt) none (fun v => some ⟨es.putE dst v, lo, lookE i an wide c (refsL es ps) n0 lo ws, pp⟩) (x (n0 + i) es) := rfl
    exact ⟨_, by rw [e, h1], h2⟩
theorem B20 (i : Nat) (c : Bool) (an refs lo : List Nat) (n0 : Nat) (ws : List Look) : lookE i an false c refs n0 lo ws = ws := rfl
theorem A10 (n0 m : Nat) (ps : List Past) : Af8 n0 m [] ps = true := rfl
theorem Bc9 (es : ES) : refsL es [] = [] := rfl
theorem Ab1 {hp : Tr DObj} {d : DV} (h : d.refs = []) : liveE hp d = d := by
  unfold liveE; rw [Aj8, h]; rfl
theorem An6 (es : ES) (t : Nat) : es.ds.ev (.tmp t) = liveE es.hp (rawE es (.t (pth t))) := (Al2 es (.tmp t)).symm
theorem B21 (cs : List DV) (n : Nat) : (DV.sl cs n).refs = [] := rfl
theorem B22 (v : Value) : (DV.v v).refs = [] := rfl
theorem B23 (cs : List DV) : (DV.ia cs).refs = [] := rfl
def eqsD (neg : Bool) (ks : List Nat) : DV → DV → Option DV
  | .agg xs, .agg ys => (eqL ks xs ys).map fun b => .v (.bool (xor neg b))
  | _, _ => none
end Go.DD

/- Lists of records, as their cells lie. -/
namespace Go.DD
end Go.DD

/- The evaluator, read with symbols: guards, choices, parts of tuples; contracts without a heap. -/
namespace Go.DD
def GW (d : DV) (b : Bool) (A B : Prop) : Prop := (∃ c, d = .v (.bool c) ∧ (c = b → A) ∧ (c ≠ b → B)) ∨ (∃ vs, d = .v (.tuple vs) ∧ B)
theorem sw_g {p : Pa} {b : Bool} {dst : Option Pa} {s : Stp} {call : CallT} {es : ES} {Q : ES → Prop} : GW (rawE es (.t p)) b (SW s call es Q) (Q (es.putE dst (.v undef))) → SW (sG p b dst s) call es Q := by
  rintro (⟨c, h1, h2, h3⟩ | ⟨vs, h1, h2⟩)
  · have hw : wantE es p b = some (c == b) := by unfold wantE; rw [h1]; rfl
    unfold SW sG
    rw [hw]
    by_cases hc : c = b
    · obtain ⟨es', h4, h5⟩ := h2 hc
      refine ⟨es', ?_, h5⟩
      subst hc
      simp only [beq_self_eq_true]
      exact h4
    · refine ⟨_, ?_, h3 hc⟩
      have : (c == b) = false := by simpa using hc
      rw [this]
  · have hw : wantE es p b = some false := by unfold wantE; rw [h1]; rfl
    exact ⟨_, by unfold sG; rw [hw], h2⟩
theorem sw_g' {p : Pa} {b : Bool} {dst : Option Pa} {s : Stp} {call : CallT} {es : ES} {Q : ES → Prop} : SW (sG p b dst s) call es Q ↔ GW (rawE es (.t p)) b (SW s call es Q) (Q (es.putE dst (.v undef))) := by
  refine ⟨?_, sw_g⟩
  rintro ⟨es', h1, h2⟩
  unfold sG at h1
  obtain ⟨c, h3, h4⟩ := optR h1
  unfold wantE at h3
  obtain ⟨v, hv, h3⟩ := Aj9 h3
  cases v with
  | bool t =>
    refine .inl ⟨t, hv, fun e => ?_, fun e => ?_⟩
    · have h5 : some (t == b) = some c := h3
      cases h5
      subst e
      simp only [beq_self_eq_true] at h4
      exact ⟨es', h4, h2⟩
    · have h5 : some (t == b) = some c := h3
      cases h5
      have : (t == b) = false := by simpa using e
      rw [this] at h4
      cases h4
      exact h2
  | tuple vs =>
    refine .inr ⟨vs, hv, ?_⟩
    have h5 : some false = some c := h3
    cases h5
    cases h4
    exact h2
  | _ => cases h3
theorem gw_b {c b : Bool} {A B : Prop} : GW (.v (.bool c)) b A B ↔ (c = b → A) ∧ (c ≠ b → B) := by
  constructor
  · rintro (⟨c', h1, h2⟩ | ⟨vs, h1, _⟩)
    · cases h1; exact h2
    · cases h1
  · exact fun h => .inl ⟨c, rfl, h⟩
theorem gw_u {b : Bool} {A B : Prop} : GW (.v undef) b A B ↔ B := by
  constructor
  · rintro (⟨c', h1, h2⟩ | ⟨vs, _, h⟩)
    · cases h1
    · exact h
  · exact fun h => .inr ⟨_, rfl, h⟩
def pickD (c x y : DV) : Option DV := match c with
  | .v (.bool t) => some (if t then x else y)
  | _ => none
theorem B24 (c x y : EO) (es : ES) : xPick c x y es = pickD (rawE es c) (rawE es x) (rawE es y) := by
  unfold xPick
  cases rawE es c with
  | v a => cases a <;> first | rfl | (rename_i t; cases t <;> rfl)
  | _ => rfl
theorem B25 (t : Bool) (x y : DV) : pickD (.v (.bool t)) x y = some (if t then x else y) := rfl
def unD (op : UnOp) (x : DV) : Option DV := match x with
  | .v v => (unV op (.v v)).map .v
  | _ => none
theorem x_un (op : UnOp) (x : EO) (es : ES) : xUn op x es = unD op (rawE es x) := by
  unfold xUn
  cases rawE es x with
  | v a =>
    show outV _ = _
    rw [Az6]; rfl
  | _ => rfl
noncomputable def callG (rel : Nat → List DV → Option DV) : CallT := fun tg ds hp nx => match tg with
  | .fn f => match rel f ds with
    | some d => some (d, hp, nx)
    | none => none
  | .yl _ => none
theorem Bd0 {P : Program} {rel : Nat → List DV → Option DV} (h : ∀ f ds d, rel f ds = some d → Known P f ds d) : Ac7 P (callG rel) := by
  intro tg ds hp nx d hp' nx' hc _
  cases tg with
  | yl id => cases hc
  | fn f =>
    have hc' : (match rel f ds with
      | some d => some (d, hp, nx)
      | none => none) = some (d, hp', nx') := hc
    split at hc'
    · rename_i d0 hd
      cases hc'
      obtain ⟨k1, k2, k3⟩ := h f ds d hd
      exact ⟨Nat.le_refl _, fun id h2 h3 => absurd h2 h3, k1, fun sv K hK => .inr ⟨_, k2, k3, hK⟩⟩
    · cases hc'
theorem Known.of {P : Program} (hm : P.follows .mixedOrders = true) {tb : Nat → Option FE} {n' : Nat} (htb : TbOK P n' tb) {f : Nat} {fe : FE} {args : List DV} {r : DV} {call : CallT} (hc : Ac7 P call) (hf : tb f = some fe) (hn : args.length ≤ fe.nt) (hr : ∀ x ∈ args, x.refs = [])
    (h : EW fe.run call ⟨argT args, .e, 0⟩ fun e es => (e = .normal ∨ e = .ret) ∧ ∃ d, finE fe.res es = some (d, es.hp, es.nx) ∧ rz es.hp.get 6 d = some r) : Known P f args r := by
  obtain ⟨e, es, h1, h2, d, h3, h4⟩ := h
  have hs : stepC tb 0 call (.fn f) args .e 0 = some (d, es.hp, es.nx) := by
    show (match tb f with
      | some fe => if args.length ≤ fe.nt then match fe.run call ⟨argT args, .e, 0⟩ with
          | some (.normal, es) => finE fe.res es
          | some (.ret, es) => finE fe.res es
          | _ => none
        else none
      | none => none) = some (d, es.hp, es.nx)
    rw [hf]
    simp only
    rw [if_pos hn, h1]
    rcases h2 with rfl | rfl
    · exact h3
    · exact h3
  obtain ⟨_, _, hcb, hI⟩ := As4 hm htb hc _ _ _ _ _ _ _ hs (fun id _ => by cases id <;> rfl)
  refine ⟨hcb, hr, DCall.of_callC (sv := fun _ => .any) ?_⟩
  have := hI (fun _ => .any) (fun s d => ∃ r', rz s.ho 6 d = some r' ∧ r' = r) ⟨r, h4, rfl⟩
  have e : (Tr.e : Tr DObj).get = fun _ => none := by funext id; cases id <;> rfl
  rw [e] at this
  exact this
theorem Ca7 {ho : Nat → Option DObj} {n : Nat} {d : DV} (h : d.flat = true) : rz ho (n + 1) d = some d := by
  cases d <;> first | rfl | (simp [DV.flat] at h)
theorem Known.run1 {P : Program} (hm : P.follows .mixedOrders = true) {tb : Nat → Option FE} {n' : Nat} (htb : TbOK P n' tb) {f t : Nat} {c : CE} {nt : Nat} {args : List DV} {r : DV} {call : CallT} (hc : Ac7 P call) (hf : tb f = some ⟨c, [(t, none)], nt⟩) (hn : args.length ≤ nt) (hr : ∀ x ∈ args, x.refs = []) (hrr : r.refs = []) (hz : ∀ ho, rz ho 6 r = some r)
    (h : ∀ es, Ent es args → EW c call es fun e es' => (e = .normal ∨ e = .ret) ∧ rawE es' (.t (pth t)) = r) : Known P f args r :=
  Known.of hm htb hc hf hn hr ((h _ (A09 args .e 0)).mono fun _ _ ⟨h1, h2⟩ => ⟨h1, r, fin1 h2 hrr, hz _⟩)
end Go.DD

/- The evaluator, read with symbols: steps that lay or write; loops counted upwards; contracts by families. -/
namespace Go.DD
open Go
theorem EW.up {c : CE} {call : CallT} {Q : Exit → ES → Prop} (n : Nat) (St : Nat → ES → Prop) (step : ∀ i es, i ≤ n → St i es → EW c call es (thenE (fun es1 => i < n ∧ St (i + 1) es1) Q)) {k : Nat} {es : ES} (h0 : St 0 es) (hk : n < k) : EW (cL k c) call es Q :=
  EW.l (I := fun m es => ∃ i, m = n - i ∧ i ≤ n ∧ St i es) (by
    rintro m es ⟨i, rfl, hi, hs⟩
    refine (step i es hi hs).mono fun e es1 h => ?_
    cases e with
    | normal => obtain ⟨hlt, hs1⟩ := h; exact ⟨n - (i + 1), by omega, i + 1, rfl, by omega, hs1⟩
    | _ => exact h) n k es ⟨0, rfl, by omega, h0⟩ hk
def UW (x : Option (DV × Upd)) (K : DV → Upd → Prop) : Prop := ∃ d u, x = some (d, u) ∧ K d u
theorem Aq1 {d : DV} {u : Upd} {K : DV → Upd → Prop} : UW (some (d, u)) K ↔ K d u := ⟨fun ⟨_, _, h1, h2⟩ => (by cases h1; exact h2), fun h => ⟨d, u, rfl, h⟩⟩
noncomputable def ES.up (es : ES) (u : Upd) : ES := ⟨es.sl, updE es.hp es.nx u, if u.new then es.nx + 1 else es.nx⟩
theorem Ai0 (es : ES) (o : DObj) : es.up (.lay o) = ⟨es.sl, setN es.hp es.nx (some o), es.nx + 1⟩ := rfl
theorem up_wr (es : ES) (id : Nat) (o : DObj) : es.up (.wr id o) = ⟨es.sl, setN es.hp id (some o), es.nx⟩ := rfl
theorem B26 (es : ES) (o : DObj) : es.up (.mv none o) = ⟨es.sl, setN es.hp es.nx (some o), es.nx + 1⟩ := rfl
theorem B27 (es : ES) (i : Nat) (o : DObj) : es.up (.mv (some i) o) = ⟨es.sl, setN (setN es.hp i none) es.nx (some o), es.nx + 1⟩ := rfl
theorem sw_u {dst : Option Pa} {x : XU} {call : CallT} {es : ES} {Q : ES → Prop} : SW (sU dst x) call es Q ↔ UW (x es es.nx) fun d u => Q ((es.up u).putE dst d) := by
  have key : ∀ d u, x es es.nx = some (d, u) → sU dst x call es = some ((es.up u).putE dst d) := by
    intro d u h
    unfold sU
    rw [h]
    show es.cs (fun sl hp nx => iteB u.new (Ae9 (nx + 1) fun n => some ((ES.mk sl (updE hp nx u) n).putE dst d)) (some ((ES.mk sl (updE hp nx u) nx).putE dst d))) = _
    rw [cs_eq, Ab2, Aa8]
    unfold ES.up
    cases u.new <;> rfl
  constructor
  · rintro ⟨es', h1, h2⟩
    cases hx : x es es.nx with
    | none =>
      have : sU dst x call es = none := by unfold sU; rw [hx]
      rw [this] at h1; cases h1
    | some p =>
      obtain ⟨d, u⟩ := p
      rw [key d u hx] at h1
      cases h1
      exact ⟨d, u, rfl, h2⟩
  · rintro ⟨d, u, h1, h2⟩
    exact ⟨_, key d u h1, h2⟩
theorem x_any (o : DOp) (es : ES) (nid : Nat) : xAny o es nid = execU nid es.ds o := rfl
theorem get_set (t : Tr DObj) (k j : Nat) (v : Option DObj) : (setN t k v).get j = if j = k then v else t.get j := by rw [Ar8]
theorem Am8 (hp : Tr DObj) (v : Value) : liveE hp (.v v) = .v v := Ab1 rfl
theorem Bn7 (hp : Tr DObj) (cs : List DV) (n : Nat) : liveE hp (.sl cs n) = .sl cs n := Ab1 rfl
theorem Bn8 (hp : Tr DObj) (cs : List DV) : liveE hp (.ia cs) = .ia cs := Ab1 rfl
theorem Ak5 {hp : Tr DObj} {d : DV} (h : ∀ id ∈ d.refs, (hp.get id).isSome = true) : liveE hp d = d := by
  unfold liveE
  rw [Aj8, Au9, Aa8, if_pos]
  rw [List.all_eq_true]
  intro id hi
  rw [Af0, gN_eq]
  exact h id hi
theorem Ag2 {hp : Tr DObj} {id off n es : Nat} {o : DObj} (h : hp.get id = some o) : liveE hp (.ms id off n es) = .ms id off n es := Ak5 fun i hi => by
  have : i = id := by simpa [DV.refs] using hi
  rw [this, h]; rfl
theorem Ca8 {hp : Tr DObj} {id off : Nat} {o : DObj} (h : hp.get id = some o) : liveE hp (.pt id off) = .pt id off := Ak5 fun i hi => by
  have : i = id := by simpa [DV.refs] using hi
  rw [this, h]; rfl
theorem Ca9 {hp : Tr DObj} {id : Nat} {o : DObj} (h : hp.get id = some o) : liveE hp (.mp id) = .mp id := Ak5 fun i hi => by
  have : i = id := by simpa [DV.refs] using hi
  rw [this, h]; rfl
def lnsD : DV → Option DV
  | .v (.string b) => some (.v (.int .i64 b.size))
  | _ => none
def ixsD : DV → DV → Option DV
  | .v (.string b), .v (.int _ j) => if 0 ≤ j then (b[j.toNat]?).map fun c => .v (.int .u8 (c.toNat : Int)) else none
  | _, _ => none
def keepU (x : Option DV) : Option (DV × Upd) := x.map fun d => (d, .keep)
theorem Bn9 {d : DV} {K : DV → Upd → Prop} : UW (keepU (some d)) K ↔ K d .keep := Aq1
theorem x_lns {t : Nat} {es : ES} {nid : Nat} : xAny (.lns (.tmp t)) es nid = keepU (lnsD (liveE es.hp (rawE es (.t (pth t))))) := by
  rw [x_any, ← An6]
  simp only [execU]
  cases es.ds.ev (.tmp t) with
  | v x => cases x <;> rfl
  | _ => rfl
theorem x_ixs {t u : Nat} {es : ES} {nid : Nat} : xAny (.ixs (.tmp t) (.tmp u)) es nid = keepU (ixsD (liveE es.hp (rawE es (.t (pth t)))) (liveE es.hp (rawE es (.t (pth u))))) := by
  rw [x_any, ← An6, ← An6]
  simp only [execU]
  cases es.ds.ev (.tmp t) with
  | v x => cases x <;> cases es.ds.ev (.tmp u) with
    | v y => cases y <;> first | rfl | (simp only [intD, ixsD, keepU]; split <;> first | rfl | (cases ByteArray.get? _ _ <;> rfl) | (simp only [Option.map_map]; rfl))
    | _ => rfl
  | _ => cases es.ds.ev (.tmp u) with
    | v y => cases y <;> rfl
    | _ => rfl
def s2bD : DV → Option DV
  | .v (.string b) => some (.sl (b.data.toList.map fun c => .v (.int .u8 (c.toNat : Int))) b.size)
  | _ => none
theorem x_s2b {t : Nat} {es : ES} {nid : Nat} : xAny (.s2b (.tmp t)) es nid = keepU (s2bD (liveE es.hp (rawE es (.t (pth t))))) := by
  rw [x_any, ← An6]
  simp only [execU]
  cases es.ds.ev (.tmp t) with
  | v x => cases x <;> rfl
  | _ => rfl
end Go.DD

/- The evaluator, read with symbols: guarded steps as data, not as branches; operations that lay nothing as data. -/
namespace Go.DD
open Go
theorem nr {α : Sort _} {a b : α} (h : a = b) : a = b := h
@[congr] theorem ew_congr {c : CE} {call : CallT} {es es' : ES} {Q : Exit → ES → Prop} (h : es = es') : EW c call es Q = EW c call es' Q := by rw [h]
@[congr] theorem sw_congr {s : Stp} {call : CallT} {es es' : ES} {Q : ES → Prop} (h : es = es') : SW s call es Q = SW s call es' Q := by rw [h]
@[congr] theorem xw_congr {x x' : Option DV} {K : DV → Prop} (h : x = x') : XW x K = XW x' K := by rw [h]
@[congr] theorem uw_congr {x x' : Option (DV × Upd)} {K : DV → Upd → Prop} (h : x = x') : UW x K = UW x' K := by rw [h]
@[congr] theorem kw_congr {call : CallT} {tg : Tg} {ds ds' : List DV} {hp hp' : Tr DObj} {nx nx' : Nat} {K : DV → Tr DObj → Nat → Prop} (h1 : ds = ds') (h2 : hp = hp') (h3 : nx = nx') : KW call tg ds hp nx K = KW call tg ds' hp' nx' K := by rw [h1, h2, h3]
@[congr] theorem cw_congr {d d' : DV} {A B : Prop} (h : d = d') : CW d A B = CW d' A B := by rw [h]
@[congr] theorem gw_congr {d d' : DV} {b : Bool} {A B : Prop} (h : d = d') : GW d b A B = GW d' b A B := by rw [h]
@[congr] theorem tw_congr {s : DStp} {call : CallT} {n0 m : Nat} {d d' : DSt} {Q : DSt → Prop} (h : d = d') : TW s call n0 m d Q = TW s call n0 m d' Q := by rw [h]
@[congr] theorem then_congr {n : ES → Prop} {Q : Exit → ES → Prop} {e : Exit} {es : ES} : thenE n Q e es = thenE n Q e es := nr rfl
@[congr] theorem blk_congr {i : Nat} {Q : Exit → ES → Prop} {e : Exit} {es : ES} : blkE i Q e es = blkE i Q e es := nr rfl
theorem B28 {n : ES → Prop} {Q : Exit → ES → Prop} {es : ES} : thenE n Q .normal es = n es := nr rfl
theorem B29 {n : ES → Prop} {Q : Exit → ES → Prop} {es : ES} : thenE n Q .ret es = Q .ret es := nr rfl
theorem B30 {n : ES → Prop} {Q : Exit → ES → Prop} {i : Nat} {es : ES} : thenE n Q (.exit i) es = Q (.exit i) es := nr rfl
theorem blk_n {i : Nat} {Q : Exit → ES → Prop} {es : ES} : blkE i Q .normal es = Q .normal es := nr rfl
theorem blk_r {i : Nat} {Q : Exit → ES → Prop} {es : ES} : blkE i Q .ret es = Q .ret es := nr rfl
theorem blk_x {i : Nat} {Q : Exit → ES → Prop} {es : ES} : blkE i Q (.exit i) es = Q .normal es := by simp [blkE]
theorem blk_y {i j : Nat} {Q : Exit → ES → Prop} {es : ES} (h : j ≠ i) : blkE i Q (.exit j) es = Q (.exit j) es := by simp [blkE, h]
def mk1 (d : DV) : Option DV := some d
theorem B31 (d : DV) : mk1 d = some d := nr rfl
theorem sw_m1 {dst : Option Pa} {x : EO} {call : CallT} {es : ES} {Q : ES → Prop} : SW (sM dst x) call es Q ↔ XW (mk1 (rawE es x)) fun d => Q (es.putE dst d) := sw_m.trans (A08 (Q := fun d => Q (es.putE dst d))).symm
def gdO (g : DV) (b : Bool) (x : Option DV) : Option DV := match g with
  | .v (.bool c) => if c = b then x else some (.v undef)
  | .v (.tuple _) => some (.v undef)
  | _ => none
theorem Bo0 {es : ES} {p : Pa} {b c : Bool} (h : wantE es p b = some c) : (∃ t, rawE es (.t p) = .v (.bool t) ∧ c = (t == b)) ∨ (∃ vs, rawE es (.t p) = .v (.tuple vs) ∧ c = false) := by
  unfold wantE at h
  obtain ⟨v, hv, h⟩ := Aj9 h
  cases v with
  | bool t =>
    have h5 : some (t == b) = some c := h
    cases h5
    exact .inl ⟨t, hv, rfl⟩
  | tuple vs =>
    have h5 : some false = some c := h
    cases h5
    exact .inr ⟨vs, hv, rfl⟩
  | _ => cases h
theorem sg_x {p : Pa} {b : Bool} {dst : Option Pa} {s : Stp} {X : ES → Option DV} {call : CallT} {es : ES} {Q : ES → Prop}
    (hs : ∀ Q : ES → Prop, SW s call es Q ↔ XW (X es) fun d => Q (es.putE dst d)) : SW (sG p b dst s) call es Q ↔ XW (gdO (rawE es (.t p)) b (X es)) fun d => Q (es.putE dst d) := by
  rw [sw_g']
  constructor
  · rintro (⟨c, h1, h2, h3⟩ | ⟨vs, h1, h2⟩)
    · rw [h1]
      simp only [gdO]
      by_cases hc : c = b
      · rw [if_pos hc]; exact (hs Q).1 (h2 hc)
      · rw [if_neg hc]; exact ⟨_, rfl, h3 hc⟩
    · rw [h1]; exact ⟨_, rfl, h2⟩
  · rintro ⟨d, h1, h2⟩
    unfold gdO at h1
    split at h1
    · rename_i c hr
      refine .inl ⟨c, hr, fun hc => ?_, fun hc => ?_⟩
      · rw [if_pos hc] at h1; exact (hs Q).2 ⟨d, h1, h2⟩
      · rw [if_neg hc] at h1; cases h1; exact h2
    · rename_i vs hr
      cases h1
      exact .inr ⟨_, hr, h2⟩
    · cases h1
theorem sw_gx {p : Pa} {b : Bool} {dst : Option Pa} {x : XP} {call : CallT} {es : ES} {Q : ES → Prop} : SW (sG p b dst (sX dst x)) call es Q ↔ XW (gdO (rawE es (.t p)) b (x es)) fun d => Q (es.putE dst d) := sg_x fun _ => sw_x
theorem sw_gm {p : Pa} {b : Bool} {dst : Option Pa} {x : EO} {call : CallT} {es : ES} {Q : ES → Prop} : SW (sG p b dst (sM dst x)) call es Q ↔ XW (gdO (rawE es (.t p)) b (some (rawE es x))) fun d => Q (es.putE dst d) :=
  sg_x (X := fun es => some (rawE es x)) fun Q => by rw [sw_m]; exact (A08 (Q := fun d => Q (es.putE dst d))).symm
theorem A11 {dst : Option Pa} {x : XU} {X : XP} (h : ∀ es nid, x es nid = keepU (X es)) : sU dst x = sX dst X := by
  funext call es
  unfold sU sX
  rw [h]
  unfold keepU
  cases X es with
  | none => rfl
  | some d =>
    show es.cs (fun sl hp nx => iteB Upd.keep.new (Ae9 (nx + 1) fun n => some ((ES.mk sl (updE hp nx .keep) n).putE dst d)) (some ((ES.mk sl (updE hp nx .keep) nx).putE dst d))) = _
    rfl
noncomputable def xLns (t : Nat) : XP := fun es => lnsD (liveE es.hp (rawE es (.t (pth t))))
noncomputable def xIxs (t u : Nat) : XP := fun es => ixsD (liveE es.hp (rawE es (.t (pth t)))) (liveE es.hp (rawE es (.t (pth u))))
noncomputable def xS2b (t : Nat) : XP := fun es => s2bD (liveE es.hp (rawE es (.t (pth t))))
theorem Bo1 {dst : Option Pa} {t : Nat} {call : CallT} {es : ES} {Q : ES → Prop} : SW (sU dst (xAny (.lns (.tmp t)))) call es Q ↔ XW (xLns t es) fun d => Q (es.putE dst d) := by rw [A11 (X := xLns t) fun _ _ => x_lns]; exact sw_x
theorem Bo2 {dst : Option Pa} {t u : Nat} {call : CallT} {es : ES} {Q : ES → Prop} : SW (sU dst (xAny (.ixs (.tmp t) (.tmp u)))) call es Q ↔ XW (xIxs t u es) fun d => Q (es.putE dst d) := by rw [A11 (X := xIxs t u) fun _ _ => x_ixs]; exact sw_x
theorem B32 {dst : Option Pa} {t : Nat} {call : CallT} {es : ES} {Q : ES → Prop} : SW (sU dst (xAny (.s2b (.tmp t)))) call es Q ↔ XW (xS2b t es) fun d => Q (es.putE dst d) := by rw [A11 (X := xS2b t) fun _ _ => x_s2b]; exact sw_x
theorem n_not (b : Bool) : unD .not (.v (.bool b)) = some (.v (.bool !b)) := nr rfl
theorem n_neg (k : IntKind) (n : Int) : unD .neg (.v (.int k n)) = some (.v (.int k (k.wrap (0 - n)))) := nr rfl
theorem n_c (es : ES) (d : DV) : rawE es (.c d) = d := nr rfl
theorem n_mk (es : ES) (hp : Tr DObj) (nx : Nat) (p : Pa) : rawE (ES.mk es.sl hp nx) (.t p) = rawE es (.t p) := nr rfl
theorem n_lns (b : ByteArray) : lnsD (.v (.string b)) = some (.v (.int .i64 b.size)) := nr rfl
theorem n_s2b (b : ByteArray) : s2bD (.v (.string b)) = some (.sl (b.data.toList.map fun c => .v (.int .u8 (c.toNat : Int))) b.size) := nr rfl
theorem n_up (es : ES) : es.up .keep = es := nr rfl
theorem B33 (t : Nat) (es : ES) : xLns t es = lnsD (liveE es.hp (rawE es (.t (pth t)))) := nr rfl
theorem B34 (t u : Nat) (es : ES) : xIxs t u es = ixsD (liveE es.hp (rawE es (.t (pth t)))) (liveE es.hp (rawE es (.t (pth u)))) := nr rfl
theorem B35 (t : Nat) (es : ES) : xS2b t es = s2bD (liveE es.hp (rawE es (.t (pth t)))) := nr rfl
theorem Cb0 {p : Pa} {b : Bool} {dst : Option Pa} {t : Nat} {call : CallT} {es : ES} {Q : ES → Prop} : SW (sG p b dst (sU dst (xAny (.lns (.tmp t))))) call es Q ↔ XW (gdO (rawE es (.t p)) b (xLns t es)) fun d => Q (es.putE dst d) := sg_x fun _ => Bo1
theorem Cb1 {p : Pa} {b : Bool} {dst : Option Pa} {t u : Nat} {call : CallT} {es : ES} {Q : ES → Prop} : SW (sG p b dst (sU dst (xAny (.ixs (.tmp t) (.tmp u))))) call es Q ↔ XW (gdO (rawE es (.t p)) b (xIxs t u es)) fun d => Q (es.putE dst d) := sg_x fun _ => Bo2
section
variable {c : Bool}
theorem gd_t {x : Option DV} : gdO (.v (.bool c)) true x = if c = true then x else some (.v undef) := nr rfl
theorem gd_f {x : Option DV} : gdO (.v (.bool c)) false x = if c = true then some (.v undef) else x := by cases c <;> rfl
theorem gd_u {b : Bool} {x : Option DV} : gdO (.v undef) b x = some (.v undef) := nr rfl
theorem gd_i {a a' : DV} {b : Bool} {x : Option DV} : gdO (if c = true then a else a') b x = if c = true then gdO a b x else gdO a' b x := by cases c <;> rfl
theorem Ci8 {a b : DV} : (if c = true then some a else some b) = some (if c = true then a else b) := by cases c <;> rfl
theorem i_tt {α : Type} {a b d : α} : (if c = true then (if c = true then a else b) else d) = if c = true then a else d := by cases c <;> rfl
theorem i_ee {α : Type} {a b d : α} : (if c = true then a else (if c = true then b else d)) = if c = true then a else d := by cases c <;> rfl
theorem Ci9 {op : BinOp} {a b y : DV} : binD op (if c = true then a else b) y = if c = true then binD op a y else binD op b y := by cases c <;> rfl
theorem Cj0 {op : BinOp} {a b y : DV} : binD op y (if c = true then a else b) = if c = true then binD op y a else binD op y b := by cases c <;> rfl
theorem i_un {op : UnOp} {a b : DV} : unD op (if c = true then a else b) = if c = true then unD op a else unD op b := by cases c <;> rfl
theorem Cb2 {a b x y : DV} : pickD (if c = true then a else b) x y = if c = true then pickD a x y else pickD b x y := by cases c <;> rfl
theorem Cj1 {hp : Tr DObj} {a b : DV} : liveE hp (if c = true then a else b) = if c = true then liveE hp a else liveE hp b := by cases c <;> rfl
theorem i_lns {a b : DV} : lnsD (if c = true then a else b) = if c = true then lnsD a else lnsD b := by cases c <;> rfl
theorem Cj2 {a b y : DV} : ixsD (if c = true then a else b) y = if c = true then ixsD a y else ixsD b y := by cases c <;> rfl
theorem Cj3 {a b y : DV} : ixsD y (if c = true then a else b) = if c = true then ixsD y a else ixsD y b := by cases c <;> rfl
theorem i_vb {x y : Bool} : (if c = true then DV.v (.bool x) else .v (.bool y)) = .v (.bool (if c = true then x else y)) := by cases c <;> rfl
theorem i_or {w : Bool} : (if c = true then true else w) = (c || w) := by cases c <;> rfl
theorem i_and {w : Bool} : (if c = true then w else false) = (c && w) := by cases c <;> rfl
end
theorem Cj4 (t : Bool) (x y : DV) : pickD (.v (.bool t)) x y = some (if t = true then x else y) := by cases t <;> rfl
def alv (hp : Tr DObj) (id : Nat) : Bool := (hp.get id).isSome
def lenD (hp : Tr DObj) (x : DV) : Option DV := match x with
  | .sl _ n => some (.v (.int .i64 n))
  | .v (.slice none n _) => some (.v (.int .i64 n))
  | .ms id _ n _ => if alv hp id = true then some (.v (.int .i64 n)) else none
  | _ => none
def iaD (hp : Tr DObj) (es : Nat) (x i : DV) : Option DV := match i with
  | .v (.int _ j) => match x with
    | .sl cs n => if 0 ≤ j ∧ j < n then some (.ia (cs.drop (j.toNat * es))) else none
    | .ms id off n _ => if alv hp id = true ∧ 0 ≤ j ∧ j < n then some (.pt id (off + j.toNat * es)) else none
    | _ => none
  | _ => none
def ldD (hp : Tr DObj) (k : Option Nat) (x : DV) : Option DV := match x with
  | .ia cs => partD k cs
  | .pt id off => match hp.get id with
    | some (.row _ cs) => partD k (cs.drop off)
    | _ => none
  | _ => none
def faD (hp : Tr DObj) (off : Nat) (x : DV) : Option DV := match x with
  | .ia cs => some (.ia (cs.drop off))
  | .pt id o => if alv hp id = true then some (.pt id (o + off)) else none
  | _ => none
theorem x_len (x : EO) (es : ES) : xLen x es = lenD es.hp (rawE es x) := by
  unfold xLen lenD
  cases rawE es x with
  | v a =>
    cases a with
    | slice a n c => cases a <;> rfl
    | _ => rfl
  | sl cs n => show Ae9 n (fun n => some (DV.v (.int .i64 (.ofNat n)))) = some (DV.v (.int .i64 n)); rw [Ab2]; rfl
  | ms id off n es' =>
    show iteB (someB (gN es.hp id)) (Ae9 n fun n => some (DV.v (.int .i64 (.ofNat n)))) (none : Option DV) = if alv es.hp id = true then some (DV.v (.int .i64 n)) else none
    rw [Ab2, Aa8, Af0, gN_eq]; rfl
  | _ => rfl
theorem B36 {α : Type} (j : Int) (n : Nat) (f : Nat → Option α) : cIx j n f none = if 0 ≤ j ∧ j < n then f j.toNat else none := by
  cases j with
  | ofNat m =>
    show iteB (Nat.blt m n) (f m) none = _
    rw [Aa8]
    by_cases h : m < n
    · rw [if_pos (by simpa [Nat.blt_eq] using h), if_pos ⟨by simp, by simpa using h⟩]; rfl
    · rw [if_neg (by simpa [Nat.blt_eq] using h), if_neg (fun hh => h (by simpa using hh.2))]
  | negSucc m =>
    rw [if_neg (fun hh => absurd hh.1 (by simp))]; rfl
theorem x_ia (es' : Nat) (x i : EO) (es : ES) : xIa es' x i es = iaD es.hp es' (rawE es x) (rawE es i) := by
  unfold xIa iaD
  cases rawE es i with
  | v a =>
    cases a with
    | int k j =>
      show cSl (rawE es x) _ _ _ _ = _
      cases rawE es x with
      | sl cs n => show cIx j n (fun m => some (DV.ia (dropL (m * es') cs))) none = _; rw [B36]; simp only [Ad8]
      | ms id off n e =>
        show iteB (someB (gN es.hp id)) (cIx j n (fun m => Ae9 (off + m * es') fun o => some (DV.pt id o)) none) none = _
        rw [Aa8, Af0, gN_eq, B36]
        simp only [Ab2, alv]
        by_cases h1 : (es.hp.get id).isSome = true <;> by_cases h2 : 0 ≤ j ∧ j < n <;> simp [h1, h2]
      | _ => rfl
    | _ => rfl
  | _ => rfl
theorem x_ld (k : Option Nat) (x : EO) (es : ES) : xLd k x es = ldD es.hp k (rawE es x) := by
  unfold xLd ldD
  cases rawE es x with
  | ia cs => exact Ao7 k cs
  | pt id off =>
    show cRow es.hp id (fun _ cs => partE k (dropL off cs)) (none : Option DV) = match es.hp.get id with
      | some (.row _ cs) => partD k (cs.drop off)
      | _ => none
    unfold cRow
    rw [gN_eq]
    cases es.hp.get id with
    | none => rfl
    | some o =>
      cases o with
      | row T cs => show partE k (dropL off cs) = partD k (cs.drop off); rw [Ao7, Ad8]
      | _ => rfl
  | _ => rfl
theorem x_fa (off : Nat) (x : EO) (es : ES) : xFa off x es = faD es.hp off (rawE es x) := by
  unfold xFa faD
  cases rawE es x with
  | ia cs => show some (DV.ia (dropL off cs)) = _; rw [Ad8]
  | pt id o =>
    show iteB (someB (gN es.hp id)) (Ae9 (o + off) fun n => some (DV.pt id n)) none = _
    rw [Aa8, Af0, gN_eq, Ab2]; rfl
  | _ => rfl
theorem len_s (hp : Tr DObj) (cs : List DV) (n : Nat) : lenD hp (.sl cs n) = some (.v (.int .i64 n)) := nr rfl
theorem ia_s {hp : Tr DObj} {es n i : Nat} {k : IntKind} {cs : List DV} (h : i < n) : iaD hp es (.sl cs n) (.v (.int k (i : Int))) = some (.ia (cs.drop (i * es))) := by
  show (if 0 ≤ (i : Int) ∧ (i : Int) < n then some (DV.ia (cs.drop ((i : Int).toNat * es))) else none) = _
  rw [if_pos ⟨by omega, by omega⟩]; rfl
theorem ld_i (hp : Tr DObj) (k : Option Nat) (cs : List DV) : ldD hp k (.ia cs) = partD k cs := nr rfl
theorem ld_p {hp : Tr DObj} {k : Option Nat} {id off : Nat} {T : TypeId} {cs : List DV} (h : hp.get id = some (.row T cs)) : ldD hp k (.pt id off) = partD k (cs.drop off) := by
  unfold ldD; simp only [h]
theorem fa_i (hp : Tr DObj) (off : Nat) (cs : List DV) : faD hp off (.ia cs) = some (.ia (cs.drop off)) := nr rfl
theorem fa_p {hp : Tr DObj} {id o off : Nat} {x : DObj} (h : hp.get id = some x) : faD hp off (.pt id o) = some (.pt id (o + off)) := by
  unfold faD alv; simp only [h]; rfl
section
variable {c : Bool}
theorem i_len {hp : Tr DObj} {a b : DV} : lenD hp (if c = true then a else b) = if c = true then lenD hp a else lenD hp b := by cases c <;> rfl
theorem i_ia1 {hp : Tr DObj} {es : Nat} {a b y : DV} : iaD hp es (if c = true then a else b) y = if c = true then iaD hp es a y else iaD hp es b y := by cases c <;> rfl
theorem i_ia2 {hp : Tr DObj} {es : Nat} {a b y : DV} : iaD hp es y (if c = true then a else b) = if c = true then iaD hp es y a else iaD hp es y b := by cases c <;> rfl
theorem i_ld {hp : Tr DObj} {k : Option Nat} {a b : DV} : ldD hp k (if c = true then a else b) = if c = true then ldD hp k a else ldD hp k b := by cases c <;> rfl
theorem i_fa {hp : Tr DObj} {k : Nat} {a b : DV} : faD hp k (if c = true then a else b) = if c = true then faD hp k a else faD hp k b := by cases c <;> rfl
end
end Go.DD

/- The evaluator, read with symbols: the operations one by one; own rows, maps, strings' iterators; calls of function values; calls in drawn regions. -/
namespace Go.DD
open Go
theorem sw_k {dst : Option Pa} {x : XU} {X : XP} (h : ∀ es nid, x es nid = keepU (X es)) {call : CallT} {es : ES} {Q : ES → Prop} : SW (sU dst x) call es Q ↔ XW (X es) fun d => Q (es.putE dst d) := by
  rw [A11 h]; exact sw_x
theorem sw_gk {p : Pa} {b : Bool} {dst : Option Pa} {x : XU} {X : XP} (h : ∀ es nid, x es nid = keepU (X es)) {call : CallT} {es : ES} {Q : ES → Prop} : SW (sG p b dst (sU dst x)) call es Q ↔ XW (gdO (rawE es (.t p)) b (X es)) fun d => Q (es.putE dst d) := sg_x fun _ => sw_k h
theorem n_ev (es : ES) (t : Nat) : es.ds.ev (.tmp t) = liveE es.hp (rawE es (.t (pth t))) := nr (An6 es t)
theorem n_evc (es : ES) (v : Value) : es.ds.ev (.const v) = ofV v := nr rfl
theorem n_ofi (k : IntKind) (n : Int) : ofV (.int k n) = .v (.int k n) := nr rfl
theorem n_ofb (b : Bool) : ofV (.bool b) = .v (.bool b) := nr rfl
theorem n_ofs (b : ByteArray) : ofV (.string b) = .v (.string b) := nr rfl
theorem n_ofl (n m : Nat) : ofV (.slice none n m) = .v (.slice none n m) := nr rfl
theorem n_ofp : ofV (.pointer none) = .v (.pointer none) := nr rfl
theorem Cb3 (hp : Tr DObj) (f : Nat) : liveE hp (.fn (.func f) [.tup []]) = .fn (.func f) [.tup []] := nr (Ab1 rfl)
def mmD (mx : Bool) (x y : DV) : Option DV := match x, y with
  | .v (.int k a), .v (.int _ b) => some (.v (.int k (if mx then (if b > a then b else a) else (if b < a then b else a))))
  | _, _ => none
def bbD (neg : Bool) (x y : DV) : Option DV := match x, y with
  | .v (.bool a), .v (.bool b) => some (.v (.bool (xor neg (a == b))))
  | _, _ => none
def cviE (k : IntKind) (x : DV) : Option DV := match x with
  | .v (.int _ n) => some (.v (.int k (k.wrap n)))
  | _ => none
theorem k_mm (b : Bool) (x y : Operand) (es : ES) (nid : Nat) : xAny (.mm b x y) es nid = keepU (mmD b (es.ds.ev x) (es.ds.ev y)) := by
  rw [x_any]; simp only [execU]
  cases es.ds.ev x with
  | v a => cases a <;> cases es.ds.ev y with
    | v c => cases c <;> rfl
    | _ => rfl
  | _ => cases es.ds.ev y <;> rfl
theorem k_bb (b : Bool) (x y : Operand) (es : ES) (nid : Nat) : xAny (.bb b x y) es nid = keepU (bbD b (es.ds.ev x) (es.ds.ev y)) := by
  rw [x_any]; simp only [execU]
  cases es.ds.ev x with
  | v a => cases a <;> cases es.ds.ev y with
    | v c => cases c <;> rfl
    | _ => rfl
  | _ => cases es.ds.ev y <;> rfl
theorem k_eqs (neg : Bool) (ks : List Nat) (x y : Operand) (es : ES) (nid : Nat) : xAny (.eqs neg ks x y) es nid = keepU (eqsD neg ks (es.ds.ev x) (es.ds.ev y)) := by
  rw [x_any]; simp only [execU]
  cases es.ds.ev x with
  | agg xs => cases es.ds.ev y with
    | agg ys => show (eqL ks xs ys).map _ = keepU ((eqL ks xs ys).map _); cases eqL ks xs ys <;> rfl
    | _ => rfl
  | _ => cases es.ds.ev y <;> rfl
theorem k_cvi (k : IntKind) (x : Operand) (es : ES) (nid : Nat) : xAny (.cvi k x) es nid = keepU (cviE k (es.ds.ev x)) := by
  rw [x_any]; simp only [execU]
  cases es.ds.ev x with
  | v a => cases a <;> rfl
  | _ => rfl
theorem k_mkf (f : Fn) (fst cap : List Operand) (es : ES) (nid : Nat) : xAny (.mkf f fst cap) es nid = keepU (some (.fn f (.tup (fst.map es.ds.ev) :: cap.map es.ds.ev))) := rfl
theorem sw_mm {dst : Option Pa} {b : Bool} {x y : Operand} {call : CallT} {es : ES} {Q : ES → Prop} : SW (sU dst (xAny (.mm b x y))) call es Q ↔ XW (mmD b (es.ds.ev x) (es.ds.ev y)) fun d => Q (es.putE dst d) := sw_k (k_mm b x y)
theorem Cj5 {p : Pa} {g : Bool} {dst : Option Pa} {b : Bool} {x y : Operand} {call : CallT} {es : ES} {Q : ES → Prop} : SW (sG p g dst (sU dst (xAny (.mm b x y)))) call es Q ↔ XW (gdO (rawE es (.t p)) g (mmD b (es.ds.ev x) (es.ds.ev y))) fun d => Q (es.putE dst d) := sw_gk (k_mm b x y)
theorem sw_bb {dst : Option Pa} {b : Bool} {x y : Operand} {call : CallT} {es : ES} {Q : ES → Prop} : SW (sU dst (xAny (.bb b x y))) call es Q ↔ XW (bbD b (es.ds.ev x) (es.ds.ev y)) fun d => Q (es.putE dst d) := sw_k (k_bb b x y)
theorem Cj6 {p : Pa} {g : Bool} {dst : Option Pa} {b : Bool} {x y : Operand} {call : CallT} {es : ES} {Q : ES → Prop} : SW (sG p g dst (sU dst (xAny (.bb b x y)))) call es Q ↔ XW (gdO (rawE es (.t p)) g (bbD b (es.ds.ev x) (es.ds.ev y))) fun d => Q (es.putE dst d) := sw_gk (k_bb b x y)
theorem Bo3 {dst : Option Pa} {k : IntKind} {x : Operand} {call : CallT} {es : ES} {Q : ES → Prop} : SW (sU dst (xAny (.cvi k x))) call es Q ↔ XW (cviE k (es.ds.ev x)) fun d => Q (es.putE dst d) := sw_k (k_cvi k x)
theorem B37 {dst : Option Pa} {f : Fn} {fst cap : List Operand} {call : CallT} {es : ES} {Q : ES → Prop} : SW (sU dst (xAny (.mkf f fst cap))) call es Q ↔ XW (some (.fn f (.tup (fst.map es.ds.ev) :: cap.map es.ds.ev))) fun d => Q (es.putE dst d) := sw_k (k_mkf f fst cap)
theorem Cj7 (k k' : IntKind) (a b : Int) : mmD false (.v (.int k a)) (.v (.int k' b)) = some (.v (.int k (min a b))) := by
  show some (DV.v (.int k (if b < a then b else a))) = _
  congr 3; omega
theorem Cj8 (k k' : IntKind) (a b : Int) : mmD true (.v (.int k a)) (.v (.int k' b)) = some (.v (.int k (max a b))) := by
  show some (DV.v (.int k (if b > a then b else a))) = _
  congr 3; omega
theorem eqs_a (neg : Bool) (ks : List Nat) (xs ys : List DV) : eqsD neg ks (.agg xs) (.agg ys) = (eqL ks xs ys).map fun b => .v (.bool (xor neg b)) := nr rfl
theorem bin_s (op : BinOp) (a b : ByteArray) : binD op (.v (.string a)) (.v (.string b)) = (binS op a b).map .v := nr rfl
def bxD (nid : Nat) (T : TypeId) (d : DV) : Option (DV × Upd) := if d.okC = true then some (.pt nid 0, .lay (.row T d.cells)) else none
theorem sw_bx {dst : Option Pa} {T : TypeId} {x : EO} {call : CallT} {es : ES} {Q : ES → Prop} : SW (sU dst (xBx T x)) call es Q ↔ UW (bxD es.nx T (evE es x)) fun d u => Q ((es.up u).putE dst d) := by
  rw [sw_u]
  have e : xBx T x es es.nx = bxD es.nx T (evE es x) := by
    unfold xBx bxD
    rw [Aa8, Ba7, Al3]
  rw [e]
theorem sw_al {dst : Option Pa} {T : TypeId} {z : List DV} {call : CallT} {es : ES} {Q : ES → Prop} : SW (sU dst (xAl T z)) call es Q ↔ Q ((es.up (.lay (.row T z))).putE dst (.pt es.nx 0)) := by
  rw [sw_u]; exact Aq1
def stD (hp : Tr DObj) (n : Nat) (a x : DV) : Option (DV × Upd) := match a with
  | .pt id off => match hp.get id with
    | some (.row T cs) => if x.okC = true ∧ x.cells.length = n ∧ off + n ≤ cs.length then some (.any, .wr id (.row T (cs.take off ++ x.cells ++ cs.drop (off + n)))) else none
    | _ => none
  | _ => none
theorem sw_st {dst : Option Pa} {n : Nat} {a x : EO} {call : CallT} {es : ES} {Q : ES → Prop} : SW (sU dst (xSt n a x)) call es Q ↔ UW (stD es.hp n (rawE es a) (evE es x)) fun d u => Q ((es.up u).putE dst d) := by
  rw [sw_u]
  have e : xSt n a x es es.nx = stD es.hp n (rawE es a) (evE es x) := by
    unfold xSt stD
    cases rawE es a with
    | pt id off =>
      show cRow es.hp id _ _ = _
      unfold cRow
      rw [gN_eq]
      simp only []
      cases es.hp.get id with
      | none => rfl
      | some o =>
        cases o with
        | row T cs =>
          show iteB (okE (evE es x)) (iteB (Nat.beq (Aw6 (evE es x)).length n) (iteB (Nat.ble (off + n) cs.length) (Aq8 (appL (takeL off cs) (appL (Aw6 (evE es x)) (dropL (off + n) cs))) fun l => some (DV.any, Upd.wr id (.row T l))) none) none) none = if (evE es x).okC = true ∧ (evE es x).cells.length = n ∧ off + n ≤ cs.length then some (.any, .wr id (.row T (cs.take off ++ (evE es x).cells ++ cs.drop (off + n)))) else none
          rw [Aa8, Aa8, Aa8, Ba7, Al3, Ao6, Af6, Af6, Ar9, Ad8]
          by_cases h1 : (evE es x).okC = true
          · by_cases h2 : (evE es x).cells.length = n
            · by_cases h3 : off + n ≤ cs.length
              · simp [h1, h2, h3]
              · simp [h1, h2, h3]
            · have : ¬ (Nat.beq (evE es x).cells.length n = true) := fun e => h2 (Nat.eq_of_beq_eq_true e)
              simp [h1, h2, this]
          · simp [h1]
        | _ => rfl
    | _ => rfl
  rw [e]
def stR (id off n : Nat) (x : DV) (o : Option DObj) : Option (DV × Upd) := match o with
  | some (.row T cs) => if x.okC = true ∧ x.cells.length = n ∧ off + n ≤ cs.length then some (.any, .wr id (.row T (cs.take off ++ x.cells ++ cs.drop (off + n)))) else none
  | _ => none
theorem st_pt (hp : Tr DObj) (n id off : Nat) (x : DV) : stD hp n (.pt id off) x = stR id off n x (hp.get id) := by
  show (match hp.get id with
    | some (.row T cs) => if x.okC = true ∧ x.cells.length = n ∧ off + n ≤ cs.length then some (DV.any, Upd.wr id (.row T (cs.take off ++ x.cells ++ cs.drop (off + n)))) else none
    | _ => none) = stR id off n x (hp.get id)
  unfold stR
  generalize hp.get id = o
  cases o with
  | none => rfl
  | some o => cases o <;> rfl
theorem st_r (id off n : Nat) (x : DV) (T : TypeId) (cs : List DV) (h1 : x.okC = true) (h2 : x.cells.length = n) (h3 : off + n ≤ cs.length) : stR id off n x (some (.row T cs)) = some (.any, .wr id (.row T (cs.take off ++ x.cells ++ cs.drop (off + n)))) := by
  show (if x.okC = true ∧ x.cells.length = n ∧ off + n ≤ cs.length then _ else _) = _
  rw [if_pos ⟨h1, h2, h3⟩]
theorem st_all (id n : Nat) (ds : List DV) (T : TypeId) (cs : List DV) (h2 : ds.length = n) (h3 : cs.length = n) : stR id 0 n (.agg ds) (some (.row T cs)) = some (.any, .wr id (.row T ds)) := by
  rw [st_r id 0 n (.agg ds) T cs rfl h2 (by omega)]
  have e : cs.take 0 ++ (DV.agg ds).cells ++ cs.drop (0 + n) = ds := by
    rw [Nat.zero_add, List.drop_eq_nil_of_le (by omega)]
    simp [DV.cells]
  rw [e]
end Go.DD

/- The evaluator, read with symbols: calls that are walked in place; rounds of a loop over a function; regions that draw their order. -/
namespace Go.DD
open Go
noncomputable def callN (tb : Nat → Option FE) (n : Nat) (rel : Nat → List DV → Option DV) : Nat → CallT
  | 0 => callG rel
  | k + 1 => fun tg ds hp nx => match tg with
    | .fn f => match rel f ds with
      | some d => some (d, hp, nx)
      | none => stepC tb n (callN tb n rel k) (.fn f) ds hp nx
    | .yl id => stepC tb n (callN tb n rel k) (.yl id) ds hp nx
theorem Bd1 {P : Program} (hm : P.follows .mixedOrders = true) {tb : Nat → Option FE} {n' n : Nat} (htb : TbOK P n' tb) {rel : Nat → List DV → Option DV} (h : ∀ f ds d, rel f ds = some d → Known P f ds d) : ∀ k, Ac7 P (callN tb n rel k)
  | 0 => Bd0 h
  | k + 1 => fun tg ds hp nx d hp' nx' hc hf => by
    have ih := As4 hm (n := n) htb (Bd1 (n := n) hm htb h k)
    cases tg with
    | yl id => exact ih (.yl id) ds hp nx d hp' nx' hc hf
    | fn f =>
      have hc' : (match rel f ds with
        | some d => some (d, hp, nx)
        | none => stepC tb n (callN tb n rel k) (.fn f) ds hp nx) = some (d, hp', nx') := hc
      cases hr : rel f ds with
      | none => rw [hr] at hc'; exact ih (.fn f) ds hp nx d hp' nx' hc' hf
      | some d0 =>
        rw [hr] at hc'
        have hc2 : callG rel (.fn f) ds hp nx = some (d, hp', nx') := by
          show (match rel f ds with
            | some d => some (d, hp, nx)
            | none => none) = _
          rw [hr]; exact hc'
        exact Bd0 h _ _ _ _ _ _ _ hc2 hf
section
variable {tb : Nat → Option FE} {n : Nat} {rel : Nat → List DV → Option DV} {k f nt : Nat} {c : CE} {ds : List DV} {hp : Tr DObj} {nx : Nat} {K : DV → Tr DObj → Nat → Prop}
theorem Bo4 {d : DV} (h : rel f ds = some d) (hK : K d hp nx) : KW (callN tb n rel (k + 1)) (.fn f) ds hp nx K :=
  ⟨d, hp, nx, show (match rel f ds with
    | some d => some (d, hp, nx)
    | none => stepC tb n (callN tb n rel k) (.fn f) ds hp nx) = _ by rw [h], hK⟩
theorem kn_fn {res : List (Nat × Option (Option Nat))} (hr : rel f ds = none) (hf : tb f = some ⟨c, res, nt⟩) (hn : ds.length ≤ nt)
    (h : ∀ es, es.hp = hp → es.nx = nx → Ent es ds → EW c (callN tb n rel k) es fun e es => (e = .normal ∨ e = .ret) ∧ ∃ d, finE res es = some (d, es.hp, es.nx) ∧ K d es.hp es.nx) : KW (callN tb n rel (k + 1)) (.fn f) ds hp nx K := by
  obtain ⟨e, es, h1, h2, d, h3, h4⟩ := h ⟨argT ds, hp, nx⟩ rfl rfl (A09 ds hp nx)
  refine ⟨d, es.hp, es.nx, ?_, h4⟩
  show (match rel f ds with
    | some d => some (d, hp, nx)
    | none => match tb f with
      | some fe => if ds.length ≤ fe.nt then match fe.run (callN tb n rel k) ⟨argT ds, hp, nx⟩ with
          | some (.normal, es) => finE fe.res es
          | some (.ret, es) => finE fe.res es
          | _ => none
        else none
      | none => none) = _
  rw [hr, hf]
  simp only
  rw [if_pos hn, h1]
  rcases h2 with rfl | rfl
  · exact h3
  · exact h3
theorem fe0 (es : ES) : finE [] es = some (.tup [], es.hp, es.nx) := by
  unfold finE
  simp only [List.mapM_nil, Option.pure_def, resVE]
theorem fe1 (es : ES) (t : Nat) : finE [(t, none)] es = some (liveE es.hp (rawE es (.t (pth t))), es.hp, es.nx) := by
  have e : resE es (t, none) = some (liveE es.hp (rawE es (.t (pth t)))) := rfl
  unfold finE
  simp only [List.mapM_cons, List.mapM_nil, e, Option.pure_def, Option.bind_eq_bind, Option.bind_some, resVE]
theorem fe2 (es : ES) (t u : Nat) : finE [(t, none), (u, none)] es = some (.tup [liveE es.hp (rawE es (.t (pth t))), liveE es.hp (rawE es (.t (pth u)))], es.hp, es.nx) := by
  have e : ∀ t, resE es (t, none) = some (liveE es.hp (rawE es (.t (pth t)))) := fun _ => rfl
  unfold finE
  simp only [List.mapM_cons, List.mapM_nil, e, Option.pure_def, Option.bind_eq_bind, Option.bind_some, resVE]
theorem kn_0 (hr : rel f ds = none) (hf : tb f = some ⟨c, [], nt⟩) (hn : ds.length ≤ nt)
    (h : ∀ es, es.hp = hp → es.nx = nx → Ent es ds → EW c (callN tb n rel k) es fun e es => (e = .normal ∨ e = .ret) ∧ K (.tup []) es.hp es.nx) : KW (callN tb n rel (k + 1)) (.fn f) ds hp nx K :=
  kn_fn hr hf hn fun es h1 h2 h3 => (h es h1 h2 h3).mono fun _ es ⟨h4, h5⟩ => ⟨h4, _, fe0 es, h5⟩
theorem kn_1 {t : Nat} (hr : rel f ds = none) (hf : tb f = some ⟨c, [(t, none)], nt⟩) (hn : ds.length ≤ nt)
    (h : ∀ es, es.hp = hp → es.nx = nx → Ent es ds → EW c (callN tb n rel k) es fun e es => (e = .normal ∨ e = .ret) ∧ K (liveE es.hp (rawE es (.t (pth t)))) es.hp es.nx) : KW (callN tb n rel (k + 1)) (.fn f) ds hp nx K :=
  kn_fn hr hf hn fun es h1 h2 h3 => (h es h1 h2 h3).mono fun _ es ⟨h4, h5⟩ => ⟨h4, _, fe1 es t, h5⟩
theorem kn_2 {t u : Nat} (hr : rel f ds = none) (hf : tb f = some ⟨c, [(t, none), (u, none)], nt⟩) (hn : ds.length ≤ nt)
    (h : ∀ es, es.hp = hp → es.nx = nx → Ent es ds → EW c (callN tb n rel k) es fun e es => (e = .normal ∨ e = .ret) ∧ K (.tup [liveE es.hp (rawE es (.t (pth t))), liveE es.hp (rawE es (.t (pth u)))]) es.hp es.nx) : KW (callN tb n rel (k + 1)) (.fn f) ds hp nx K :=
  kn_fn hr hf hn fun es h1 h2 h3 => (h es h1 h2 h3).mono fun _ es ⟨h4, h5⟩ => ⟨h4, _, fe2 es t u, h5⟩
theorem kn_yl {id : Nat} {lp : DLoop} {sl : Tr DV} {es0 : ES} (hl : hp.get id = some (.loop lp)) (hs : lp.st = .ready) (hsl : lp.sl = .t sl) (hds : ds.length = lp.ps.length) (hps : lp.ps.all (fun t => Nat.blt t lp.nt) = true) (h0 : es0 = ⟨zipT lp.ps ds sl, hp, nx⟩)
    (h : EW (evalE n lp.nt true lp.asg) (callN tb n rel k) es0 fun e es1 => e = .normal ∧ ∃ lp1, es1.hp.get id = some (.loop lp1) ∧ lp1.st = .ready ∧
      EW (evalE n lp.nt true lp.body) (callN tb n rel k) ⟨es1.sl, es1.hp.set id (some (.loop { lp1 with st := .busy })), es1.nx⟩ fun e es2 => ∃ lp2, es2.hp.get id = some (.loop lp2) ∧
        match e with
        | .normal => K (.v (.bool true)) (es2.hp.set id (some (.loop { lp2 with st := .ready, pend := none }))) es2.nx
        | .ret => K (.v (.bool false)) (es2.hp.set id (some (.loop { lp2 with st := .done, pend := some .ret }))) es2.nx
        | .exit i => K (.v (.bool false)) (es2.hp.set id (some (.loop { lp2 with st := .done, pend := some (.exit i) }))) es2.nx
        | _ => False) : KW (callN tb n rel (k + 1)) (.yl id) ds hp nx K := by
  subst h0
  obtain ⟨e, es1, h1, rfl, lp1, h2, h3, e2, es2, h4, lp2, h5, h6⟩ := h
  have key : ∀ r, (match evalE n lp.nt true lp.asg (callN tb n rel k) ⟨zipT lp.ps ds sl, hp, nx⟩ with
            | some (.normal, es1) => match es1.hp.get id with
              | some (.loop lp1) => match lp1.st with
                | .ready => match evalE n lp.nt true lp.body (callN tb n rel k) { es1 with hp := es1.hp.set id (some (.loop { lp1 with st := .busy })) } with
                  | some (e, es2) => match es2.hp.get id with
                    | some (.loop lp2) => match e with
                      | .normal => some (.v (.bool true), es2.hp.set id (some (.loop { lp2 with st := .ready, pend := none })), es2.nx)
                      | .ret => some (.v (.bool false), es2.hp.set id (some (.loop { lp2 with st := .done, pend := some .ret })), es2.nx)
                      | .exit i => some (.v (.bool false), es2.hp.set id (some (.loop { lp2 with st := .done, pend := some (.exit i) })), es2.nx)
                      | _ => none
                    | _ => none
                  | none => none
                | _ => none
              | _ => none
            | _ => none) = r → callN tb n rel (k + 1) (.yl id) ds hp nx = r := by
    intro r hr
    show (match hp.get id with
      | some (.loop lp) => match lp.st, lp.sl with
        | .ready, .t sl => if ds.length = lp.ps.length ∧ lp.ps.all (fun t => Nat.blt t lp.nt) = true then
            match evalE n lp.nt true lp.asg (callN tb n rel k) ⟨zipT lp.ps ds sl, hp, nx⟩ with
            | some (.normal, es1) => match es1.hp.get id with
              | some (.loop lp1) => match lp1.st with
                | .ready => match evalE n lp.nt true lp.body (callN tb n rel k) { es1 with hp := es1.hp.set id (some (.loop { lp1 with st := .busy })) } with
                  | some (e, es2) => match es2.hp.get id with
                    | some (.loop lp2) => match e with
                      | .normal => some (.v (.bool true), es2.hp.set id (some (.loop { lp2 with st := .ready, pend := none })), es2.nx)
                      | .ret => some (.v (.bool false), es2.hp.set id (some (.loop { lp2 with st := .done, pend := some .ret })), es2.nx)
                      | .exit i => some (.v (.bool false), es2.hp.set id (some (.loop { lp2 with st := .done, pend := some (.exit i) })), es2.nx)
                      | _ => none
                    | _ => none
                  | none => none
                | _ => none
              | _ => none
            | _ => none
          else none
        | _, _ => none
      | _ => none) = r
    rw [hl]
    simp only [hs, hsl]
    rw [if_pos ⟨hds, hps⟩]
    exact hr
  cases e2 with
  | normal => exact ⟨_, _, _, key _ (by rw [h1]; simp only [h2, h3]; rw [h4]; simp only [h5]), h6⟩
  | ret => exact ⟨_, _, _, key _ (by rw [h1]; simp only [h2, h3]; rw [h4]; simp only [h5]), h6⟩
  | exit i => exact ⟨_, _, _, key _ (by rw [h1]; simp only [h2, h3]; rw [h4]; simp only [h5]), h6⟩
  | _ => exact h6.elim
end
theorem Cj9 {nt : Nat} {g : EO} {ps : List Nat} {a b : DC} {call : CallT} {es : ES} {Q : Exit → ES → Prop} {f : Nat} {cs : List DV} (hg : evE es g = .fn (.func f) (.tup [] :: cs))
    (h : KW call (.fn f) (.yl es.nx :: cs) (es.hp.set es.nx (some (.loop ⟨nt, .t es.sl, ps, a, b, .ready, none⟩))) (es.nx + 1) fun _ hp nx => ∃ lp, hp.get es.nx = some (.loop lp) ∧ lp.st ≠ .busy ∧
      ((lp.pend = none ∧ Q .normal ⟨es.sl, hp.set es.nx none, nx⟩) ∨ (lp.pend = some .ret ∧ Q .ret ⟨es.sl, hp.set es.nx none, nx⟩) ∨ ∃ i, lp.pend = some (.exit i) ∧ Q (.exit i) ⟨es.sl, hp.set es.nx none, nx⟩)) : EW (cR nt false g ps a b) call es Q := by
  obtain ⟨d, hp', nx', h1, lp, h2, h3, h4⟩ := h
  have key : ∀ r, (match lp.pend with
          | none => some (Exit.normal, (⟨es.sl, hp'.set es.nx none, nx'⟩ : ES))
          | some .ret => some (.ret, ⟨es.sl, hp'.set es.nx none, nx'⟩)
          | some (.exit i) => some (.exit i, ⟨es.sl, hp'.set es.nx none, nx'⟩)
          | _ => none) = r → cR nt false g ps a b call es = r := by
    intro r hr
    unfold cR
    rw [if_neg (by simp), hg]
    simp only [DV.asFn]
    rw [h1]
    simp only [h2]
    cases hst : lp.st with
    | busy => exact absurd hst h3
    | _ => exact hr
  rcases h4 with ⟨h4, h5⟩ | ⟨h4, h5⟩ | ⟨i, h4, h5⟩
  · exact ⟨_, _, key _ (by rw [h4]), h5⟩
  · exact ⟨_, _, key _ (by rw [h4]), h5⟩
  · exact ⟨_, _, key _ (by rw [h4]), h5⟩
end Go.DD

/- The evaluator, read with symbols: regions that draw their order, with guards, calls and new objects; rows of bytes. -/
namespace Go.DD
open Go
section
variable {call : CallT} {n0 m i : Nat} {es : ES} {lo an : List Nat} {ws : List Look} {pp : List Past} {Q : DSt → Prop} {ps : List Pa} {dst : Option Pa}
theorem tw_g {p : Pa} {b : Bool} {s : DStp} : TW (dG p b dst s) call n0 m ⟨es, lo, ws, pp⟩ Q ↔ GW (rawE es (.t p)) b (TW s call n0 m ⟨es, lo, ws, pp⟩ Q) (Q ⟨es.putE dst (.v undef), lo, ws, pp⟩) := by
  have key : ∀ c, wantE es p b = some c → dG p b dst s call n0 m ⟨es, lo, ws, pp⟩ = Bool.rec (motive := fun _ => Option DSt) (some ⟨es.putE dst (.v undef), lo, ws, pp⟩) (s call n0 m ⟨es, lo, ws, pp⟩) c := by
    intro c hc
    unfold dG
    show Option.rec (motive := fun _ => Option DSt) none _ (wantE es p b) = _
    rw [hc]; rfl
  constructor
  · rintro ⟨δ', h1, h2⟩
    have h0 : ∃ c, wantE es p b = some c := by
      unfold dG at h1
      obtain ⟨c, h3, _⟩ := optR h1
      exact ⟨c, h3⟩
    obtain ⟨c, hc⟩ := h0
    rw [key c hc] at h1
    rcases Bo0 hc with ⟨t, h3, rfl⟩ | ⟨vs, h3, rfl⟩
    · refine .inl ⟨t, h3, fun e => ?_, fun e => ?_⟩
      · subst e
        simp only [beq_self_eq_true] at h1
        exact ⟨δ', h1, h2⟩
      · have : (t == b) = false := by simpa using e
        rw [this] at h1
        cases h1
        exact h2
    · cases h1
      exact .inr ⟨vs, h3, h2⟩
  · rintro (⟨c, h1, h2, h3⟩ | ⟨vs, h1, h2⟩)
    · have hw : wantE es p b = some (c == b) := by unfold wantE; rw [h1]; rfl
      by_cases hc : c = b
      · obtain ⟨δ', h4, h5⟩ := h2 hc
        refine ⟨δ', ?_, h5⟩
        rw [key _ hw]
        subst hc
        simp only [beq_self_eq_true]
        exact h4
      · have : (c == b) = false := by simpa using hc
        exact ⟨_, by rw [key _ hw, this], h3 hc⟩
    · have hw : wantE es p b = some false := by unfold wantE; rw [h1]; rfl
      exact ⟨_, by rw [key _ hw], h2⟩
theorem Cb4 {s : Stp} (hid : (lo.filter fun j => !an.contains j) = []) : TW (dMain i an s) call n0 m ⟨es, lo, ws, pp⟩ Q ↔ SW s call es fun es' => es.nx ≤ es'.nx ∧ Q ⟨es', [], ws, ⟨i, an, es.hp, es'.hp⟩ :: pp⟩ := by
  have key : dMain i an s call n0 m ⟨es, lo, ws, pp⟩ = Option.rec (motive := fun _ => Option DSt) none (fun es' => iteB (Nat.ble es.nx es'.nx) (some ⟨es', [], ws, ⟨i, an, es.hp, es'.hp⟩ :: pp⟩) none) (s call es) := by
    unfold dMain
    show Aq8 (lo.filter fun j => !an.contains j) _ = _
    rw [Ao6, hid]
    rfl
  constructor
  · rintro ⟨δ', h1, h2⟩
    rw [key] at h1
    obtain ⟨es', h3, h4⟩ := optR h1
    obtain ⟨h5, h6⟩ := Ab8 h4
    cases h6
    exact ⟨es', h3, Nat.le_of_ble_eq_true h5, h2⟩
  · rintro ⟨es', h1, h2, h3⟩
    refine ⟨_, ?_, h3⟩
    rw [key, h1]
    show iteB (Nat.ble es.nx es'.nx) _ _ = _
    rw [Aa8, if_pos (Nat.ble_eq_true_of_le h2)]
def LW (x : Option (DV × Upd)) (K : DV → DObj → Prop) : Prop := ∃ d o, x = some (d, .lay o) ∧ K d o
@[congr] theorem lw_congr {x x' : Option (DV × Upd)} {K : DV → DObj → Prop} (h : x = x') : LW x K = LW x' K := by rw [h]
noncomputable def ES.layAt (es : ES) (id : Nat) (o : DObj) : ES := ⟨es.sl, setN es.hp id (some o), es.nx⟩
theorem A79 (es : ES) (id : Nat) (o : DObj) (p : Pa) : rawE (es.layAt id o) (.t p) = rawE es (.t p) := nr rfl
theorem Bo5 (es : ES) (id : Nat) (o : DObj) : (es.layAt id o).hp = setN es.hp id (some o) := nr rfl
theorem Bo6 (es : ES) (id : Nat) (o : DObj) : (es.layAt id o).nx = es.nx := nr rfl
theorem Ck0 {wide c : Bool} {x : XU} : TW (dLay i an wide c dst x ps) call n0 m ⟨es, lo, ws, pp⟩ Q ↔ LW (x es (n0 + i)) fun d o => Q ⟨(es.layAt (n0 + i) o).putE dst d, i :: lo, lookE i an wide c (refsL es ps) n0 lo ws, pp⟩ := by
  have key : dLay i an wide c dst x ps call n0 m ⟨es, lo, ws, pp⟩ = Option.rec (motive := fun _ => Option DSt) none (fun p => Upd.casesOn (motive := fun _ => Option DSt) p.2 none
    (fun o => some ⟨(ES.mk es.sl (setN es.hp (n0 + i) (some o)) es.nx).putE dst p.1, i :: lo, lookE i an wide c (refsL es ps) n0 lo ws, pp⟩) (fun _ _ => none) (fun _ _ => none)) (x es (n0 + i)) := by
    obtain ⟨sl, hp, nx⟩ := es
    unfold dLay DSt.cs ES.cs
    dsimp only
    rw [Ab2]
  constructor
  · rintro ⟨δ', h1, h2⟩
    rw [key] at h1
    obtain ⟨⟨d, u⟩, h3, h4⟩ := optR h1
    cases u with
    | lay o => cases h4; exact ⟨d, o, h3, h2⟩
    | _ => cases h4
  · rintro ⟨d, o, h1, h2⟩
    exact ⟨_, by rw [key, h1]; rfl, h2⟩
theorem gw_tt {A B : Prop} : GW (.v (.bool true)) true A B ↔ A := by rw [gw_b]; simp
theorem gw_ff {A B : Prop} : GW (.v (.bool false)) false A B ↔ A := by rw [gw_b]; simp
theorem gw_tf {A B : Prop} : GW (.v (.bool true)) false A B ↔ B := by rw [gw_b]; simp
theorem gw_ft {A B : Prop} : GW (.v (.bool false)) true A B ↔ B := by rw [gw_b]; simp
theorem cw_t {A B : Prop} : CW (.v (.bool true)) A B ↔ A := by rw [cw_b]; simp
theorem cw_f {A B : Prop} : CW (.v (.bool false)) A B ↔ B := by rw [cw_b]; simp
def Aa2 (d : DV) (f : Nat → Bool) : Prop := ∀ id ∈ d.refs, f id = true
theorem Bo7 (f : Nat → Bool) : (allL (refsL es []) f = true) ↔ True := ⟨fun _ => trivial, fun _ => rfl⟩
theorem Bd2 {α : Type} (l : List α) (f : α → Bool) : allL l f = true ↔ ∀ x ∈ l, f x = true := by rw [Au9]; simp
theorem Aq2 (es : ES) (p : Pa) (ps : List Pa) : refsL es (p :: ps) = (rawE es (.t p)).refs ++ refsL es ps := by
  show appL (refsE (rawE es (.t p))) (refsL es ps) = _
  rw [Af6, Aj8]
theorem Bd3 (p : Pa) (f : Nat → Bool) : (allL (refsL es (p :: ps)) f = true) ↔ Aa2 (rawE es (.t p)) f ∧ allL (refsL es ps) f = true := by
  rw [Aq2, Bd2, Bd2]
  simp only [List.mem_append, Aa2]
  exact ⟨fun h => ⟨fun x hx => h x (.inl hx), fun x hx => h x (.inr hx)⟩, fun h x hx => hx.elim (h.1 x) (h.2 x)⟩
theorem Bd4 {d : DV} {f : Nat → Bool} (h : d.refs = []) : Aa2 d f ↔ True := ⟨fun _ => trivial, fun _ id hid => by rw [h] at hid; cases hid⟩
theorem ro_v (v : Value) (f : Nat → Bool) : Aa2 (.v v) f ↔ True := Bd4 rfl
theorem ro_sl (cs : List DV) (n : Nat) (f : Nat → Bool) : Aa2 (.sl cs n) f ↔ True := Bd4 rfl
theorem ro_ia (cs : List DV) (f : Nat → Bool) : Aa2 (.ia cs) f ↔ True := Bd4 rfl
theorem ro_ms (id off n e : Nat) (f : Nat → Bool) : Aa2 (.ms id off n e) f ↔ f id = true := by simp [Aa2, DV.refs]
theorem ro_pt (id off : Nat) (f : Nat → Bool) : Aa2 (.pt id off) f ↔ f id = true := by simp [Aa2, DV.refs]
theorem ro_mp (id : Nat) (f : Nat → Bool) : Aa2 (.mp id) f ↔ f id = true := by simp [Aa2, DV.refs]
theorem Ac9 (hp : Tr DObj) (id : Nat) : (okRef n0 m an hp id = true) ↔ (hp.get id).isSome = true ∧ (id < n0 ∨ n0 + m ≤ id ∨ an.contains (id - n0) = true) := by
  unfold okRef
  rw [Aa8, Af0, gN_eq, Aa8, Aa8]
  by_cases h1 : (hp.get id).isSome = true
  · by_cases h2 : id < n0
    · simp [h1, h2, Nat.blt_eq]
    · by_cases h3 : n0 + m ≤ id
      · simp [h1, h3, Nat.ble_eq]
      · simp [h1, h2, h3, Nat.blt_eq, Nat.ble_eq]
  · simp [h1]
theorem Bd5 (ws : List Look) : Af8 n0 m ws [] = true := by
  unfold Af8
  simp
theorem look_nil (wide c : Bool) : lookE i an wide c [] n0 lo ws = ws := by cases wide <;> rfl
theorem xk_k {x : XU} {X : XP} (h : ∀ es nid, x es nid = keepU (X es)) (nid : Nat) : xKeep x nid es = X es := by
  unfold xKeep
  rw [h]
  unfold keepU
  cases X es <;> rfl
end
theorem B38 (k : IntKind) (x : Operand) (nid : Nat) (es : ES) : xKeep (xAny (.cvi k x)) nid es = cviE k (es.ds.ev x) := xk_k (X := fun es => cviE k (es.ds.ev x)) (k_cvi k x) nid
theorem xk_mm (b : Bool) (x y : Operand) (nid : Nat) (es : ES) : xKeep (xAny (.mm b x y)) nid es = mmD b (es.ds.ev x) (es.ds.ev y) := xk_k (X := fun es => mmD b (es.ds.ev x) (es.ds.ev y)) (k_mm b x y) nid
def ub (n : Nat) : DV := .v (.int .u8 (n : Int))
def nilS : DV := .v (.slice none 0 0)
inductive Src (hp : Tr DObj) : DV → List Nat → Prop where
  | nil : Src hp nilS []
  | sl (l : List Nat) : Src hp (.sl (l.map ub) l.length) l
  | ms (id off : Nat) (fl l : List Nat) (h : hp.get id = some (.row 5 (fl.map ub))) (hl : off + l.length ≤ fl.length) (hc : (fl.drop off).take l.length = l) : Src hp (.ms id off l.length 1) l
inductive Own (hp : Tr DObj) : DV → List Nat → Prop where
  | nil : Own hp nilS []
  | ms (id : Nat) (l : List Nat) (h : hp.get id = some (.row 5 (l.map ub))) : Own hp (.ms id 0 l.length 1) l
theorem Own.src {hp : Tr DObj} {d : DV} {l : List Nat} (h : Own hp d l) : Src hp d l := by
  cases h with
  | nil => exact .nil
  | ms id l h => exact .ms id 0 l l h (by simp) (by rw [List.drop_zero, List.take_length])
def adr : DV → Nat → DV
  | .sl cs _, i => .ia (cs.drop (i * 1))
  | .ms id off _ _, i => .pt id (off + i * 1)
  | _, _ => .any
theorem ms_cs {fl l : List Nat} {off : Nat} (hl : off + l.length ≤ fl.length) (hc : (fl.drop off).take l.length = l) : off + l.length ≤ (fl.map ub).length ∧ ((fl.map ub).drop off).take l.length = l.map ub := ⟨by simpa using hl, by rw [← List.map_drop, ← List.map_take, hc]⟩
theorem Src.len {hp : Tr DObj} {d : DV} {l : List Nat} (h : Src hp d l) : lenD hp d = some (.v (.int .i64 (l.length : Int))) := by
  cases h with
  | nil => rfl
  | sl => rfl
  | ms id off fl l h hl0 hc0 =>
    obtain ⟨hl, hc⟩ := ms_cs hl0 hc0
    generalize hfl : fl.map ub = cs at *
    show (if alv hp id = true then _ else none) = _
    rw [if_pos (by unfold alv; rw [h]; rfl)]
theorem Src.live {hp : Tr DObj} {d : DV} {l : List Nat} (h : Src hp d l) : liveE hp d = d := by
  cases h with
  | nil => exact Ab1 rfl
  | sl => exact Ab1 rfl
  | ms id off fl l h hl0 hc0 =>
    obtain ⟨hl, hc⟩ := ms_cs hl0 hc0
    exact Ag2 h
theorem Src.ia {hp : Tr DObj} {d : DV} {l : List Nat} (h : Src hp d l) {i : Nat} (hi : i < l.length) : iaD hp 1 d (.v (.int .i64 (i : Int))) = some (adr d i) := by
  cases h with
  | nil => simp at hi
  | sl => exact ia_s hi
  | ms id off fl l h hl0 hc0 =>
    obtain ⟨hl, hc⟩ := ms_cs hl0 hc0
    generalize hfl : fl.map ub = cs at *
    show (if alv hp id = true ∧ 0 ≤ (i : Int) ∧ (i : Int) < (l.length : Int) then some (DV.pt id (off + (i : Int).toNat * 1)) else none) = _
    rw [if_pos ⟨by unfold alv; rw [h]; rfl, by omega, by omega⟩]; rfl
theorem getD_map {l : List Nat} {i : Nat} (hi : i < l.length) : (l.map ub)[i]? = some (ub (l.getD i 0)) := by
  rw [List.getElem?_map, List.getD, List.getElem?_eq_getElem hi]; rfl
theorem Ap0 {cs : List DV} {i : Nat} {d : DV} (h : cs[i]? = some d) : partD none (cs.drop i) = some d := by
  obtain ⟨hi, rfl⟩ := List.getElem?_eq_some_iff.1 h
  rw [List.drop_eq_getElem_cons hi]; rfl
theorem Src.ld {hp : Tr DObj} {d : DV} {l : List Nat} (h : Src hp d l) {i : Nat} (hi : i < l.length) : ldD hp none (adr d i) = some (ub (l.getD i 0)) := by
  cases h with
  | nil => simp at hi
  | sl =>
    show partD none ((l.map ub).drop (i * 1)) = _
    rw [Nat.mul_one]
    exact Ap0 (getD_map hi)
  | ms id off fl l h hl0 hc0 =>
    obtain ⟨hl, hc⟩ := ms_cs hl0 hc0
    generalize hfl : fl.map ub = cs at *
    have e : ldD hp none (adr (.ms id off l.length 1) i) = partD none (cs.drop (off + i)) := by
      show ldD hp none (.pt id (off + i * 1)) = _
      rw [ld_p h, Nat.mul_one]
    rw [e]
    refine Ap0 ?_
    have := getD_map hi
    rw [← hc, List.getElem?_take_of_lt hi, List.getElem?_drop] at this
    exact this
def Old (n : Nat) (d : DV) : Prop := ∀ id ∈ d.refs, id < n
theorem Src.keep {hp hp' : Tr DObj} {d : DV} {l : List Nat} (h : Src hp d l) (hk : ∀ id ∈ d.refs, hp'.get id = hp.get id) : Src hp' d l := by
  cases h with
  | nil => exact .nil
  | sl => exact .sl _
  | ms id off fl l h hl hc => exact .ms id off fl l ((hk id (by simp [DV.refs])).trans h) hl hc
theorem Own.keep {hp hp' : Tr DObj} {d : DV} {l : List Nat} (h : Own hp d l) (hk : ∀ id ∈ d.refs, hp'.get id = hp.get id) : Own hp' d l := by
  cases h with
  | nil => exact .nil
  | ms id l h => exact .ms id l ((hk id (by simp [DV.refs])).trans h)
theorem Src.al {hp hp' : Tr DObj} {n n' : Nat} {d : DV} {l : List Nat} (h : Src hp d l) (ho : Old n d) (ha : Al hp n hp' n') : Src hp' d l := h.keep fun id hid => ha.same id (ho id hid)
theorem Src.alive {hp : Tr DObj} {d : DV} {l : List Nat} (h : Src hp d l) : ∀ id ∈ d.refs, (hp.get id).isSome = true := by
  cases h with
  | nil => intro id h; cases h
  | sl => intro id h; cases h
  | ms id off fl l h hl0 hc0 =>
    obtain ⟨hl, hc⟩ := ms_cs hl0 hc0
    generalize hfl : fl.map ub = cs at *
    intro j hj
    have : j = id := by simpa [DV.refs] using hj
    rw [this, h]; rfl
theorem Src.ro {hp : Tr DObj} {d : DV} {l : List Nat} {n0 m : Nat} {an : List Nat} (h : Src hp d l) (ho : Old n0 d) : Aa2 d (fun id => okRef n0 m an hp id) := fun id hid => (Ac9 hp id).2 ⟨h.alive id hid, .inl (ho id hid)⟩
theorem Bd6 (d : DV) (i : Nat) : ∀ id ∈ (adr d i).refs, id ∈ d.refs := by
  cases d with
  | ms id off n e => intro j hj; exact hj
  | _ => intro j hj; cases hj
theorem Src.roa {hp : Tr DObj} {d : DV} {l : List Nat} {n0 m i : Nat} {an : List Nat} (h : Src hp d l) (ho : Old n0 d) : Aa2 (adr d i) (fun id => okRef n0 m an hp id) := fun id hid => (Ac9 hp id).2 ⟨h.alive id (Bd6 d i id hid), .inl (ho id (Bd6 d i id hid))⟩
theorem Ck1 {a b : Nat} (h : a + b < 9223372036854775808) : binD .add (.v (.int .i64 (a : Int))) (.v (.int .i64 (b : Int))) = some (.v (.int .i64 ((a + b : Nat) : Int))) := by
  rw [b_add, wrap_in (by omega)]; rfl
theorem Aa3 {a : Nat} (h : a < 9000000000000000000) : binD .add (.v (.int .i64 (a : Int))) (.v (.int .i64 1)) = some (.v (.int .i64 ((a + 1 : Nat) : Int))) := by
  rw [b_add, wrap_in (by omega)]; rfl
end Go.DD
