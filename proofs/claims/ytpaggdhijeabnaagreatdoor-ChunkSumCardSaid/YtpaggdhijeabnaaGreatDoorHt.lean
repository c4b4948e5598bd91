/- The evaluator's parts are the deep layer's. -/
import Derived.Test.YtpaggdhijeabnaaGreatDoorHs
namespace Go.DD

theorem gP_pthF {α : Type} : ∀ (f k : Nat) (t : Tr α), k ≤ f → gP (pthF f k) t = t.get k
  | 0, k, t, h => by
    obtain rfl : k = 0 := by omega
    cases t <;> rfl
  | f + 1, 0, t, _ => by cases t <;> rfl
  | f + 1, k + 1, t, h => by
    have ih := fun (t : Tr α) => gP_pthF f (k / 2) t (by omega)
    simp only [pthF]
    by_cases hk : k % 2 = 0
    · rw [if_pos hk]
      cases t with
      | e => rfl
      | n l v r => simp only [Tr.get, if_pos hk, ← ih]; rfl
    · rw [if_neg hk]
      cases t with
      | e => rfl
      | n l v r => simp only [Tr.get, if_neg hk, ← ih]; rfl
theorem gP_pth {α : Type} (k : Nat) (t : Tr α) : gP (pth k) t = t.get k := gP_pthF k k t (Nat.le_refl _)

theorem sP_pthF {α : Type} : ∀ (f k j : Nat) (v : Option α) (t : Tr α), k ≤ f → (sP (pthF f k) v t).get j = if k = j then v else t.get j
  | 0, k, j, v, t, h => by
    obtain rfl : k = 0 := by omega
    cases t <;> cases j <;> simp [sP, pthF, Tr.get]
  | f + 1, 0, j, v, t, _ => by cases t <;> cases j <;> simp [sP, pthF, Tr.get]
  | f + 1, k + 1, j, v, t, h => by
    have ih := fun (t : Tr α) j => sP_pthF f (k / 2) j v t (by omega)
    simp only [pthF]
    by_cases hk : k % 2 = 0
    · rw [if_pos hk]
      cases t with
      | e =>
        show (Tr.n (sP (pthF f (k / 2)) v .e) none .e).get j = _
        cases j with
        | zero => simp [Tr.get]
        | succ j =>
          simp only [Tr.get]
          by_cases hj : j % 2 = 0
          · rw [if_pos hj, ih]
            by_cases he : k = j
            · subst he; simp
            · rw [if_neg (by omega), if_neg (by omega)]; rfl
          · rw [if_neg hj, if_neg (by omega)]
      | n l x r =>
        show (Tr.n (sP (pthF f (k / 2)) v l) x r).get j = _
        cases j with
        | zero => simp [Tr.get]
        | succ j =>
          simp only [Tr.get]
          by_cases hj : j % 2 = 0
          · rw [if_pos hj, if_pos hj, ih]
            by_cases he : k = j
            · subst he; simp
            · rw [if_neg (by omega), if_neg (by omega)]
          · rw [if_neg hj, if_neg hj, if_neg (by omega)]
    · rw [if_neg hk]
      cases t with
      | e =>
        show (Tr.n .e none (sP (pthF f (k / 2)) v .e)).get j = _
        cases j with
        | zero => simp [Tr.get]
        | succ j =>
          simp only [Tr.get]
          by_cases hj : j % 2 = 0
          · rw [if_pos hj, if_neg (by omega)]
          · rw [if_neg hj, ih]
            by_cases he : k = j
            · subst he; simp
            · rw [if_neg (by omega), if_neg (by omega)]; rfl
      | n l x r =>
        show (Tr.n l x (sP (pthF f (k / 2)) v r)).get j = _
        cases j with
        | zero => simp [Tr.get]
        | succ j =>
          simp only [Tr.get]
          by_cases hj : j % 2 = 0
          · rw [if_pos hj, if_pos hj, if_neg (by omega)]
          · rw [if_neg hj, if_neg hj, ih]
            by_cases he : k = j
            · subst he; simp
            · rw [if_neg (by omega), if_neg (by omega)]
theorem sP_pth {α : Type} (k j : Nat) (v : Option α) (t : Tr α) : (sP (pth k) v t).get j = if k = j then v else t.get j := sP_pthF k k j v t (Nat.le_refl _)

theorem beq_mod (j : Nat) : Nat.beq (Nat.mod j 2) 0 = decide (j % 2 = 0) := by
  show Nat.beq (j % 2) 0 = _
  cases h : Nat.beq (j % 2) 0 with
  | true => have := Nat.eq_of_beq_eq_true h; simp [this]
  | false => have := Nat.ne_of_beq_eq_false h; simp [this]
theorem gN_eq {α : Type} : ∀ (t : Tr α) (k : Nat), gN t k = t.get k
  | .e, k => rfl
  | .n l v r, 0 => rfl
  | .n l v r, k + 1 => by
    have e : gN (.n l v r) (k + 1) = Bool.rec (gN r (Nat.div k 2)) (gN l (Nat.div k 2)) (Nat.beq (Nat.mod k 2) 0) := rfl
    rw [e, beq_mod]
    simp only [Tr.get]
    have h1 : gN r (Nat.div k 2) = r.get (k / 2) := gN_eq r _
    have h2 : gN l (Nat.div k 2) = l.get (k / 2) := gN_eq l _
    by_cases hk : k % 2 = 0
    · simp only [hk, decide_true, if_true]; exact h2
    · simp only [hk, decide_false, if_false]; exact h1

theorem sN_get {α : Type} : ∀ (f k j : Nat) (v : Option α) (t : Tr α), k ≤ f → (sN f v t k).get j = if k = j then v else t.get j
  | 0, k, j, v, t, h => by
    obtain rfl : k = 0 := by omega
    cases t <;> cases j <;> simp [sN, Tr.get]
  | f + 1, 0, j, v, t, _ => by cases t <;> cases j <;> simp [sN, Tr.get]
  | f + 1, k + 1, j, v, t, h => by
    have ih := fun (t : Tr α) j => sN_get f (k / 2) j v t (by omega)
    have ih' : ∀ t j, (sN f v t (Nat.div k 2)).get j = if k / 2 = j then v else t.get j := ih
    by_cases hk : k % 2 = 0
    · have hb : Nat.beq (Nat.mod k 2) 0 = true := by rw [beq_mod]; simp [hk]
      cases t with
      | e =>
        have e : sN (f + 1) v .e (k + 1) = .n (sN f v .e (Nat.div k 2)) none .e := by
          have e0 : sN (f + 1) v .e (k + 1) = Bool.rec (motive := fun _ => Tr α) (.n .e none (sN f v .e (Nat.div k 2))) (.n (sN f v .e (Nat.div k 2)) none .e) (Nat.beq (Nat.mod k 2) 0) := rfl
          rw [e0, hb]
        rw [e]
        cases j with
        | zero => simp [Tr.get]
        | succ j =>
          simp only [Tr.get]
          by_cases hj : j % 2 = 0
          · rw [if_pos hj, ih']
            by_cases he : k = j
            · subst he; simp
            · rw [if_neg (by omega), if_neg (by omega)]; rfl
          · rw [if_neg hj, if_neg (by omega)]
      | n l x r =>
        have e : sN (f + 1) v (.n l x r) (k + 1) = .n (sN f v l (Nat.div k 2)) x r := by
          have e0 : sN (f + 1) v (.n l x r) (k + 1) = Bool.rec (motive := fun _ => Tr α) (.n l x (sN f v r (Nat.div k 2))) (.n (sN f v l (Nat.div k 2)) x r) (Nat.beq (Nat.mod k 2) 0) := rfl
          rw [e0, hb]
        rw [e]
        cases j with
        | zero => simp [Tr.get]
        | succ j =>
          simp only [Tr.get]
          by_cases hj : j % 2 = 0
          · rw [if_pos hj, if_pos hj, ih']
            by_cases he : k = j
            · subst he; simp
            · rw [if_neg (by omega), if_neg (by omega)]
          · rw [if_neg hj, if_neg hj, if_neg (by omega)]
    · have hb : Nat.beq (Nat.mod k 2) 0 = false := by rw [beq_mod]; simp [hk]
      cases t with
      | e =>
        have e : sN (f + 1) v .e (k + 1) = .n .e none (sN f v .e (Nat.div k 2)) := by
          have e0 : sN (f + 1) v .e (k + 1) = Bool.rec (motive := fun _ => Tr α) (.n .e none (sN f v .e (Nat.div k 2))) (.n (sN f v .e (Nat.div k 2)) none .e) (Nat.beq (Nat.mod k 2) 0) := rfl
          rw [e0, hb]
        rw [e]
        cases j with
        | zero => simp [Tr.get]
        | succ j =>
          simp only [Tr.get]
          by_cases hj : j % 2 = 0
          · rw [if_pos hj, if_neg (by omega)]
          · rw [if_neg hj, ih']
            by_cases he : k = j
            · subst he; simp
            · rw [if_neg (by omega), if_neg (by omega)]; rfl
      | n l x r =>
        have e : sN (f + 1) v (.n l x r) (k + 1) = .n l x (sN f v r (Nat.div k 2)) := by
          have e0 : sN (f + 1) v (.n l x r) (k + 1) = Bool.rec (motive := fun _ => Tr α) (.n l x (sN f v r (Nat.div k 2))) (.n (sN f v l (Nat.div k 2)) x r) (Nat.beq (Nat.mod k 2) 0) := rfl
          rw [e0, hb]
        rw [e]
        cases j with
        | zero => simp [Tr.get]
        | succ j =>
          simp only [Tr.get]
          by_cases hj : j % 2 = 0
          · rw [if_pos hj, if_pos hj, if_neg (by omega)]
          · rw [if_neg hj, if_neg hj, ih']
            by_cases he : k = j
            · subst he; simp
            · rw [if_neg (by omega), if_neg (by omega)]
theorem setN_get {α : Type} (t : Tr α) (k : Nat) (v : Option α) : (setN t k v).get = fun j => if j = k then v else t.get j := by
  funext j
  unfold setN
  rw [sN_get k k j v t (Nat.le_refl _)]
  by_cases h : k = j
  · rw [if_pos h, if_pos h.symm]
  · rw [if_neg h, if_neg (Ne.symm h)]
theorem setN_ho {t : Tr DObj} {k : Nat} {v : Option DObj} : (setN t k v).get = setH t.get k v := setN_get t k v
theorem Tr.set_ho {t : Tr DObj} {k : Nat} {v : Option DObj} : (t.set k v).get = setH t.get k v := by
  funext j
  rw [Tr.get_set]
  unfold setH
  by_cases h : k = j
  · rw [if_pos h, if_pos h.symm]
  · rw [if_neg h, if_neg (Ne.symm h)]

theorem refsE_eq (d : DV) : refsE d = d.refs := by cases d <;> simp [refsE, DV.refs]
theorem allL_eq {α : Type} (l : List α) (f : α → Bool) : allL l f = l.all f := by
  induction l with
  | nil => rfl
  | cons a l ih =>
    have e : allL (a :: l) f = Bool.rec false (allL l f) (f a) := rfl
    rw [e, ih, List.all_cons]
    cases f a <;> rfl
theorem someB_eq {α : Type} (x : Option α) : someB x = x.isSome := by cases x <;> rfl
theorem iteB_eq {α : Type} (b : Bool) (x y : α) : iteB b x y = if b = true then x else y := by cases b <;> rfl
theorem liveE_eq (es : ES) (d : DV) : liveE es.hp d = if es.ds.live d = true then d else .any := by
  unfold liveE
  rw [iteB_eq, allL_eq, refsE_eq]
  simp only [someB_eq, gN_eq]
  rfl
theorem rawE_eq (es : ES) (x : Operand) : rawE es (.of x) = es.ds.rv x := by
  cases x with
  | tmp t =>
    show (Option.rec .any (fun d => d) (gP (pth t) es.sl) : DV) = (es.sl.get t).getD .any
    rw [gP_pth]
    cases es.sl.get t <;> rfl
  | _ => rfl
theorem evE_eq (es : ES) (x : Operand) : evE es (.of x) = es.ds.ev x := by
  cases x with
  | tmp t =>
    have h := rawE_eq es (.tmp t)
    show liveE es.hp (rawE es (.of (.tmp t))) = _
    rw [h, liveE_eq]
    rfl
  | _ => rfl
theorem rawE_t (es : ES) (t : Nat) : rawE es (.t (pth t)) = es.ds.sv t := rawE_eq es (.tmp t)

theorem forceN_eq {α : Type} (n : Nat) (k : Nat → α) : forceN n k = k n := by cases n <;> rfl
theorem forceI_eq {α : Type} (n : Int) (k : Int → α) : forceI n k = k n := by
  cases n with
  | ofNat m => exact forceN_eq m fun m => k (.ofNat m)
  | negSucc m => exact forceN_eq m fun m => k (.negSucc m)
theorem forceL_eq {β α : Type} (l : List β) (k : List β → α) : forceL l k = k l := by
  induction l generalizing k with
  | nil => rfl
  | cons a l ih =>
    have e : forceL (a :: l) k = forceL l (fun t => k (a :: t)) := rfl
    rw [e, ih]
theorem dropL_eq {α : Type} : ∀ (n : Nat) (l : List α), dropL n l = l.drop n
  | 0, l => rfl
  | n + 1, [] => rfl
  | n + 1, a :: l => by
    have e : dropL (n + 1) (a :: l) = dropL n l := rfl
    rw [e, dropL_eq n l]; rfl
theorem takeL_eq {α : Type} : ∀ (n : Nat) (l : List α), takeL n l = l.take n
  | 0, l => rfl
  | n + 1, [] => rfl
  | n + 1, a :: l => by
    have e : takeL (n + 1) (a :: l) = a :: takeL n l := rfl
    rw [e, takeL_eq n l]; rfl
theorem appL_eq {α : Type} (a b : List α) : appL a b = a ++ b := by
  induction a with
  | nil => rfl
  | cons x a ih =>
    have e : appL (x :: a) b = x :: appL a b := rfl
    rw [e, ih]; rfl
theorem mapL_eq {α β : Type} (f : α → β) (l : List α) : mapL f l = l.map f := by
  induction l with
  | nil => rfl
  | cons x a ih =>
    have e : mapL f (x :: a) = f x :: mapL f a := rfl
    rw [e, ih]; rfl
theorem cellsE_eq (d : DV) : cellsE d = d.cells := by cases d <;> rfl
theorem okE_eq (d : DV) : okE d = d.okC := by cases d <;> rfl
theorem partE_eq (k : Option Nat) (cs : List DV) : partE k cs = partD k cs := by
  cases k with
  | none => cases cs <;> rfl
  | some n =>
    have e : partE (some n) cs = iteB (Nat.ble n cs.length) (some (.agg (takeL n cs))) none := rfl
    rw [e, iteB_eq, takeL_eq]
    simp [partD, Nat.ble_eq]

theorem cV_some {α : Type} {d : DV} {f : Value → Option α} {x : α} (h : cV d f none = some x) : ∃ v, d = .v v ∧ f v = some x := by
  cases d with
  | v y => exact ⟨y, rfl, h⟩
  | _ => cases h
theorem cVal_some {α : Type} {v : Value} {fb : Bool → Option α} {fi : IntKind → Int → Option α} {fs : ByteArray → Option α} {x : α} (h : cVal v fb fi fs none = some x) :
    (∃ b, v = .bool b ∧ fb b = some x) ∨ (∃ k n, v = .int k n ∧ fi k n = some x) ∨ ∃ s, v = .string s ∧ fs s = some x := by
  cases v with
  | bool b => exact .inl ⟨b, rfl, h⟩
  | int k n => exact .inr (.inl ⟨k, n, rfl, h⟩)
  | string s => exact .inr (.inr ⟨s, rfl, h⟩)
  | _ => cases h
theorem outV_eq (x : Option Value) : outV x = x.map .v := by
  cases x with
  | none => rfl
  | some v =>
    cases v with
    | bool b => cases b <;> rfl
    | int k n => exact forceI_eq n fun n => some (DV.v (.int k n))
    | _ => rfl
theorem ctor_eq (k k' : IntKind) : Nat.beq k.ctorIdx k'.ctorIdx = true ↔ k = k' := by cases k <;> cases k' <;> decide

/-- What is raw and plain is there. -/
theorem ev_v {s : DS} {x : Operand} {v : Value} (h : s.rv x = .v v) : s.ev x = .v v := by
  cases x with
  | tmp t =>
    have h' : s.sv t = .v v := h
    simp [DS.ev, h', DS.live, DV.refs]
  | _ => exact h
theorem ev_ia {s : DS} {x : Operand} {cs : List DV} (h : s.rv x = .ia cs) : s.ev x = .ia cs := by
  cases x with
  | tmp t =>
    have h' : s.sv t = .ia cs := h
    simp [DS.ev, h', DS.live, DV.refs]
  | _ => exact h
theorem ev_sl {s : DS} {x : Operand} {cs : List DV} {n : Nat} (h : s.rv x = .sl cs n) : s.ev x = .sl cs n := by
  cases x with
  | tmp t =>
    have h' : s.sv t = .sl cs n := h
    simp [DS.ev, h', DS.live, DV.refs]
  | _ => exact h
theorem ev_pt {s : DS} {x : Operand} {id off : Nat} (h : s.rv x = .pt id off) (ha : (s.ho id).isSome = true) : s.ev x = .pt id off := by
  cases x with
  | tmp t =>
    have h' : s.sv t = .pt id off := h
    simp [DS.ev, h', DS.live, DV.refs, ha]
  | _ => exact h
theorem ev_ms {s : DS} {x : Operand} {id off n es : Nat} (h : s.rv x = .ms id off n es) (ha : (s.ho id).isSome = true) : s.ev x = .ms id off n es := by
  cases x with
  | tmp t =>
    have h' : s.sv t = .ms id off n es := h
    simp [DS.ev, h', DS.live, DV.refs, ha]
  | _ => exact h

theorem cAdr_some {α : Type} {d : DV} {fi : List DV → Option α} {fp : Nat → Nat → Option α} {x : α} (h : cAdr d fi fp none = some x) : (∃ cs, d = .ia cs ∧ fi cs = some x) ∨ ∃ id off, d = .pt id off ∧ fp id off = some x := by
  cases d with
  | ia cs => exact .inl ⟨cs, rfl, h⟩
  | pt id off => exact .inr ⟨id, off, rfl, h⟩
  | _ => cases h
theorem cRow_some {α : Type} {hp : Tr DObj} {id : Nat} {f : TypeId → List DV → Option α} {x : α} (h : cRow hp id f none = some x) : ∃ T cs, hp.get id = some (.row T cs) ∧ f T cs = some x := by
  unfold cRow at h
  rw [gN_eq] at h
  cases ho : hp.get id with
  | none => rw [ho] at h; cases h
  | some o =>
    rw [ho] at h
    cases o with
    | row T cs => exact ⟨T, cs, rfl, h⟩
    | _ => cases h
theorem cSl_some {α : Type} {d : DV} {fv : Value → Option α} {fs : List DV → Nat → Option α} {fm : Nat → Nat → Nat → Nat → Option α} {x : α} (h : cSl d fv fs fm none = some x) :
    (∃ v, d = .v v ∧ fv v = some x) ∨ (∃ cs n, d = .sl cs n ∧ fs cs n = some x) ∨ ∃ id off n es, d = .ms id off n es ∧ fm id off n es = some x := by
  cases d with
  | v v => exact .inl ⟨v, rfl, h⟩
  | sl cs n => exact .inr (.inl ⟨cs, n, rfl, h⟩)
  | ms id off n es => exact .inr (.inr ⟨id, off, n, es, rfl, h⟩)
  | _ => cases h
theorem cI_some {α : Type} {d : DV} {f : Int → Option α} {x : α} (h : cI d f none = some x) : ∃ k n, d = .v (.int k n) ∧ f n = some x := by
  obtain ⟨v, rfl, h⟩ := cV_some h
  rcases cVal_some h with ⟨_, _, h⟩ | ⟨k, n, rfl, h⟩ | ⟨_, _, h⟩
  · cases h
  · exact ⟨k, n, rfl, h⟩
  · cases h
theorem cIx_some {α : Type} {j : Int} {n : Nat} {f : Nat → Option α} {x : α} (h : cIx j n f none = some x) : 0 ≤ j ∧ j < n ∧ f j.toNat = some x := by
  cases j with
  | ofNat m =>
    have e : cIx (.ofNat m) n f none = iteB (Nat.blt m n) (f m) none := rfl
    rw [e, iteB_eq] at h
    split at h
    · rename_i hb
      have : m < n := by simpa [Nat.blt_eq] using hb
      refine ⟨Int.natCast_nonneg m, ?_, h⟩
      show (m : Int) < n
      omega
    · cases h
  | negSucc m => cases h
theorem iteB_some {α : Type} {b : Bool} {y : Option α} {x : α} (h : iteB b y none = some x) : b = true ∧ y = some x := by
  cases b
  · cases h
  · exact ⟨rfl, h⟩
theorem cTup_some {α : Type} {d : DV} {f : List DV → Option α} {x : α} (h : cTup d f none = some x) : ∃ ds, d = .tup ds ∧ f ds = some x := by
  cases d with
  | tup ds => exact ⟨ds, rfl, h⟩
  | _ => cases h

/-- The operations that only compute. -/
theorem xopP_ok {o : DOp} {x : XP} (hx : xopP o = some x) {es : ES} {d : DV} (h : x es = some d) (nid : Nat) : execU nid es.ds o = some (d, .keep) := by
  cases o <;> simp only [xopP, Option.some.injEq] at hx <;> first | (cases hx; done) | skip
  case pick c a b =>
    subst hx
    obtain ⟨v, hv, h⟩ := cV_some h
    rw [rawE_eq] at hv
    rcases cVal_some h with ⟨t, rfl, h2⟩ | ⟨_, _, _, h2⟩ | ⟨_, _, h2⟩
    · rw [rawE_eq, rawE_eq, iteB_eq] at h2
      cases h2
      simp [execU, ev_v hv]
    · cases h2
    · cases h2
  case ld k a =>
    subst hx
    rcases cAdr_some h with ⟨cs, ha, h⟩ | ⟨id, off, ha, h⟩
    · rw [rawE_eq] at ha
      rw [partE_eq] at h
      simp [execU, ev_ia ha, h]
    · rw [rawE_eq] at ha
      obtain ⟨T, cs, hr, h⟩ := cRow_some h
      rw [partE_eq, dropL_eq] at h
      have ho : es.ds.ho id = some (.row T cs) := hr
      simp [execU, ev_pt ha (by rw [ho]; rfl), ho, h]
  case bin op a b =>
    subst hx
    obtain ⟨v, hv, h⟩ := cV_some h
    obtain ⟨w, hw, h⟩ := cV_some h
    rw [rawE_eq] at hv hw
    rcases cVal_some h with ⟨_, _, h2⟩ | ⟨k, p, rfl, h2⟩ | ⟨s, rfl, h2⟩
    · cases h2
    · rcases cVal_some h2 with ⟨_, _, h3⟩ | ⟨k', q, rfl, h3⟩ | ⟨_, _, h3⟩
      · cases h3
      · rw [outV_eq] at h3
        obtain ⟨u, hu, rfl⟩ := Option.map_eq_some_iff.1 h3
        rw [iteB_eq, iteB_eq] at hu
        simp only [ctor_eq] at hu
        simp [execU, ev_v hv, ev_v hw, binV, hu]
      · cases h3
    · rcases cVal_some h2 with ⟨_, _, h3⟩ | ⟨_, _, _, h3⟩ | ⟨s', rfl, h3⟩
      · cases h3
      · cases h3
      · rw [outV_eq] at h3
        obtain ⟨u, hu, rfl⟩ := Option.map_eq_some_iff.1 h3
        simp [execU, ev_v hv, ev_v hw, binV, hu]
  case un op a =>
    subst hx
    obtain ⟨v, hv, h2⟩ := cV_some h
    rw [rawE_eq] at hv
    rw [outV_eq] at h2
    obtain ⟨u, hu, rfl⟩ := Option.map_eq_some_iff.1 h2
    simp [execU, ev_v hv, hu]
  case fa off a =>
    subst hx
    rcases cAdr_some h with ⟨cs, ha, h⟩ | ⟨id, o, ha, h⟩
    · rw [rawE_eq] at ha
      rw [dropL_eq] at h
      cases h
      simp [execU, ev_ia ha]
    · rw [rawE_eq] at ha
      obtain ⟨hl, h⟩ := iteB_some h
      rw [someB_eq, gN_eq] at hl
      rw [forceN_eq] at h
      cases h
      simp [execU, ev_pt ha hl]
  case ia es' a i =>
    subst hx
    obtain ⟨k, j, hj, h⟩ := cI_some h
    rw [rawE_eq] at hj
    rcases cSl_some h with ⟨_, _, h⟩ | ⟨cs, n, ha, h⟩ | ⟨id, off, n, es2, ha, h⟩
    · cases h
    · rw [rawE_eq] at ha
      obtain ⟨h0, h1, h⟩ := cIx_some h
      rw [dropL_eq] at h
      cases h
      simp [execU, ev_v hj, ev_sl ha, intD, h0, h1]
    · rw [rawE_eq] at ha
      obtain ⟨hl, h⟩ := iteB_some h
      rw [someB_eq, gN_eq] at hl
      obtain ⟨h0, h1, h⟩ := cIx_some h
      rw [forceN_eq] at h
      cases h
      simp [execU, ev_v hj, ev_ms ha hl, intD, h0, h1]
  case fx n es' a i =>
    subst hx
    obtain ⟨k, j, hj, h⟩ := cI_some h
    rw [rawE_eq] at hj
    rcases cAdr_some h with ⟨cs, ha, h⟩ | ⟨id, off, ha, h⟩
    · rw [rawE_eq] at ha
      obtain ⟨h0, h1, h⟩ := cIx_some h
      rw [dropL_eq] at h
      cases h
      simp [execU, ev_v hj, ev_ia ha, intD, h0, h1]
    · rw [rawE_eq] at ha
      obtain ⟨hl, h⟩ := iteB_some h
      rw [someB_eq, gN_eq] at hl
      obtain ⟨h0, h1, h⟩ := cIx_some h
      rw [forceN_eq] at h
      cases h
      simp [execU, ev_v hj, ev_pt ha hl, intD, h0, h1]
  case len a =>
    subst hx
    rcases cSl_some h with ⟨v, ha, h⟩ | ⟨cs, n, ha, h⟩ | ⟨id, off, n, es2, ha, h⟩
    · rw [rawE_eq] at ha
      cases v <;> first | (cases h; done) | skip
      rename_i ad n c
      cases ad with
      | none =>
        cases h
        simp [execU, ev_v ha]
      | some ad => cases h
    · rw [rawE_eq] at ha
      rw [forceN_eq] at h
      cases h
      simp [execU, ev_sl ha]
    · rw [rawE_eq] at ha
      obtain ⟨hl, h⟩ := iteB_some h
      rw [someB_eq, gN_eq] at hl
      rw [forceN_eq] at h
      cases h
      simp [execU, ev_ms ha hl]
  case ext a i =>
    subst hx
    obtain ⟨ds, ha, h⟩ := cTup_some h
    rw [rawE_eq] at ha
    have hn : ∀ ds : List DV, nthL i ds = ds[i]? := fun ds => by
      unfold nthL
      rw [dropL_eq, ← List.head?_drop]
      cases ds.drop i <;> rfl
    rw [hn] at h
    cases hd : ds[i]? with
    | none => rw [hd] at h; cases h
    | some d0 =>
      rw [hd] at h
      cases d0 with
      | v v =>
        have h' : some (DV.v v) = some d := h
        cases h'
        simp [execU, ha, extV, hd]
      | _ =>
        obtain ⟨ds', ha', h⟩ := cTup_some h
        rw [evE_eq] at ha'
        rw [hn] at h
        simp [execU, ha, extV, hd, ha', h]

theorem xopU_ok {o : DOp} {es : ES} {nid : Nat} {d : DV} {u : Upd} (h : xopU o es nid = some (d, u)) : execU nid es.ds o = some (d, u) := by
  unfold xopU at h
  split at h
  · rename_i n a x
    unfold xSt at h
    rcases cAdr_some h with ⟨_, _, h⟩ | ⟨id, off, ha, h⟩
    · cases h
    · rw [rawE_eq] at ha
      obtain ⟨T, cs, hr, h⟩ := cRow_some h
      obtain ⟨h1, h⟩ := iteB_some h
      obtain ⟨h2, h⟩ := iteB_some h
      obtain ⟨h3, h⟩ := iteB_some h
      rw [forceL_eq] at h
      rw [okE_eq, evE_eq] at h1
      rw [cellsE_eq, evE_eq] at h2
      have h2' := Nat.eq_of_beq_eq_true h2
      have h3' : off + n ≤ cs.length := by simpa [Nat.ble_eq] using h3
      simp only [cellsE_eq, evE_eq, appL_eq, takeL_eq, dropL_eq] at h
      have ho : es.ds.ho id = some (.row T cs) := hr
      simp only [execU, ev_pt ha (by rw [ho]; rfl), ho, h1, h2', h3', and_self, if_true]
      rw [← h, List.append_assoc]
  · rename_i T x
    unfold xBx at h
    obtain ⟨h1, h⟩ := iteB_some h
    rw [okE_eq, evE_eq] at h1
    rw [cellsE_eq, evE_eq] at h
    simp only [execU, h1, if_true]
    exact h
  · exact h
  · exact h

theorem wantE_eq (es : ES) (t : Nat) (b : Bool) : wantE es (pth t) b = es.ds.wanted (some (t, b)) := by
  unfold wantE
  rw [rawE_t]
  simp only [DS.wanted]
  cases hd : es.ds.sv t with
  | v x => cases x <;> rfl
  | _ => rfl

theorem putE_ds (es : ES) (dst : Option Nat) (d : DV) : (es.putE (pthO dst) d).ds = es.ds.put dst d := by
  obtain ⟨sl, hp, nx⟩ := es
  cases dst with
  | none => rfl
  | some t =>
    show ES.ds ⟨sP (pth t) (some d) sl, hp, nx⟩ = _
    simp only [ES.ds, DS.put]
    congr 1
    funext u
    rw [sP_pth]
    split <;> simp
theorem updE_ho (hp : Tr DObj) (nid : Nat) (u : Upd) : (updE hp nid u).get = u.app nid hp.get := by
  cases u with
  | keep => rfl
  | lay o => exact setN_ho
  | wr id o => exact setN_ho
  | mv old o =>
    cases old with
    | none => exact setN_ho
    | some i =>
      show (setN (setN hp i none) nid (some o)).get = _
      rw [setN_ho, setN_ho]; rfl
end Go.DD
