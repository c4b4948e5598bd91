/- The evaluator's calls; what a closed run shows. -/
import Derived.Test.YtpaggdhijeabnaaGreatDoorIb
namespace Go.DD

theorem argT_get (ds : List DV) (t : Nat) : ((argT ds).get t).getD .any = argF ds t := by
  have key : ∀ (ds : List DV) (i : Nat) (tr : Tr DV), (List.rec (motive := fun _ => Nat → Tr DV → Tr DV) (fun _ t => t) (fun d _ ih i t => ih (i + 1) (sP (pth i) (some d) t)) ds i tr : Tr DV).get t = if i ≤ t ∧ t < i + ds.length then ds[t - i]? else tr.get t := by
    intro ds
    induction ds with
    | nil =>
      intro i tr
      rw [if_neg (by simp only [List.length_nil]; omega)]
    | cons d ds ih =>
      intro i tr
      show (List.rec (motive := fun _ => Nat → Tr DV → Tr DV) (fun _ t => t) (fun d _ ih i t => ih (i + 1) (sP (pth i) (some d) t)) ds (i + 1) (sP (pth i) (some d) tr) : Tr DV).get t = _
      rw [ih, sP_pth]
      by_cases h1 : i + 1 ≤ t ∧ t < i + 1 + ds.length
      · rw [if_pos h1, if_pos (by simp; omega)]
        rw [show t - i = (t - (i + 1)) + 1 by omega]
        simp
      · rw [if_neg h1]
        by_cases h2 : i = t
        · subst h2
          rw [if_pos rfl, if_pos (by simp)]
          simp
        · rw [if_neg h2, if_neg (by simp; omega)]
  have := key ds 0 .e
  unfold argT argF
  rw [this]
  by_cases h : t < ds.length
  · rw [if_pos (by omega)]; simp
  · rw [if_neg (by omega), List.getElem?_eq_none (by omega)]
    cases t <;> rfl

theorem zipT_get : ∀ (ps : List Nat) (ds : List DV) (sl : Tr DV), (fun u => ((zipT ps ds sl).get u).getD .any) = zipF ps ds fun u => (sl.get u).getD .any
  | [], ds, sl => by cases ds <;> rfl
  | p :: ps, [], sl => rfl
  | p :: ps, d :: ds, sl => by
    have e : zipT (p :: ps) (d :: ds) sl = zipT ps ds (sP (pth p) (some d) sl) := rfl
    rw [e, zipT_get ps ds]
    simp only [zipF]
    congr 1
    funext u
    rw [sP_pth]
    by_cases h : p = u
    · simp [h]
    · simp [h]

theorem xLp_ok {k : Option Nat} {t : Nat} {es : ES} {d : DV} (h : xLp k (.t (pth t)) es = some d) : resD es.ds (t, some k) = some d := by
  unfold xLp at h
  rcases cAdr_some h with ⟨_, _, h⟩ | ⟨id, off, ha, h⟩
  · cases h
  · obtain ⟨T, cs, hr, h⟩ := cRow_some h
    have ha' : es.ds.rv (.tmp t) = .pt id off := by rw [← rawE_eq]; exact ha
    have ho : es.ds.ho id = some (.row T cs) := hr
    simp only [resD, ev_pt ha' (by rw [ho]; rfl), ho]
    rw [← dropL_eq, ← partE_eq]
    exact h
theorem resE_ok {es : ES} {q : Nat × Option (Option Nat)} {d : DV} (h : resE es q = some d) : resD es.ds q = some d := by
  obtain ⟨t, k⟩ := q
  cases k with
  | none =>
    have h' : some (evE es (.t (pth t))) = some d := h
    have e : evE es (.t (pth t)) = es.ds.ev (.tmp t) := evE_eq es (.tmp t)
    rw [e] at h'
    exact h'
  | some k => exact xLp_ok h
theorem resM_ok {es : ES} : ∀ {qs : List (Nat × Option (Option Nat))} {ds : List DV}, qs.mapM (resE es) = some ds → qs.mapM (resD es.ds) = some ds
  | [], ds, h => by simpa using h
  | q :: qs, ds, h => by
    simp only [List.mapM_cons, Option.bind_eq_bind, Option.bind_eq_some_iff, Option.pure_def] at h ⊢
    obtain ⟨d, hd, dt, hdt, h⟩ := h
    exact ⟨d, resE_ok hd, dt, resM_ok hdt, h⟩
theorem finE_ok {es : ES} {qs : List (Nat × Option (Option Nat))} {d : DV} {hp : Tr DObj} {nx : Nat} (h : finE qs es = some (d, hp, nx)) : resV es.ds qs = some d ∧ hp = es.hp ∧ nx = es.nx := by
  unfold finE at h
  cases hm : qs.mapM (resE es) with
  | none => rw [hm] at h; cases h
  | some ds =>
    rw [hm] at h
    have h2 := resM_ok hm
    unfold resV
    rw [h2]
    match ds, h with
    | [], h => cases h; exact ⟨rfl, rfl, rfl⟩
    | [x], h => cases h; exact ⟨rfl, rfl, rfl⟩
    | x :: y :: l, h => cases h; exact ⟨rfl, rfl, rfl⟩


/-- A function, as it is run, out of the program. -/
noncomputable def fnE (P : Program) (n : Nat) (fn : Func) : Option FE := match compFn P fn with
  | some df => some ⟨runF n df.nt df.code, df.res, df.nt⟩
  | none => none
def TbAt (P : Program) (n f : Nat) (fe : FE) : Prop := callable P f = true ∧ ∃ fn df, P.funcs[f]? = some fn ∧ compFn P fn = some df ∧ fe.run = runF n df.nt df.code ∧ fe.res = df.res ∧ fe.nt = df.nt
/-- A table of functions as they are run. -/
def TbOK (P : Program) (n : Nat) (tb : Nat → Option FE) : Prop := ∀ f fe, tb f = some fe → TbAt P n f fe
theorem TbAt.of {P : Program} {n f : Nat} {fe : FE} {fn : Func} (h1 : P.funcs[f]? = some fn) (h2 : callable P f = true) (h3 : fnE P n fn = some fe) : TbAt P n f fe := by
  unfold fnE at h3
  split at h3
  · rename_i df hd
    cases h3
    exact ⟨h2, fn, df, h1, hd, rfl, rfl, rfl⟩
  · cases h3

/-- The program's own table: nothing is printed. -/
noncomputable def tbP (P : Program) (n f : Nat) : Option FE := iteB (callable P f) (Option.rec (motive := fun _ => Option FE) none (fun fn => fnE P n fn) (P.funcs[f]?)) none
theorem tbP_ok (P : Program) (n : Nat) : TbOK P n (tbP P n) := by
  intro f fe h
  obtain ⟨h1, h2⟩ := iteB_some h
  obtain ⟨fn, h3, h4⟩ := optR h2
  exact TbAt.of h3 h1 h4

theorem tb_leaf {P : Program} {n k : Nat} {e : FE} (h : TbAt P n k e) {f : Nat} {fe : FE} (hf : iteB (Nat.beq f k) (some e) none = some fe) : TbAt P n f fe := by
  obtain ⟨h1, h2⟩ := iteB_some hf
  cases h2
  rw [Nat.eq_of_beq_eq_true h1]
  exact h
theorem tb_node {P : Program} {n f : Nat} {c : Bool} {x y : Option FE} {fe : FE} (hx : x = some fe → TbAt P n f fe) (hy : y = some fe → TbAt P n f fe) (h : iteB c x y = some fe) : TbAt P n f fe := by
  rw [iteB_eq] at h
  split at h
  · exact hx h
  · exact hy h

theorem es_set (es : ES) (id : Nat) (o : Option DObj) : (ES.mk es.sl (es.hp.set id o) es.nx).ds = es.ds.lay id o := by
  rw [ds_eq, Tr.set_ho]; rfl
theorem gw_set {es : ES} {id : Nat} {o : DObj} {x : DObj} (h : es.hp.get id = some x) : Gw es.ds (ES.mk es.sl (es.hp.set id (some o)) es.nx).ds := by
  rw [es_set]
  refine ⟨Nat.le_refl _, fun j h1 h2 => ?_⟩
  simp only [DS.lay, setH] at h2
  split at h2
  · rename_i e
    have h1' : es.hp.get j = none := h1
    rw [e, h] at h1'; cases h1'
  · exact absurd h1 h2

theorem stepC_ok {P : Program} (hm : P.follows .mixedOrders = true) {tb : Nat → Option FE} {n' n : Nat} (htb : TbOK P n' tb) {call : CallT} (ih : CallOK P call) : CallOK P (stepC tb n call) := by
    intro tg ds hp nx d hp' nx' h hfr
    cases tg with
    | fn f =>
      have h0 : (match tb f with
        | some fe => if ds.length ≤ fe.nt then match fe.run call ⟨argT ds, hp, nx⟩ with
            | some (.normal, es) => finE fe.res es
            | some (.ret, es) => finE fe.res es
            | _ => none
          else none
        | none => none) = some (d, hp', nx') := h
      split at h0
      rotate_left
      · cases h0
      rename_i fe hfe
      obtain ⟨hcb, fn, df, hf, hcf, e1, e2, e3⟩ := htb f fe hfe
      split at h0
      rotate_left
      · cases h0
      rename_i hlen
      rw [e1] at h0
      have hrun : ∃ e es, runF n' df.nt df.code call ⟨argT ds, hp, nx⟩ = some (e, es) ∧ (e = .normal ∨ e = .ret) ∧ finE fe.res es = some (d, hp', nx') := by
        revert h0
        split
        · rename_i es he; exact fun h0 => ⟨_, es, he, .inl rfl, h0⟩
        · rename_i es he; exact fun h0 => ⟨_, es, he, .inr rfl, h0⟩
        · intro h0; cases h0
      obtain ⟨e, es, hev, hee, hfin⟩ := hrun
      obtain ⟨hres, rfl, rfl⟩ := finE_ok hfin
      obtain ⟨g1, g2⟩ := runF_ok ih hm hev hfr
      refine ⟨g1.le, g1.new, hcb, fun sv K hK => .inl ⟨fn, df, hf, hcf, by rw [← e3]; exact hlen, fun S G w0 X M Y R => ?_⟩⟩
      have hst : (ES.mk (argT ds) hp nx).ds = ⟨argF ds, hp.get, nx⟩ := by
        rw [ds_eq]
        congr 1
        funext t
        exact argT_get ds t
      have := g2 ⟨P, S, G, w0, df.nt, X, M, none, Y, R⟩ (fun e s' => (e = .normal ∨ e = .ret) ∧ ∃ d, resV s' df.res = some d ∧ K ⟨sv, s'.ho, s'.nx⟩ d) rfl rfl rfl (fun e' he' => ⟨by rcases he' with rfl | h | h; exact hee; exact .inl h; exact .inr h, d, by rw [← e2]; exact hres, hK⟩)
      rw [hst] at this
      exact this
    | yl id =>
      have h0 : (match hp.get id with
      | some (.loop lp) => match lp.st, lp.sl with
        | .ready, .t sl => if ds.length = lp.ps.length ∧ lp.ps.all (fun t => Nat.blt t lp.nt) = true then
            match evalE n lp.nt true lp.asg call ⟨zipT lp.ps ds sl, hp, nx⟩ with
            | some (.normal, es1) => match es1.hp.get id with
              | some (.loop lp1) => match lp1.st with
                | .ready => match evalE n lp.nt true lp.body call { es1 with hp := es1.hp.set id (some (.loop { lp1 with st := .busy })) } with
                  | some (e, es2) => match es2.hp.get id with
                    | some (.loop lp2) => match e with
                      | .normal => some (.v (.bool true), es2.hp.set id (some (.loop { lp2 with st := .ready, pend := none })), es2.nx)
                      | .ret => some (.v (.bool false), es2.hp.set id (some (.loop { lp2 with st := .done, pend := some .ret })), es2.nx)
                      | .exit i => some (.v (.bool false), es2.hp.set id (some (.loop { lp2 with st := .done, pend := some (.exit i) })), es2.nx)
                      | _ => none
                    | _ => none
                  | none => none
                | _ => none
              | _ => none
            | _ => none
          else none
        | _, _ => none
      | _ => none) = some (d, hp', nx') := h
      split at h0
      rotate_left
      · cases h0
      rename_i lp hlp
      split at h0
      rotate_left
      · cases h0
      rename_i sl hst hsl
      split at h0
      rotate_left
      · cases h0
      rename_i hlen
      obtain ⟨hlen, hps⟩ := hlen
      split at h0
      rotate_left
      · cases h0
      rename_i es1 hev1
      split at h0
      rotate_left
      · cases h0
      rename_i lp1 hlp1
      split at h0
      rotate_left
      · cases h0
      rename_i hst1
      split at h0
      rotate_left
      · cases h0
      rename_i e es2 hev2
      split at h0
      rotate_left
      · cases h0
      rename_i lp2 hlp2
      obtain ⟨g1, k1⟩ := evalE_ok ih hm lp.asg _ _ _ hev1 hfr
      have hfr0 : (ES.mk (zipT lp.ps ds sl) hp nx).ds.Fr := hfr
      have hfr1 : es1.ds.Fr := Gw.fr hfr0 g1
      have gs1 := gw_set (o := .loop { lp1 with st := .busy }) hlp1
      obtain ⟨g2, k2⟩ := evalE_ok ih hm lp.body _ _ _ hev2 (Gw.fr hfr1 gs1)
      have hz : (ES.mk (zipT lp.ps ds sl) hp nx).ds = ⟨zipF lp.ps ds lp.sl.get, hp.get, nx⟩ := by
        rw [ds_eq, hsl]
        congr 1
        exact zipT_get lp.ps ds sl
      have hall : ∀ t ∈ lp.ps, t < lp.nt := fun t ht => by
        have := List.all_eq_true.1 hps t ht
        simpa [Nat.blt_eq] using this
      have gwAll : ∀ o, Gw (ES.mk (zipT lp.ps ds sl) hp nx).ds (ES.mk es2.sl (es2.hp.set id (some o)) es2.nx).ds := fun o => ((g1.trans gs1).trans g2).trans (gw_set hlp2)
      have fin : ∀ (o : DObj) (b : Bool), (d = .v (.bool b) ∧ hp' = es2.hp.set id (some o) ∧ nx' = es2.nx) →
          (∀ (sv : Nat → DV) (K : DS → DV → Prop), K ⟨sv, hp'.get, nx'⟩ d → (fun (e : Exit) (s2 : DS) => ∃ lp2, s2.ho id = some (.loop lp2) ∧ match e with
            | .normal => K ⟨sv, setH s2.ho id (some (.loop { lp2 with st := .ready, pend := none })), s2.nx⟩ (.v (.bool true))
            | .ret => K ⟨sv, setH s2.ho id (some (.loop { lp2 with st := .done, pend := some .ret })), s2.nx⟩ (.v (.bool false))
            | .exit i => K ⟨sv, setH s2.ho id (some (.loop { lp2 with st := .done, pend := some (.exit i) })), s2.nx⟩ (.v (.bool false))
            | _ => False) e es2.ds) →
          nx ≤ nx' ∧ (∀ id, hp.get id = none → hp'.get id ≠ none → nx ≤ id ∧ id < nx') ∧ ∀ (sv : Nat → DV) (K : DS → DV → Prop), K ⟨sv, hp'.get, nx'⟩ d → roundK P id ds ⟨sv, hp.get, nx⟩ K := fun o b ⟨q1, q2, q3⟩ hfin => by
        have gw := gwAll o
        subst q2 q3
        refine ⟨gw.le, gw.new, fun sv K hK => ⟨lp, hlp, hst, hlen, hall, fun S G w0 X M Y R l => ?_⟩⟩
        rw [← hz]
        refine k1 _ _ rfl rfl (fun h => by cases h) ⟨rfl, lp1, hlp1, hst1, ?_⟩
        rw [← es_set]
        exact k2 _ _ rfl rfl (fun h => by cases h) (hfin sv K hK)
      split at h0
      · cases h0
        refine fin _ true ⟨rfl, rfl, rfl⟩ fun sv K hK => ⟨lp2, hlp2, ?_⟩
        rw [Tr.set_ho] at hK
        exact hK
      · cases h0
        refine fin _ false ⟨rfl, rfl, rfl⟩ fun sv K hK => ⟨lp2, hlp2, ?_⟩
        rw [Tr.set_ho] at hK
        exact hK
      · cases h0
        refine fin _ false ⟨rfl, rfl, rfl⟩ fun sv K hK => ⟨lp2, hlp2, ?_⟩
        rw [Tr.set_ho] at hK
        exact hK
      · cases h0

theorem callE_ok {P : Program} (hm : P.follows .mixedOrders = true) {tb : Nat → Option FE} {n' n : Nat} (htb : TbOK P n' tb) : ∀ k, CallOK P (callE tb n k)
  | 0 => fun tg ds hp nx d hp' nx' h => by cases h
  | k + 1 => stepC_ok hm htb (callE_ok hm htb k)

/-! Calls on immutable arguments that are known already. -/
abbrev Memo : Type := Tr (List (List DV × DV))
noncomputable def lkD (l : List (List DV × DV)) (ds : List DV) : Option DV := List.rec (motive := fun _ => Option DV) none (fun e _ ih => Bool.rec (motive := fun _ => Option DV) ih (some e.2) (sameL (sameDV 8) e.1 ds)) l
noncomputable def memoC (mm : Memo) (call : CallT) : CallT := fun tg ds hp nx => match tg with
  | .fn f => Option.rec (motive := fun _ => Option (DV × Tr DObj × Nat)) (call (.fn f) ds hp nx) (fun l => Option.rec (motive := fun _ => Option (DV × Tr DObj × Nat)) (call (.fn f) ds hp nx) (fun d => some (d, hp, nx)) (lkD l ds)) (gN mm f)
  | .yl id => call (.yl id) ds hp nx
noncomputable def callR (tb : Nat → Option FE) (mm : Memo) (n : Nat) : Nat → CallT
  | 0 => fun _ _ _ _ => none
  | k + 1 => stepC tb n (memoC mm (callR tb mm n k))
/-- What is known is so. -/
def Known (P : Program) (f : Nat) (ds : List DV) (d : DV) : Prop := callable P f = true ∧ (∀ x ∈ ds, x.refs = []) ∧ DCall P f ds fun d' => d' = d
def MemoOK (P : Program) (mm : Memo) : Prop := ∀ f l, mm.get f = some l → ∀ e ∈ l, Known P f e.1 e.2
theorem lkD_some {ds : List DV} {d : DV} : ∀ {l : List (List DV × DV)}, lkD l ds = some d → (ds, d) ∈ l
  | [], h => by cases h
  | e :: l, h => by
    have h' : Bool.rec (motive := fun _ => Option DV) (lkD l ds) (some e.2) (sameL (sameDV 8) e.1 ds) = some d := h
    cases hs : sameL (sameDV 8) e.1 ds with
    | true =>
      rw [hs] at h'
      cases h'
      have := sameL_eq (sameDV_eq 8) hs
      obtain ⟨a, b⟩ := e
      simp only at this
      subst this
      simp
    | false =>
      rw [hs] at h'
      exact List.mem_cons_of_mem _ (lkD_some h')
theorem memoC_ok {P : Program} {mm : Memo} (hmm : MemoOK P mm) {call : CallT} (hc : CallOK P call) : CallOK P (memoC mm call) := by
  intro tg ds hp nx d hp' nx' h hfr
  cases tg with
  | yl id => exact hc (.yl id) ds hp nx d hp' nx' h hfr
  | fn f =>
    have h0 : Option.rec (motive := fun _ => Option (DV × Tr DObj × Nat)) (call (.fn f) ds hp nx) (fun l => Option.rec (motive := fun _ => Option (DV × Tr DObj × Nat)) (call (.fn f) ds hp nx) (fun d => some (d, hp, nx)) (lkD l ds)) (gN mm f) = some (d, hp', nx') := h
    cases hg : gN mm f with
    | none => rw [hg] at h0; exact hc (.fn f) ds hp nx d hp' nx' h0 hfr
    | some l =>
      rw [hg] at h0
      cases hl : lkD l ds with
      | none =>
        have h1 : Option.rec (motive := fun _ => Option (DV × Tr DObj × Nat)) (call (.fn f) ds hp nx) (fun d => some (d, hp, nx)) (lkD l ds) = some (d, hp', nx') := h0
        rw [hl] at h1
        exact hc (.fn f) ds hp nx d hp' nx' h1 hfr
      | some d0 =>
        have h1 : Option.rec (motive := fun _ => Option (DV × Tr DObj × Nat)) (call (.fn f) ds hp nx) (fun d => some (d, hp, nx)) (lkD l ds) = some (d, hp', nx') := h0
        rw [hl] at h1
        cases h1
        rw [gN_eq] at hg
        obtain ⟨k1, k2, k3⟩ := hmm f l hg _ (lkD_some hl)
        exact ⟨Nat.le_refl _, fun id h2 h3 => absurd h2 h3, k1, fun sv K hK => .inr ⟨_, k2, k3, hK⟩⟩
theorem callR_ok {P : Program} (hm : P.follows .mixedOrders = true) {tb : Nat → Option FE} {n' n : Nat} (htb : TbOK P n' tb) {mm : Memo} (hmm : MemoOK P mm) : ∀ k, CallOK P (callR tb mm n k)
  | 0 => fun tg ds hp nx d hp' nx' h => by cases h
  | k + 1 => stepC_ok hm htb (memoC_ok hmm (callR_ok hm htb hmm k))
theorem MemoOK.nil (P : Program) : MemoOK P .e := fun f l h => by cases f <;> cases h
theorem MemoOK.add {P : Program} {mm : Memo} (h : MemoOK P mm) {f : Nat} {l : List (List DV × DV)} (hl : ∀ e ∈ l, Known P f e.1 e.2) : MemoOK P (mm.set f (some l)) := fun g l' hg e he => by
  rw [Tr.get_set] at hg
  split at hg
  · rename_i e1; subst e1; cases hg; exact hl e he
  · exact h g l' hg e he

theorem rz_none : ∀ (n : Nat) (d r : DV), rz (fun _ => none) n d = some r → r = d
  | 0, d, r, h => by
    simp only [rz] at h
    split at h
    · cases h; rfl
    · cases h
  | n + 1, d, r, h => by
    have hl : ∀ cs l, rzL (rz (fun _ => none) n) cs = some l → l = cs := fun cs l hz => by
      obtain ⟨h1, h2⟩ := rzL_some hz
      apply List.ext_getElem? 
      intro j
      by_cases hj : j < cs.length
      · have e1 := List.getElem?_eq_getElem hj
        have e2 := List.getElem?_eq_getElem (l := l) (i := j) (by omega)
        rcases h2 j _ _ e1 e2 with ⟨_, h3⟩ | h3
        · rw [e1, e2, h3]
        · rw [e1, e2, rz_none n _ _ h3]
      · rw [List.getElem?_eq_none (by omega), List.getElem?_eq_none (by omega)]
    cases d with
    | agg cs => obtain ⟨l, hz, rfl⟩ := Option.map_eq_some_iff.1 h; rw [hl cs l hz]
    | tup cs => obtain ⟨l, hz, rfl⟩ := Option.map_eq_some_iff.1 h; rw [hl cs l hz]
    | fn f cs => obtain ⟨l, hz, rfl⟩ := Option.map_eq_some_iff.1 h; rw [hl cs l hz]
    | ifc T d => obtain ⟨e, hz, rfl⟩ := Option.map_eq_some_iff.1 h; rw [rz_none n _ _ hz]
    | ms id off k es => simp [rz] at h
    | pt id off => simp [rz] at h
    | mp id => simp [rz] at h
    | yl id => simp [rz] at h
    | any => simp [rz] at h; exact h.symm
    | v x => simp [rz] at h; exact h.symm
    | sl cs k => simp [rz] at h; exact h.symm
    | ia cs => simp [rz] at h; exact h.symm

/-- A call on the empty heap, and what it returns as content. -/
theorem DCall.of_callC {P : Program} {f : FuncId} {args : List DV} {R : DV → Prop} {sv : Nat → DV} (h : callC P f args ⟨sv, fun _ => none, 0⟩ fun s d => ∃ r, rz s.ho 6 d = some r ∧ R r) : DCall P f args R := by
  rcases h with h | ⟨d, h1, h2, r, h3, h4⟩
  · exact DCall.of_callI h
  · have hd : r = d := rz_none 6 _ _ h3
    subst hd
    exact h2.mono fun d hd => by rw [hd]; exact h4
/-- What a call returns, as content; it is plain to see that nothing is named. -/
noncomputable def flatB (ds : List DV) : Bool := ds.all fun d => (refsE d).isEmpty
noncomputable def retE (x : Option (DV × Tr DObj × Nat)) (d : DV) : Bool := match x with
  | some (d', hp, _) => match rz hp.get 6 d' with
    | some r => sameDV 12 r d
    | none => false
  | none => false
theorem run_known {P : Program} (hm : P.follows .mixedOrders = true) {tb : Nat → Option FE} {n' n k f : Nat} (htb : TbOK P n' tb) {mm : Memo} (hmm : MemoOK P mm) {ds : List DV} {d : DV} (hf : flatB ds = true) (h : retE (callR tb mm n k (.fn f) ds .e 0) d = true) : Known P f ds d := by
  unfold retE at h
  split at h
  rotate_left
  · cases h
  rename_i d' hp nx hr
  split at h
  rotate_left
  · cases h
  rename_i r hrz
  have hd := sameDV_eq _ _ _ h
  subst hd
  obtain ⟨_, _, hcb, hI⟩ := callR_ok hm htb hmm k _ _ _ _ _ _ _ hr (fun id _ => by cases id <;> rfl)
  refine ⟨hcb, fun x hx => ?_, DCall.of_callC (sv := fun _ => .any) ?_⟩
  · have := List.all_eq_true.1 hf x hx
    rw [refsE_eq] at this
    simpa using this
  · have := hI (fun _ => .any) (fun s d => ∃ r', rz s.ho 6 d = some r' ∧ r' = r) ⟨r, hrz, rfl⟩
    have e : (Tr.e : Tr DObj).get = fun _ => none := by funext id; cases id <;> rfl
    rw [e] at this
    exact this
theorem run_trueM {P : Program} (hm : P.follows .mixedOrders = true) {tb : Nat → Option FE} {n' n k f : Nat} (htb : TbOK P n' tb) {mm : Memo} (hmm : MemoOK P mm) (h : okBE (callR tb mm n k (.fn f) [] .e 0) = true) : callable P f = true ∧ DCall P f [] fun d => d = .v (.bool true) := by
  unfold okBE at h
  split at h
  rotate_left
  · cases h
  rename_i b hp nx hr
  subst h
  obtain ⟨_, _, hcb, hI⟩ := callR_ok hm htb hmm k _ _ _ _ _ _ _ hr (fun id _ => by cases id <;> rfl)
  refine ⟨hcb, DCall.of_callC (sv := fun _ => .any) ?_⟩
  have := hI (fun _ => .any) (fun s d => ∃ r, rz s.ho 6 d = some r ∧ r = .v (.bool true)) ⟨.v (.bool true), rfl, rfl⟩
  have e : (Tr.e : Tr DObj).get = fun _ => none := by funext id; cases id <;> rfl
  rw [e] at this
  exact this
/-- A closed run that answers true. -/
theorem run_true {P : Program} (hm : P.follows .mixedOrders = true) {tb : Nat → Option FE} {n' n k f : Nat} (htb : TbOK P n' tb) (h : okBE (callE tb n k (.fn f) [] .e 0) = true) : callable P f = true ∧ DCall P f [] fun d => d = .v (.bool true) := by
  unfold okBE at h
  split at h
  rotate_left
  · cases h
  rename_i b hp nx hr
  subst h
  obtain ⟨_, _, hcb, hI⟩ := callE_ok hm htb k _ _ _ _ _ _ _ hr (fun id _ => by cases id <;> rfl)
  refine ⟨hcb, DCall.of_callC (sv := fun _ => .any) ?_⟩
  have := hI (fun _ => .any) (fun s d => ∃ r, rz s.ho 6 d = some r ∧ r = .v (.bool true)) ⟨.v (.bool true), rfl, rfl⟩
  have e : (Tr.e : Tr DObj).get = fun _ => none := by funext id; cases id <;> rfl
  rw [e] at this
  exact this
end Go.DD
