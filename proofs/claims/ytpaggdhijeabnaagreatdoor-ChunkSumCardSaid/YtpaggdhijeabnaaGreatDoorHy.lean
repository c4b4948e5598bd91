/- The evaluator's regions that draw their order, third part: the theorem. -/
import Derived.Test.YtpaggdhijeabnaaGreatDoorHx
namespace Go.DD

theorem evRefs {s : DS} {op : DOp} {x : Operand} (hx : x ∈ op.opnds) {id : Nat} (h : id ∈ (s.ev x).refs) : opRefs s op id := by
  cases x with
  | tmp t =>
    simp only [DS.ev] at h
    split at h
    · exact ⟨t, hx, h⟩
    · simp [DV.refs] at h
  | const x => simp only [DS.ev] at h; rw [refs_ofV] at h; cases h
  | func f => simp [DS.ev, DV.refs, DV.refsL] at h
  | global g => simp only [DS.ev] at h; rw [gvD_refs] at h; cases h

/-- The same object; or at least one, as there was one. -/
def HoEq (c : Bool) (a b : Option DObj) : Prop := if c = true then a = b else a.isSome = b.isSome
theorem HoEq.of {c : Bool} {a b : Option DObj} (h : a = b) : HoEq c a b := by
  unfold HoEq; subst h; split <;> rfl
theorem HoEq.some {c : Bool} {a b : Option DObj} (h : HoEq c a b) : a.isSome = b.isSome := by
  unfold HoEq at h; split at h
  · rw [h]
  · exact h
theorem HoEq.symm {c : Bool} {a b : Option DObj} (h : HoEq c a b) : HoEq c b a := by
  unfold HoEq at *
  split at h
  · rename_i hc; rw [if_pos hc]; exact h.symm
  · rename_i hc; rw [if_neg hc]; exact h.symm
theorem HoEq.trans {c : Bool} {a b d : Option DObj} (h : HoEq c a b) (h' : HoEq c b d) : HoEq c a d := by
  unfold HoEq at *
  split at h
  · rename_i hc; rw [if_pos hc] at h' ⊢; exact h.trans h'
  · rename_i hc; rw [if_neg hc] at h' ⊢; exact h.trans h'
theorem look_eq {c : Bool} {a b : Tr DObj} {id : Nat} (h : (if c = true then sameAt a b id else bothAt a b id) = true) : HoEq c (a.get id) (b.get id) := by
  unfold HoEq
  split at h
  · rename_i hc; rw [if_pos hc]; exact sameAt_eq h
  · rename_i hc; rw [if_neg hc]; unfold bothAt at h; simpa using h

/-- The same slots, and the same objects where it looks. -/
theorem agree_of {op : DOp} {s s' : DS} (hsv : ∀ t, .tmp t ∈ op.opnds → s'.sv t = s.sv t) (hho : ∀ id, opRefs s op id → HoEq op.rdC (s'.ho id) (s.ho id)) : Agree op s s' := by
  refine ⟨fun x hx => ?_, fun x hx => ?_, fun hc x hx id hid => (by have := hho id (evRefs hx hid); unfold HoEq at this; rwa [if_pos hc] at this)⟩
  · cases x with
    | tmp t =>
      have h1 := hsv t hx
      have h2 : s'.live (s'.sv t) = s.live (s.sv t) := by
        rw [h1]
        unfold DS.live
        rw [Bool.eq_iff_iff, List.all_eq_true, List.all_eq_true]
        constructor
        · intro h id hid; rw [← (hho id ⟨t, hx, hid⟩).some]; exact h id hid
        · intro h id hid; rw [(hho id ⟨t, hx, hid⟩).some]; exact h id hid
      simp only [DS.ev]
      rw [h2, h1]
    | _ => rfl
  · cases x with
    | tmp t => exact hsv t hx
    | _ => rfl

section
variable {P : Program} {rs : List DR} {s0 : DS} {Δ : Nat → DSt} {ρ : Nat → Rec} (R : Run P rs s0 Δ ρ)
include R

theorem ws_mono {i : Nat} (hi : i < rs.length) : (∀ w ∈ (Δ i).ws, w ∈ (Δ (i + 1)).ws) ∧ (∀ p ∈ (Δ i).ps, p ∈ (Δ (i + 1)).ps) := by
  cases semAt R (List.getElem?_eq_getElem hi) with
  | off hw hd hl ht hm he hlo hws hps => rw [hws, hps]; exact ⟨fun _ h => h, fun _ h => h⟩
  | read hw hrf hx hl ht hm he hlo hws hlk hps => rw [hps]; exact ⟨hws, fun _ h => h⟩
  | lay ob hw hrf hx hl ht hm he hlo hws hlk hps => rw [hps]; exact ⟨hws, fun _ h => h⟩
  | wr ob hw hc hrf hx hal hlt han hl ht hob hm he hlo hws hps => rw [hws, hps]; exact ⟨fun _ h => h, fun _ h => h⟩
  | main hid hs hhid hhs hw hc hrf hx hg hl ht hm he hlo hws hps => rw [hws, hps]; exact ⟨fun _ h => h, fun _ h => List.mem_cons_of_mem _ h⟩
theorem ws_all {i j : Nat} (h : i ≤ j) (hj : j ≤ rs.length) : (∀ w ∈ (Δ i).ws, w ∈ (Δ j).ws) ∧ (∀ p ∈ (Δ i).ps, p ∈ (Δ j).ps) := by
  induction h with
  | refl => exact ⟨fun _ h => h, fun _ h => h⟩
  | @step j h ih =>
    obtain ⟨h1, h2⟩ := ih (by have : j + 1 ≤ rs.length := hj; omega)
    obtain ⟨h3, h4⟩ := ws_mono R (i := j) hj
    exact ⟨fun w hw => h3 w (h1 w hw), fun p hp => h4 p (h2 p hp)⟩
theorem past_in {q : Nat} (hq : q < rs.length) (hm : (ρ q).mn = true) : (⟨q, anR rs q, (Δ q).es.hp, (Δ (q + 1)).es.hp⟩ : Past) ∈ (Δ rs.length).ps := by
  refine (ws_all R (i := q + 1) (by omega) (Nat.le_refl _)).2 _ ?_
  cases semAt R (List.getElem?_eq_getElem hq) with
  | off hw hd hl ht hm' he hlo hws hps => rw [hm] at hm'; cases hm'
  | read hw hrf hx hl ht hm' he hlo hws hlk hps => rw [hm] at hm'; cases hm'
  | lay ob hw hrf hx hl ht hm' he hlo hws hlk hps => rw [hm] at hm'; cases hm'
  | wr ob hw hc hrf hx hal hlt han hl ht hob hm' he hlo hws hps => rw [hm] at hm'; cases hm'
  | main hid hs hhid hhs hw hc hrf hx hg hl ht hm' he hlo hws hps => rw [hps]; exact List.mem_cons_self ..

theorem st_sv {i : Nat} {r : DR} (hr : rs[i]? = some r) (k : Nat) {t : Nat} (ht : t ∈ r.tmps) : ((mkD ρ s0 rs.length).st rs s0 i k).sv t = (Δ i).es.ds.sv t := by
  have hi := (List.getElem?_eq_some_iff.1 hr).1
  have I := inv_all R i (by omega)
  rw [I.sv]
  exact (reg_sv (D := mkD ρ s0 rs.length) (L := Lt i) (k := kI ρ i) (run_oks R) (run_done R (by omega)) hr (Lt_self i) (Lt_an R hi) t ht).symm
omit R in
theorem opnd_tmp {r : DR} {t : Nat} (h : .tmp t ∈ r.op.opnds) : t ∈ r.tmps := by
  simp only [DR.tmps, List.mem_append, List.mem_filterMap]
  exact .inl ⟨_, h, rfl⟩

/-- What an operation's forerunners left is what it sees in the text's order. -/
theorem st_ho {i : Nat} {r : DR} (hr : rs[i]? = some r) {id : Nat} (h : okRefP s0.nx rs.length (anR rs i) (Δ i).es.ds id) : ((mkD ρ s0 rs.length).st rs s0 i (kI ρ i)).ho id = (Δ i).es.ds.ho id := by
  have hi := (List.getElem?_eq_some_iff.1 hr).1
  have I := inv_all R i (by omega)
  rw [seen R hi I, if_neg]
  rintro ⟨j, hj, e⟩
  have h1 := (List.mem_filter.1 hj)
  have h2 := (I.lo j).1 h1.1
  rcases h.2 with h3 | h3 | h3
  · omega
  · omega
  · have : id - s0.nx = j := by omega
    rw [this] at h3
    have h4 := h1.2
    rw [h3] at h4; cases h4

/-- One step of the ordered operations, which may come before or behind, does not change what is looked at. -/
theorem win_step {i : Nat} {r : DR} (hr : rs[i]? = some r) {id : Nat} (hlk : ((mainsI rs).any fun q => !anB rs q i && !anB rs i q) = true → (⟨i, anR rs i, id, (Δ i).lo.contains (id - s0.nx), r.op.rdC⟩ : Look) ∈ (Δ (i + 1)).ws)
    {q p : Nat} (hq : (mkD ρ s0 rs.length).main[q]? = some p) (h1 : anB rs p i = false) (h2 : anB rs i p = false) :
    HoEq r.op.rdC (((mkD ρ s0 rs.length).st rs s0 i (q + 1)).ho id) (((mkD ρ s0 rs.length).st rs s0 i q).ho id) := by
  have hi := (List.getElem?_eq_some_iff.1 hr).1
  obtain ⟨g1, g2, g3⟩ := main_get.1 hq
  have hwide : ((mainsI rs).any fun q => !anB rs q i && !anB rs i q) = true := by
    rw [List.any_eq_true]
    exact ⟨p, by simp [mainsI, g1, (mn_cls R g1 g2).1], by simp [h1, h2]⟩
  have hl := (ws_all R (i := i + 1) (by omega) (Nat.le_refl _)).1 _ (hlk hwide)
  have hp := past_in R g1 g2
  have hok := List.all_eq_true.1 (List.all_eq_true.1 R.look _ hl) _ hp
  simp only at hok
  have e1 : (anR rs i).contains p = false := h2
  have e2 : (anR rs p).contains i = false := h1
  rw [e1, e2, Bool.false_or, Bool.false_or] at hok
  have hkp : kI ρ (p + 1) = q + 1 := by
    have h5 := cnt_succ (fun i => (ρ i).mn) p
    rw [if_pos g2] at h5
    unfold kI at g3 ⊢
    omega
  split at hok
  · rename_i hout
    have hout : id < s0.nx ∨ s0.nx + rs.length ≤ id := by
      rw [Bool.or_eq_true] at hout
      rcases hout with h | h
      · exact .inl (by simpa [Nat.blt_eq] using h)
      · exact .inr (by simpa [Nat.ble_eq] using h)
    have hu : ∀ k, (mkD ρ s0 rs.length).unp rs s0 k id = none := fun k => by
      unfold RG.unp
      rw [if_neg (fun hc => by omega)]
    have hf : ∀ L k, (mkD ρ s0 rs.length).full rs s0 L k id = (mkD ρ s0 rs.length).H k id := fun L k => by
      unfold RG.full; rw [hu]
    show HoEq _ ((mkD ρ s0 rs.length).full rs s0 _ _ id) ((mkD ρ s0 rs.length).full rs s0 _ _ id)
    rw [hf, hf]
    have hs := look_eq hok
    have i1 := congrFun (inv_all R p (by omega)).ho id
    have i2 := congrFun (inv_all R (p + 1) (by omega)).ho id
    rw [hf] at i1 i2
    rw [g3] at i1
    rw [hkp] at i2
    rw [← i1, ← i2]
    exact hs.symm
  · rename_i hin
    rw [Bool.and_eq_true] at hok
    have hin' : s0.nx ≤ id ∧ id < s0.nx + rs.length := by
      rw [Bool.or_eq_true] at hin
      refine ⟨?_, ?_⟩
      · rcases Nat.lt_or_ge id s0.nx with h | h
        · exact absurd (.inl (by simpa [Nat.blt_eq] using h)) hin
        · exact h
      · rcases Nat.lt_or_ge id (s0.nx + rs.length) with h | h
        · exact h
        · exact absurd (.inr (by simpa [Nat.ble_eq] using h)) hin
    have hlo : id - s0.nx ∈ (Δ i).lo := by simpa using hok.1
    obtain ⟨l1, l2, l3⟩ := ((inv_all R i (by omega)).lo _).1 hlo
    have hpj : anB rs p (id - s0.nx) = false := by
      have : (!(anB rs p (id - s0.nx))) = true := hok.2
      simpa using this
    have hpr : (mkD ρ s0 rs.length).pr rs q (id - s0.nx) = false := by
      unfold RG.pr
      rw [List.any_eq_false]
      intro x hx
      obtain ⟨n, hn, rfl⟩ := List.mem_iff_getElem.1 hx
      rw [List.length_take] at hn
      have hm : (mkD ρ s0 rs.length).main[n]? = some ((mkD ρ s0 rs.length).main.take q)[n] := by
        rw [List.getElem_take]; exact List.getElem?_eq_getElem (by omega)
      have hch := (run_oks R).chain n q _ _ hm hq (by omega)
      intro h
      have := an_trans R.ok g1 hch h
      rw [hpj] at this; cases this
    have hu1 : (mkD ρ s0 rs.length).unp rs s0 q id = some (id - s0.nx) := by
      unfold RG.unp
      rw [if_pos ⟨hin'.1, hin'.2, l2, hpr⟩]
    have hu2 : (mkD ρ s0 rs.length).unp rs s0 (q + 1) id = some (id - s0.nx) := by
      unfold RG.unp
      rw [if_pos ⟨hin'.1, hin'.2, l2, by rw [pr_succ hq, hpr, hpj]; rfl⟩]
    refine HoEq.of ?_
    show (mkD ρ s0 rs.length).full rs s0 _ _ id = (mkD ρ s0 rs.length).full rs s0 _ _ id
    unfold RG.full
    rw [hu1, hu2]

/-- Which of the ordered operations may come before or behind. -/
theorem may_between {i : Nat} (hi : i < rs.length) {k : Nat} (h : (mkD ρ s0 rs.length).may rs i k) {q p : Nat} (hq : (mkD ρ s0 rs.length).main[q]? = some p) (hb : (kI ρ i ≤ q ∧ q < k) ∨ (k ≤ q ∧ q < kI ρ i)) : anB rs p i = false ∧ anB rs i p = false := by
  obtain ⟨g1, g2, g3⟩ := main_get.1 hq
  rcases hb with ⟨h1, h2⟩ | ⟨h1, h2⟩
  · refine ⟨h.2.1 q p h2 hq, ?_⟩
    cases hx : anB rs i p with
    | false => rfl
    | true =>
      have h3 := an_lt R.ok hi hx
      have : kI ρ p < kI ρ i := cnt_lt _ h3 g2
      omega
  · refine ⟨?_, h.2.2 q p h1 hq⟩
    cases hx : anB rs p i with
    | false => rfl
    | true =>
      have h3 := an_lt R.ok g1 hx
      have : kI ρ i ≤ kI ρ p := cnt_mono _ (by omega)
      omega
omit R in
theorem between {c : Bool} {f : Nat → Option DObj} {a b : Nat} (hab : a ≤ b) (h : ∀ q, a ≤ q → q < b → HoEq c (f (q + 1)) (f q)) : HoEq c (f b) (f a) := by
  induction hab with
  | refl => exact HoEq.of rfl
  | @step m hm ih =>
    exact (h m hm (Nat.lt_succ_self m)).trans (ih fun q h1 h2 => h q h1 (by omega))
theorem win {i : Nat} {r : DR} (hr : rs[i]? = some r) {id : Nat} (hlk : ((mainsI rs).any fun q => !anB rs q i && !anB rs i q) = true → (⟨i, anR rs i, id, (Δ i).lo.contains (id - s0.nx), r.op.rdC⟩ : Look) ∈ (Δ (i + 1)).ws)
    {k : Nat} (h : (mkD ρ s0 rs.length).may rs i k) : HoEq r.op.rdC (((mkD ρ s0 rs.length).st rs s0 i k).ho id) (((mkD ρ s0 rs.length).st rs s0 i (kI ρ i)).ho id) := by
  have hi := (List.getElem?_eq_some_iff.1 hr).1
  have hstep : ∀ q, (kI ρ i ≤ q ∧ q < k) ∨ (k ≤ q ∧ q < kI ρ i) → HoEq r.op.rdC (((mkD ρ s0 rs.length).st rs s0 i (q + 1)).ho id) (((mkD ρ s0 rs.length).st rs s0 i q).ho id) := fun q hb => by
    have hql : q < (mkD ρ s0 rs.length).main.length := by
      have h1 := h.1
      have h2 : kI ρ i ≤ (mkD ρ s0 rs.length).main.length := cnt_mono _ (Nat.le_of_lt hi)
      omega
    have hq := List.getElem?_eq_getElem hql
    obtain ⟨h1, h2⟩ := may_between R hi h hq hb
    exact win_step R hr hlk hq h1 h2
  rcases Nat.le_total (kI ρ i) k with hle | hle
  · exact between (f := fun q => ((mkD ρ s0 rs.length).st rs s0 i q).ho id) hle fun q h1 h2 => hstep q (.inl ⟨h1, h2⟩)
  · exact (between (f := fun q => ((mkD ρ s0 rs.length).st rs s0 i q).ho id) hle fun q h1 h2 => hstep q (.inr ⟨h1, h2⟩)).symm

theorem st_live {i : Nat} {r : DR} (hr : rs[i]? = some r) (hrf : ∀ id, opRefs (Δ i).es.ds r.op id → okRefP s0.nx rs.length (anR rs i) (Δ i).es.ds id) {k : Nat} (hk : ∀ id, opRefs (Δ i).es.ds r.op id → HoEq r.op.rdC (((mkD ρ s0 rs.length).st rs s0 i k).ho id) (((mkD ρ s0 rs.length).st rs s0 i (kI ρ i)).ho id)) :
    liveR ((mkD ρ s0 rs.length).st rs s0 i k) r ∧ Agree r.op (Δ i).es.ds ((mkD ρ s0 rs.length).st rs s0 i k) := by
  have hsv : ∀ t, .tmp t ∈ r.op.opnds → ((mkD ρ s0 rs.length).st rs s0 i k).sv t = (Δ i).es.ds.sv t := fun t ht => st_sv R hr k (opnd_tmp ht)
  have hho : ∀ id, opRefs (Δ i).es.ds r.op id → HoEq r.op.rdC (((mkD ρ s0 rs.length).st rs s0 i k).ho id) ((Δ i).es.ds.ho id) := fun id hid => (hk id hid).trans (HoEq.of (st_ho R hr (hrf id hid)))
  refine ⟨fun t ht => ?_, agree_of hsv hho⟩
  rw [hsv t ht]
  unfold DS.live
  rw [List.all_eq_true]
  intro id hid
  rw [(hho id ⟨t, ht, hid⟩).some]
  exact (hrf id ⟨t, ht, hid⟩).1

theorem run_ev (i : Nat) (r : DR) (hr : rs[i]? = some r) : (mkD ρ s0 rs.length).ev rs s0 P i r := by
  have hi := (List.getElem?_eq_some_iff.1 hr).1
  have I := inv_all R i (by omega)
  have hwe : ((mkD ρ s0 rs.length).st rs s0 i 0).wanted r.g = (Δ i).es.ds.wanted r.g := by
    unfold DS.wanted
    cases hg : r.g with
    | none => rfl
    | some p =>
      obtain ⟨t, b⟩ := p
      have := st_sv R hr 0 (t := t) (by simp [DR.tmps, hg])
      simp only [this]
  have hnm : (ρ i).mn = false → i ∉ (mkD ρ s0 rs.length).main := fun h hmem => by
    obtain ⟨k, hk⟩ := List.mem_iff_getElem?.1 hmem
    have := (main_get.1 hk).2.1
    rw [h] at this; cases this
  unfold RG.ev
  rw [hwe]
  have hs := semAt R hr
  have notcall : ∀ {nid : Nat} {d : DV} {u : Upd}, execU nid (Δ i).es.ds r.op = some (d, u) → (∀ f args, r.op ≠ .call f args) ∧ ∀ tb x args, r.op ≠ .cv tb x args := fun {nid d u} h => ⟨fun f args e => (by rw [e] at h; cases h), fun tb x args e => (by rw [e] at h; cases h)⟩
  have nonmain : ∀ {u0 : Upd}, (ρ i).mn = false → (Δ i).es.ds.wanted r.g = some true → execU (s0.nx + i) (Δ i).es.ds r.op = some ((ρ i).d, u0) → (∀ id, opRefs (Δ i).es.ds r.op id → okRefP s0.nx rs.length (anR rs i) (Δ i).es.ds id) →
      (∀ k, (mkD ρ s0 rs.length).may rs i k → (∀ id, opRefs (Δ i).es.ds r.op id → HoEq r.op.rdC (((mkD ρ s0 rs.length).st rs s0 i k).ho id) (((mkD ρ s0 rs.length).st rs s0 i (kI ρ i)).ho id)) ∧ match u0 with
          | .keep => (ρ i).lay = none ∧ (ρ i).tgt = none
          | .lay o => (ρ i).lay = some o ∧ (ρ i).tgt = none
          | .wr id o => ∃ j, (mkD ρ s0 rs.length).unp rs s0 k id = some j ∧ anB rs i j = true ∧ (ρ i).tgt = some j ∧ (ρ i).ob = o ∧ (ρ i).lay = none
          | _ => False) → (mkD ρ s0 rs.length).ev rs s0 P i r := fun {u0} hm hw hx hrf hk => by
    have hnc := notcall hx
    unfold RG.ev
    rw [hwe, hw]
    simp only
    have key : ∀ k, (mkD ρ s0 rs.length).may rs i k → liveR ((mkD ρ s0 rs.length).st rs s0 i k) r ∧ ∃ u, execU (s0.nx + i) ((mkD ρ s0 rs.length).st rs s0 i k) r.op = some ((mkD ρ s0 rs.length).d i, u) ∧ match u with
          | .keep => (mkD ρ s0 rs.length).lay i = none ∧ (mkD ρ s0 rs.length).tgt i = none
          | .lay o => (mkD ρ s0 rs.length).lay i = some o ∧ (mkD ρ s0 rs.length).tgt i = none
          | .wr id o => ∃ j, (mkD ρ s0 rs.length).unp rs s0 k id = some j ∧ anB rs i j = true ∧ (mkD ρ s0 rs.length).tgt i = some j ∧ (mkD ρ s0 rs.length).ob i = o ∧ (mkD ρ s0 rs.length).lay i = none
          | _ => False := fun k hmay => by
      obtain ⟨h1, h2⟩ := hk k hmay
      obtain ⟨h3, h4⟩ := st_live R hr hrf h1
      refine ⟨h3, u0, by rw [execU_congr h4]; exact hx, h2⟩
    split
    · rename_i f args ho; exact absurd ho (hnc.1 f args)
    · rename_i tb x args ho; exact absurd ho (hnc.2 tb x args)
    · exact .inr ⟨hnm hm, key⟩
  cases hs with
  | off hw hd hl ht hm he hlo hws hps => rw [hw]; exact ⟨hd, hl, ht, hnm hm⟩
  | read hw hrf hx hl ht hm he hlo hws hlk hps =>
    have := nonmain hm hw hx hrf fun k hmay => ⟨fun id hid => win R hr (fun h => hlk h id hid) hmay, hl, ht⟩
    unfold RG.ev at this
    rwa [hwe] at this
  | lay ob hw hrf hx hl ht hm he hlo hws hlk hps =>
    have := nonmain hm hw hx hrf fun k hmay => ⟨fun id hid => win R hr (fun h => hlk h id hid) hmay, hl, ht⟩
    unfold RG.ev at this
    rwa [hwe] at this
  | wr ob hw hc hrf hx hal hlt hant hl ht hob hm he hlo hws hps =>
    obtain ⟨g1, g2, g3⟩ := (I.lo _).1 hlt
    have g1' : tgtI rs r < i := g1
    have hunp : ∀ k, (mkD ρ s0 rs.length).may rs i k → (mkD ρ s0 rs.length).unp rs s0 k (s0.nx + tgtI rs r) = some (tgtI rs r) := fun k hmay => by
      have hpr : (mkD ρ s0 rs.length).pr rs k (tgtI rs r) = false := by
        unfold RG.pr
        rw [List.any_eq_false]
        intro x hx
        obtain ⟨n, hn, rfl⟩ := List.mem_iff_getElem.1 hx
        rw [List.length_take] at hn
        have hmn : (mkD ρ s0 rs.length).main[n]? = some ((mkD ρ s0 rs.length).main.take k)[n] := by
          rw [List.getElem_take]; exact List.getElem?_eq_getElem (by omega)
        obtain ⟨f1, f2, f3⟩ := main_get.1 hmn
        intro h
        rcases Nat.lt_or_ge n (kI ρ i) with hlt' | hge
        · have : (mkD ρ s0 rs.length).pr rs (kI ρ i) (tgtI rs r) = true := by
            unfold RG.pr
            rw [List.any_eq_true]
            refine ⟨_, List.mem_iff_getElem?.2 ⟨n, ?_⟩, h⟩
            rw [List.getElem?_take, if_pos hlt']; exact hmn
          have g3' : (mkD ρ s0 rs.length).pr rs (kI ρ i) (tgtI rs r) = false := g3
          rw [g3'] at this; cases this
        · obtain ⟨u1, u2⟩ := may_between R hi hmay hmn (.inl ⟨hge, by omega⟩)
          rcases (tgt_wr R ht).2.2 _ f1 h with h' | h' | h'
          · rw [u1] at h'; cases h'
          · rw [u2] at h'; cases h'
          · rw [← h'] at f2; rw [hm] at f2; cases f2
      unfold RG.unp
      have e' : s0.nx + tgtI rs r - s0.nx = tgtI rs r := by omega
      rw [e', if_pos ⟨by omega, by omega, g2, hpr⟩]
    have hmay0 : (mkD ρ s0 rs.length).may rs i (kI ρ i) := reg_may (D := mkD ρ s0 rs.length) (L := Lt i) (run_oks R) (run_done R (by omega)) (Lt_self i) (Lt_an R hi)
    have hfull : ∀ k, (mkD ρ s0 rs.length).may rs i k → ((mkD ρ s0 rs.length).st rs s0 i k).ho (s0.nx + tgtI rs r) = (mkD ρ s0 rs.length).cur rs (anB rs i) (tgtI rs r) := fun k hmay => by
      show (mkD ρ s0 rs.length).full rs s0 _ _ _ = _
      unfold RG.full
      rw [hunp k hmay]
      have ha : anB rs i (tgtI rs r) = true := hant
      simp only
      rw [if_pos ha]
    have := nonmain hm hw hx hrf fun k hmay => ⟨fun id hid => by
      have e : id = s0.nx + tgtI rs r := hal id hid
      exact HoEq.of (by rw [e, hfull k hmay, hfull _ hmay0]), ⟨_, hunp k hmay, hant, ht, hob, hl⟩⟩
    unfold RG.ev at this
    rwa [hwe] at this
  | main hid hs hhid hhs hw hc hrf hx hg hl ht hm he hlo hws hps =>
    rw [hw]
    simp only
    have hmi : (mkD ρ s0 rs.length).main[kI ρ i]? = some i := main_get.2 ⟨hi, hm, rfl⟩
    have hfn : ((List.range rs.length).filter fun i => (ρ i).mn)[kI ρ i]? = some i := hmi
    have hH : (mkD ρ s0 rs.length).H (kI ρ i + 1) = (ρ i).H := by
      show mkH ρ s0.ho ((List.range rs.length).filter fun i => (ρ i).mn) (kI ρ i + 1) = _
      simp only [mkH, hfn]
    have hN : (mkD ρ s0 rs.length).N (kI ρ i + 1) = (ρ i).N := by
      show mkN ρ (s0.nx + rs.length) ((List.range rs.length).filter fun i => (ρ i).mn) (kI ρ i + 1) = _
      simp only [mkN, hfn]
    have hnx := (nx_at R i (by omega)).1
    obtain ⟨hlv, _⟩ := st_live R hr hrf (k := kI ρ i) fun _ _ => HoEq.of rfl
    have hsho : hs.ho = ((mkD ρ s0 rs.length).st rs s0 i (kI ρ i)).ho := by
      funext id
      rw [seen R hi I, hhs, hhid]
    have hsnx : hs.nx = ((mkD ρ s0 rs.length).st rs s0 i (kI ρ i)).nx := by
      rw [hhs]
      exact hnx.symm
    have hssv : ∀ t, .tmp t ∈ r.op.opnds → ((mkD ρ s0 rs.length).st rs s0 i (kI ρ i)).sv t = hs.sv t := fun t htm => by
      rw [hhs]; exact st_sv R hr _ (opnd_tmp htm)
    have hag : Agree r.op hs ((mkD ρ s0 rs.length).st rs s0 i (kI ρ i)) := agree_of hssv fun id _ => HoEq.of (by rw [hsho])
    have hst : (⟨((mkD ρ s0 rs.length).st rs s0 i (kI ρ i)).sv, hs.ho, hs.nx⟩ : DS) = (mkD ρ s0 rs.length).st rs s0 i (kI ρ i) := by rw [hsho, hsnx]
    have hargs : ∀ (args : List Operand), (∀ x ∈ args, x ∈ r.op.opnds) → args.map ((mkD ρ s0 rs.length).st rs s0 i (kI ρ i)).rv = args.map hs.rv := fun args hsub => List.map_congr_left fun x hx => hag.rv x (hsub x hx)
    unfold MainOK at hx
    split
    · rename_i f args ho
      rw [ho] at hx
      simp only at hx
      refine ⟨kI ρ i, hmi, hlv, ?_⟩
      rw [hargs args (fun x hx => by rw [ho]; exact hx), hH, hN, ← hst]
      exact hx _
    · rename_i tb x args ho
      rw [ho] at hx
      simp only at hx
      obtain ⟨f, fr, cs, h1, h2⟩ := hx
      refine ⟨kI ρ i, f, fr, cs, hmi, hlv, ?_, ?_⟩
      · rw [hag.ev x (by rw [ho]; simp [DOp.opnds])]; exact h1
      · rw [hargs args (fun y hy => by rw [ho]; simp [DOp.opnds, hy]), hH, hN, ← hst]
        exact h2 _
    · rename_i hn2 hn3
      have hx' : ∃ u, hs.hasU u = true ∧ execU hs.nx hs r.op = some ((ρ i).d, u) ∧ (ρ i).H = u.app hs.nx hs.ho ∧ (ρ i).N = if u.new then hs.nx + 1 else hs.nx := by
        revert hx
        split
        · rename_i f args ho; exact absurd ho (hn2 f args)
        · rename_i tb x args ho; exact absurd ho (hn3 tb x args)
        · exact id
      obtain ⟨u, h1, h2, h3, h4⟩ := hx'
      refine .inl ⟨kI ρ i, u, hmi, hlv, ?_, ?_, ?_, ?_⟩
      · cases u with
        | wr id o => simp only [DS.hasU] at h1 ⊢; rw [← hsho]; exact h1
        | mv old o =>
          cases old with
          | none => rfl
          | some id => simp only [DS.hasU] at h1 ⊢; rw [← hsho]; exact h1
        | _ => rfl
      · have e : hs.nx = (mkD ρ s0 rs.length).N (kI ρ i) := hsnx
        rw [execU_congr hag, ← e]
        exact h2
      · have e : hs.nx = (mkD ρ s0 rs.length).N (kI ρ i) := hsnx
        rw [hH, h3, hsho, e]
      · have e : hs.nx = (mkD ρ s0 rs.length).N (kI ρ i) := hsnx
        rw [hN, h4, e]

theorem run_ok : (mkD ρ s0 rs.length).OK rs s0 P := { run_oks R with ev := run_ev R }
theorem run_end : (mkD ρ s0 rs.length).at_ rs s0 (fun _ => true) (mkD ρ s0 rs.length).main.length = (Δ rs.length).es.ds := by
  have I := inv_all R rs.length (Nat.le_refl _)
  have hN := (nx_at R rs.length (Nat.le_refl _)).1
  have hsv : (mkD ρ s0 rs.length).sv rs s0 (fun _ => true) = (mkD ρ s0 rs.length).sv rs s0 (Lt rs.length) := by
    funext t
    unfold RG.sv
    cases hp : rs.findIdx? (fun r => r.dst == some t) with
    | none => rfl
    | some p =>
      have : p < rs.length := (List.findIdx?_eq_some_iff_findIdx_eq.1 hp).1
      simp [Lt, this]
  have hho : (mkD ρ s0 rs.length).full rs s0 (fun _ => true) (kI ρ rs.length) = (mkD ρ s0 rs.length).full rs s0 (Lt rs.length) (kI ρ rs.length) := by
    funext id
    unfold RG.full
    cases hu : (mkD ρ s0 rs.length).unp rs s0 (kI ρ rs.length) id with
    | none => rfl
    | some j =>
      have hj := (unp_eq hu).2.1
      have hc : (mkD ρ s0 rs.length).cur rs (fun _ => true) j = (mkD ρ s0 rs.length).cur rs (Lt rs.length) j := by
        unfold RG.cur
        rw [lastW_congr (L := Lt rs.length) (L' := fun _ => true) fun w hw _ => by simp [Lt, hw]]
      simp [Lt, hj, hc]
  show (⟨_, _, _⟩ : DS) = _
  rw [main_len, hsv, hho, hN, ← I.sv, ← I.ho]
  rfl
end

/-- A region that draws its order. -/
theorem regE_ok {C : Ctx} {call : CallT} (hc : CallOK C.P call) (hm : C.P.follows .mixedOrders = true) {rs : List DR} {es es' : ES} (hok : (regInfo rs).ok = true) (h : regE rs.length (rundE rs (regInfo rs).l 0) call es = some es') (hfr : es.ds.Fr) :
    Gw es.ds es'.ds ∧ ∀ (info : RI) (Q : Exit → DS → Prop), Q .normal es'.ds → DW C (.reg true rs info) Q es.ds := by
  obtain ⟨Δ, ρ, R, rfl⟩ := run_of hc hok h hfr
  refine ⟨?_, fun info Q hQ => DW.regd (mkD ρ es.ds rs.length) hm (run_ok R) (by rw [run_end R]; exact hQ)⟩
  have key : ∀ i, i ≤ rs.length → ∀ id, es.ds.ho id = none → (Δ i).es.ds.ho id ≠ none → es.ds.nx ≤ id ∧ id < (Δ i).es.nx := by
    intro i
    induction i with
    | zero => intro _ id h1 h2; rw [R.z] at h2; exact absurd h1 h2
    | succ i ih =>
      intro hi id h1 h2
      have hn := (nx_at R i (by omega)).2.1
      obtain ⟨g1, g2⟩ := (semAt R (List.getElem?_eq_getElem (show i < rs.length by omega))).gw (by omega) hn
      cases h3 : (Δ i).es.ds.ho id with
      | none => exact g2 id h3 h2
      | some o =>
        have := ih (by omega) id h1 (by rw [h3]; simp)
        omega
  have hn := (nx_at R rs.length (Nat.le_refl _)).2.1
  exact ⟨by show es.ds.nx ≤ (Δ rs.length).es.nx; omega, key _ (Nat.le_refl _)⟩
end Go.DD
