/- Regions that draw their order, second part: the theorem. -/
import Derived.Test.YtpaggdhijeabnaaGreatDoorHl
namespace Go.DD
open Go.RowKit (Below)

theorem HoldsB.congr {C : Ctx} {U : Nat → Prop} {s s' : DS} {β : Nat → Option Nat} {a : Act} {w : World} (h : HoldsB C U s β a w) (h1 : s'.sv = s.sv) (h2 : s'.ho = s.ho) : HoldsB C U s' β a w := by
  have e : s'.vw C = s.vw C := by unfold DS.vw; rw [h2]
  obtain ⟨g1, g2, g3, g4, g5, g6⟩ := h
  exact ⟨by rw [e]; exact g1, g2, g3, by rw [e, h1]; exact g4, by rw [e]; exact g5, by rw [h2]; exact g6⟩

section
variable {C : Ctx} {rs : List DR} {s0 : DS} {D : RG} {L L' : Nat → Bool} {i k : Nat} {r : DR}

theorem anB_lt (hOK : D.OKs rs s0) {i j : Nat} (hi : i < rs.length) (h : anB rs i j = true) : j < i := by
  have key : ∀ (i : Nat), i < rs.length → ∀ j ∈ anR rs i, j < i := by
    intro i
    induction i using Nat.strongRecOn with
    | _ i ih =>
      intro hi j hj
      have hil : i < (ancs rs []).length := by rw [ancs_len]; simpa using hi
      have hr : rs[i]? = some rs[i] := List.getElem?_eq_getElem hi
      have hl : (ancs rs [])[i]? = some (anR rs i) := by simp [anR, List.getElem?_eq_getElem hil]
      rcases ancs_ok rs [] i rs[i] _ hr (fun k r' hk j hj => by have := hOK.pre k r' hk j hj; simp; omega) (by simpa using hl) j hj with h | ⟨x, hx, l', hl', hjx⟩
      · exact hOK.pre i _ hr j h
      · have h1 := hOK.pre i _ hr x hx
        have := ih x h1 (by omega) j (by simp only [anR, hl', Option.getD_some]; exact hjx)
        omega
  exact key i hi j (by simpa [anB] using h)

theorem lastW_some {tgt : Nat → Option Nat} {L : Nat → Bool} {j : Nat} : ∀ {n w : Nat}, lastW tgt L j n = some w → w < n ∧ tgt w = some j ∧ L w = true
  | 0, w, h => by cases h
  | n + 1, w, h => by
    simp only [lastW] at h
    split at h
    · rename_i hc; cases h; exact ⟨by omega, hc.1, hc.2⟩
    · have := lastW_some h; exact ⟨by omega, this.2⟩
theorem lastW_congr {tgt : Nat → Option Nat} {L L' : Nat → Bool} {j : Nat} : ∀ {n : Nat}, (∀ w, w < n → tgt w = some j → L' w = L w) → lastW tgt L' j n = lastW tgt L j n
  | 0, h => rfl
  | n + 1, h => by
    simp only [lastW]
    rw [lastW_congr (n := n) fun w hw => h w (by omega)]
    by_cases ht : tgt n = some j
    · rw [h n (by omega) ht]
    · simp [ht]
theorem lastW_top {tgt : Nat → Option Nat} {L : Nat → Bool} {j i : Nat} (ht : tgt i = some j) (hL : L i = true) : ∀ {n : Nat}, i < n → (∀ w, w < n → i < w → tgt w = some j → L w = false) → lastW tgt L j n = some i
  | 0, h, _ => by omega
  | n + 1, h, hl => by
    simp only [lastW]
    by_cases hn : i = n
    · subst hn; rw [if_pos ⟨ht, hL⟩]
    · have hc : ¬ (tgt n = some j ∧ L n = true) := fun ⟨h1, h2⟩ => by rw [hl n (by omega) (by omega) h1] at h2; cases h2
      rw [if_neg hc]
      exact lastW_top ht hL (by omega) fun w hw => hl w (by omega)
theorem cur_some {L : Nat → Bool} {j : Nat} (h : (D.lay j).isSome = true) : (D.cur rs L j).isSome = true := by
  unfold RG.cur
  split
  · rfl
  · exact h

/-- What must hold of the done operations: all that must come before is done; of those that stand in one order the first 'k' are. -/
structure Done (rs : List DR) (D : RG) (L : Nat → Bool) (k : Nat) : Prop where
  cl : ∀ i, i < rs.length → L i = true → ∀ j, anB rs i j = true → L j = true
  le : k ≤ D.main.length
  mn : ∀ (q j : Nat), D.main[q]? = some j → (L j = true ↔ q < k)

variable (hOK : D.OKs rs s0) (hD : Done rs D L k) (hr : rs[i]? = some r) (hi : L i = false) (han : ∀ j, anB rs i j = true → L j = true)
include hOK hr

omit hOK in
theorem ri_lt : i < rs.length := (List.getElem?_eq_some_iff.1 hr).1
include hD hi han
omit hr in
theorem reg_may : D.may rs i k := by
  refine ⟨hD.le, fun q j hq hj => ?_, fun q j hq hj => ?_⟩
  · cases h : anB rs j i with
    | false => rfl
    | true => have := hD.cl j (hOK.mlt q j hj).1 ((hD.mn q j hj).2 hq) i h; rw [hi] at this; cases this
  · cases h : anB rs i j with
    | false => rfl
    | true => have := (hD.mn q j hj).1 (han j h); omega

omit hr in
theorem reg_main {k0 : Nat} (h : D.main[k0]? = some i) : k0 = k := by
  have h1 : ¬ k0 < k := fun hlt => by have := (hD.mn k0 i h).2 hlt; rw [hi] at this; cases this
  rcases Nat.lt_or_ge k k0 with hlt | hge
  · have hk : k < D.main.length := by have := (List.getElem?_eq_some_iff.1 h).1; omega
    have hm : D.main[k]? = some D.main[k] := List.getElem?_eq_getElem hk
    have := (hD.mn k _ hm).1 (han _ (hOK.chain k k0 _ _ hm h hlt))
    omega
  · omega

theorem reg_sv (t : Nat) (ht : t ∈ r.tmps) : D.sv rs s0 L t = D.sv rs s0 (anB rs i) t := by
  unfold RG.sv
  cases hp : rs.findIdx? (fun r => r.dst == some t) with
  | none => rfl
  | some p =>
    simp only
    have hpl : p < rs.length := (List.findIdx?_eq_some_iff_findIdx_eq.1 hp).1
    rcases hOK.rd i r t p hr ht hp with h | h | rfl
    · rw [if_pos (han p h), if_pos h]
    · have h1 : anB rs i p = false := by
        cases hx : anB rs i p with
        | false => rfl
        | true =>
          have h2 := anB_lt hOK (ri_lt hr) hx
          have h3 := anB_lt hOK hpl h
          omega
      have h2 : L p = false := by
        cases hx : L p with
        | false => rfl
        | true => have := hD.cl p hpl hx i h; rw [hi] at this; cases this
      rw [h1, h2]
    · have h1 : anB rs p p = false := by
        cases hx : anB rs p p with
        | false => rfl
        | true => have := anB_lt hOK (ri_lt hr) hx; omega
      rw [h1, hi]

/-- What lies by itself is, for an operation that comes, as its forerunners left it. -/
theorem cur_view {j : Nat} (ha : anB rs i j = true) : D.cur rs (anB rs i) j = D.cur rs L j := by
  unfold RG.cur
  rw [lastW_congr (L := L) (L' := anB rs i) fun w hw ht => ?_]
  rcases hOK.wr2 i j w (ri_lt hr) hw ha ht with h | h | rfl
  · rw [h, han w h]
  · have h1 : L w = false := by
      cases hx : L w with
      | false => rfl
      | true => have := hD.cl w hw hx i h; rw [hi] at this; cases this
    have h2 : anB rs i w = false := by
      cases hx : anB rs i w with
      | false => rfl
      | true => have := han w hx; rw [h1] at this; cases this
    rw [h1, h2]
  · have h2 : anB rs w w = false := by
      cases hx : anB rs w w with
      | false => rfl
      | true => have := anB_lt hOK hw hx; omega
    rw [h2, hi]

theorem reg_full {id : Nat} {o : DObj} (h : D.full rs s0 (anB rs i) k id = some o) : D.full rs s0 L k id = some o := by
  unfold RG.full at h ⊢
  split at h
  · rename_i j hj
    split at h
    · rename_i ha; rw [if_pos (han j ha), ← cur_view hOK hD hr hi han ha]; exact h
    · cases h
  · exact h

theorem reg_wanted : (D.at_ rs s0 L k).wanted r.g = (D.st rs s0 i 0).wanted r.g := by
  unfold DS.wanted
  cases hg : r.g with
  | none => rfl
  | some p =>
    obtain ⟨t, b⟩ := p
    have := reg_sv hOK hD hr hi han t (by simp [DR.tmps, hg])
    simp only [RG.st, RG.at_, this]

theorem reg_agree (hl : liveR (D.st rs s0 i k) r) : Agree r.op (D.st rs s0 i k) (D.at_ rs s0 L k) := by
  have hev : ∀ x ∈ r.op.opnds, (D.at_ rs s0 L k).ev x = (D.st rs s0 i k).ev x := fun x hx => by
    cases x with
    | tmp t =>
      have h1 : D.sv rs s0 L t = D.sv rs s0 (anB rs i) t := reg_sv hOK hD hr hi han t (by
        simp only [DR.tmps, List.mem_append, List.mem_filterMap]
        exact .inl ⟨_, hx, rfl⟩)
      have h2 := hl t hx
      have h3 : (D.at_ rs s0 L k).live ((D.at_ rs s0 L k).sv t) = true := by
        have e : (D.at_ rs s0 L k).sv t = (D.st rs s0 i k).sv t := h1
        rw [e]
        refine List.all_eq_true.2 fun id hid => ?_
        have h4 := List.all_eq_true.1 h2 id hid
        obtain ⟨o, ho⟩ := Option.isSome_iff_exists.1 h4
        have := reg_full hOK hD hr hi han (id := id) (o := o) ho
        show (D.full rs s0 L k id).isSome = true
        rw [this]; rfl
      simp only [DS.ev]
      rw [if_pos h3, if_pos h2]
      exact h1
    | _ => rfl
  have hrv : ∀ x ∈ r.op.opnds, (D.at_ rs s0 L k).rv x = (D.st rs s0 i k).rv x := fun x hx => by
    cases x with
    | tmp t => exact reg_sv hOK hD hr hi han t (by
        simp only [DR.tmps, List.mem_append, List.mem_filterMap]
        exact .inl ⟨_, hx, rfl⟩)
    | _ => rfl
  refine ⟨hev, hrv, fun _ x hx id hid => ?_⟩
  have h4 := HoldsB.eva (s := D.st rs s0 i k) x id hid
  obtain ⟨o, ho⟩ := Option.isSome_iff_exists.1 h4
  have := reg_full hOK hD hr hi han (id := id) (o := o) ho
  exact this.trans ho.symm

omit hD hi han in
theorem reg_put (hL' : ∀ j, L' j = (j == i || L j)) (k' : Nat) (s : DS) (hs : s.sv = D.sv rs s0 L) (hh : s.ho = D.full rs s0 L' k') : (D.at_ rs s0 L' k').sv = (s.put r.dst (D.d i)).sv ∧ (D.at_ rs s0 L' k').ho = (s.put r.dst (D.d i)).ho := by
  refine ⟨?_, by rw [DS.ho_put, hh]; rfl⟩
  funext t
  show D.sv rs s0 L' t = _
  have hdst : ∀ p, rs.findIdx? (fun r => r.dst == some t) = some p → ∃ r', rs[p]? = some r' ∧ r'.dst = some t := fun p hp => by
    obtain ⟨h1, h2⟩ := List.findIdx?_eq_some_iff_findIdx_eq.1 hp
    have h3 := List.findIdx_getElem (xs := rs) (p := fun r => r.dst == some t) (w := by omega)
    subst h2
    exact ⟨_, List.getElem?_eq_getElem h1, by simpa using h3⟩
  have hother : r.dst ≠ some t → D.sv rs s0 L' t = D.sv rs s0 L t := fun hne => by
    unfold RG.sv
    cases hp : rs.findIdx? (fun r => r.dst == some t) with
    | none => rfl
    | some p =>
      obtain ⟨r', h1, h2⟩ := hdst p hp
      have hpi : p ≠ i := fun e => by subst e; rw [hr] at h1; cases h1; exact hne h2
      simp [hL', hpi]
  cases hd : r.dst with
  | none =>
    rw [hother (by rw [hd]; simp)]
    show _ = s.sv t
    rw [hs]
  | some u =>
    by_cases hu : u = t
    · subst hu
      rw [DS.sv_put_same]
      unfold RG.sv
      cases hp : rs.findIdx? (fun r => r.dst == some u) with
      | none =>
        have := List.findIdx?_eq_none_iff.1 hp r (List.mem_of_getElem? hr)
        simp [hd] at this
      | some p =>
        obtain ⟨r', h1, h2⟩ := hdst p hp
        have : p = i := hOK.dst p i r' r u h1 hr h2 hd
        subst this
        simp [hL']
    · rw [DS.sv_put_other _ _ hu, hother (by rw [hd]; simpa using hu), hs]

omit hr hi han in
theorem reg_unp_lay {j : Nat} (hj : D.lay j ≠ none) (hjl : j < rs.length) (hLj : L j = false) : D.unp rs s0 k (s0.nx + j) = some j := by
  unfold RG.unp
  have e : s0.nx + j - s0.nx = j := by omega
  rw [e]
  rw [if_pos]
  refine ⟨by omega, by omega, Option.isSome_iff_ne_none.2 hj, ?_⟩
  cases h : D.pr rs k j with
  | false => rfl
  | true =>
    unfold RG.pr at h
    obtain ⟨q, hq, hqa⟩ := List.any_eq_true.1 h
    obtain ⟨p, hp, rfl⟩ := List.mem_iff_getElem.1 hq
    have hpk : p < k ∧ p < D.main.length := by rw [List.length_take] at hp; omega
    have hm : D.main[p]? = some (D.main.take k)[p] := by
      rw [List.getElem_take]; exact List.getElem?_eq_getElem hpk.2
    have := hD.cl _ (hOK.mlt p _ hm).1 ((hD.mn p _ hm).2 hpk.1) j hqa
    rw [hLj] at this; cases this

omit hOK hD hr hi han in
theorem unp_eq {id j : Nat} (h : D.unp rs s0 k id = some j) : id = s0.nx + j ∧ j < rs.length ∧ (D.lay j).isSome = true ∧ D.pr rs k j = false := by
  unfold RG.unp at h
  split at h
  · rename_i hc
    cases h
    exact ⟨by omega, by omega, hc.2.2.1, hc.2.2.2⟩
  · cases h

omit hOK hD hr hi han in
theorem cur_keep (hL' : ∀ j, L' j = (j == i || L j)) {j : Nat} (ht : D.tgt i ≠ some j) : D.cur rs L' j = D.cur rs L j := by
  unfold RG.cur
  rw [lastW_congr (L := L) (L' := L') fun w _ hw => by
    have hwi : w ≠ i := fun e => ht (by rw [← e]; exact hw)
    rw [hL', beq_eq_false_iff_ne.2 hwi, Bool.false_or]]

omit han in
theorem full_lay (hL' : ∀ j, L' j = (j == i || L j)) {o : DObj} (ho : D.lay i = some o) (ht : D.tgt i = none) : D.full rs s0 L' k = setH (D.full rs s0 L k) (s0.nx + i) (some o) := by
  funext id
  by_cases hid : id = s0.nx + i
  · subst hid
    rw [setH_same]
    unfold RG.full
    rw [reg_unp_lay hOK hD (by rw [ho]; simp) (ri_lt hr) hi]
    have hc : D.cur rs L' i = some o := by
      unfold RG.cur
      cases hl : lastW D.tgt L' i rs.length with
      | none => exact ho
      | some w =>
        exfalso
        obtain ⟨h1, h2, h3⟩ := lastW_some hl
        have hwi : w ≠ i := fun e => by rw [e, ht] at h2; cases h2
        rw [hL', beq_eq_false_iff_ne.2 hwi, Bool.false_or] at h3
        have := hD.cl w h1 h3 i (hOK.wr1 w i h2)
        rw [hi] at this; cases this
    simp [hL', hc]
  · rw [setH_other _ _ hid]
    unfold RG.full
    cases hu : D.unp rs s0 k id with
    | none => rfl
    | some j =>
      have hji : j ≠ i := fun e => hid (by rw [(unp_eq hu).1, e])
      simp only [cur_keep hL' (j := j) (by rw [ht]; simp)]
      simp [hL', hji]

/-- .. a write to it. -/
theorem full_wr (hL' : ∀ j, L' j = (j == i || L j)) {id0 j : Nat} (hu0 : D.unp rs s0 k id0 = some j) (ha : anB rs i j = true) (ht : D.tgt i = some j) (hlay : D.lay i = none) : D.full rs s0 L' k = setH (D.full rs s0 L k) id0 (some (D.ob i)) := by
  funext id
  by_cases hid : id = id0
  · subst hid
    rw [setH_same]
    unfold RG.full
    rw [hu0]
    have hLj : L' j = true := by rw [hL', han j ha]; simp
    have hc : D.cur rs L' j = some (D.ob i) := by
      unfold RG.cur
      rw [lastW_top ht (by rw [hL']; simp) (ri_lt hr) fun w hw hiw hwt => ?_]
      rw [hL', beq_eq_false_iff_ne.2 (by omega), Bool.false_or]
      cases hx : L w with
      | false => rfl
      | true =>
        rcases hOK.wr2 i j w (ri_lt hr) hw ha hwt with h | h | h
        · have := anB_lt hOK (ri_lt hr) h; omega
        · have := hD.cl w hw hx i h; rw [hi] at this; cases this
        · omega
    simp [hLj, hc]
  · rw [setH_other _ _ hid]
    unfold RG.full
    cases hu : D.unp rs s0 k id with
    | none => rfl
    | some j' =>
      have hjj : j' ≠ j := fun e => hid (by rw [(unp_eq hu).1, (unp_eq hu0).1, e])
      have hji : j' ≠ i := fun e => by have := (unp_eq hu).2.2.1; rw [e, hlay] at this; cases this
      simp only [cur_keep hL' (j := j') (by rw [ht]; simpa using fun e => hjj e.symm)]
      simp [hL', hji]

omit hOK hD hr hi han in
theorem full_keep (hL' : ∀ j, L' j = (j == i || L j)) (ho : D.lay i = none) (ht : D.tgt i = none) : D.full rs s0 L' k = D.full rs s0 L k := by
  funext id
  unfold RG.full
  cases hu : D.unp rs s0 k id with
  | none => rfl
  | some j =>
    have hji : j ≠ i := fun e => by have := (unp_eq hu).2.2.1; rw [e, ho] at this; cases this
    simp only [cur_keep hL' (j := j) (by rw [ht]; simp)]
    simp [hL', hji]

omit hOK hD hr hi han in
theorem pr_succ (hm : D.main[k]? = some i) (j : Nat) : D.pr rs (k + 1) j = (D.pr rs k j || anB rs i j) := by
  unfold RG.pr
  rw [List.take_add_one, hm]
  simp

omit hOK hD hr hi han in
/-- The objects behind one of the ordered operations. -/
theorem full_main (hL' : ∀ j, L' j = (j == i || L j)) (hm : D.main[k]? = some i) (hlay : D.lay i = none) (ht : D.tgt i = none) (id : Nat) : D.full rs s0 L' (k + 1) id = match D.unp rs s0 k id with
    | some j => if anB rs i j then D.H (k + 1) id else if L j then D.cur rs L j else none
    | none => D.H (k + 1) id := by
  cases hu : D.unp rs s0 k id with
  | none =>
    have : D.unp rs s0 (k + 1) id = none := by
      cases h : D.unp rs s0 (k + 1) id with
      | none => rfl
      | some j =>
        obtain ⟨e1, e2, e3, e4⟩ := unp_eq h
        rw [pr_succ hm, Bool.or_eq_false_iff] at e4
        have : D.unp rs s0 k id = some j := by
          unfold RG.unp
          have e : id - s0.nx = j := by omega
          rw [e, if_pos ⟨by omega, by omega, e3, e4.1⟩]
        rw [hu] at this; cases this
    unfold RG.full
    rw [this]
  | some j =>
    obtain ⟨e1, e2, e3, e4⟩ := unp_eq hu
    have e : id - s0.nx = j := by omega
    simp only
    by_cases ha : anB rs i j = true
    · rw [if_pos ha]
      have : D.unp rs s0 (k + 1) id = none := by
        unfold RG.unp
        rw [e, if_neg (fun hc => by rw [pr_succ hm, ha] at hc; simp at hc)]
      unfold RG.full
      rw [this]
    · rw [if_neg ha]
      have : D.unp rs s0 (k + 1) id = some j := by
        unfold RG.unp
        rw [e, if_pos ⟨by omega, by omega, e3, by rw [pr_succ hm, e4]; simpa using ha⟩]
      unfold RG.full
      rw [this]
      have hji : j ≠ i := fun e => by rw [e, hlay] at e3; cases e3
      simp only [cur_keep hL' (j := j) (by rw [ht]; simp)]
      simp [hL', hji]

theorem full_view (id : Nat) : D.full rs s0 (anB rs i) k id = match D.unp rs s0 k id with
    | some j => if anB rs i j then D.full rs s0 L k id else none
    | none => D.full rs s0 L k id := by
  unfold RG.full
  cases hu : D.unp rs s0 k id with
  | none => rfl
  | some j =>
    simp only
    by_cases ha : anB rs i j = true
    · rw [if_pos ha, if_pos ha, if_pos (han j ha), cur_view hOK hD hr hi han ha]
    · rw [if_neg ha, if_neg ha]

theorem full_app (hL' : ∀ j, L' j = (j == i || L j)) (hm : D.main[k]? = some i) (hlay : D.lay i = none) (ht : D.tgt i = none) {u : Upd} (hN : s0.nx + rs.length ≤ D.N k) (hU : (D.st rs s0 i k).hasU u = true)
    (hH : D.H (k + 1) = u.app (D.N k) (D.st rs s0 i k).ho) : D.full rs s0 L' (k + 1) = u.app (D.N k) (D.full rs s0 L k) := by
  have hunpN : D.unp rs s0 k (D.N k) = none := by
    unfold RG.unp
    rw [if_neg]
    intro hc; omega
  have hview := full_view (D := D) (rs := rs) (s0 := s0) (L := L) (k := k) hOK hD hr hi han
  have hst : (D.st rs s0 i k).ho = D.full rs s0 (anB rs i) k := rfl
  rw [hst] at hH
  funext id
  rw [full_main hL' hm hlay ht]
  have hbase : ∀ id, (match D.unp rs s0 k id with
    | some j => if anB rs i j then D.full rs s0 (anB rs i) k id else if L j then D.cur rs L j else none
    | none => D.full rs s0 (anB rs i) k id) = D.full rs s0 L k id := fun id => by
    rw [hview id]
    cases hu : D.unp rs s0 k id with
    | none => rfl
    | some j =>
      simp only
      by_cases ha : anB rs i j = true
      · rw [if_pos ha, if_pos ha]
      · rw [if_neg ha]; unfold RG.full; rw [hu]
  have hseen : ∀ id0, (D.full rs s0 (anB rs i) k id0).isSome = true → ∀ j, D.unp rs s0 k id0 = some j → anB rs i j = true := fun id0 h j hj => by
    rw [hview, hj] at h
    simp only at h
    split at h
    · assumption
    · cases h
  -- a change at one number
  have hset : ∀ (ho ho' : Nat → Option DObj) (id0 : Nat) (x : Option DObj), (∀ j, D.unp rs s0 k id0 = some j → anB rs i j = true) →
      (∀ id, (match D.unp rs s0 k id with
        | some j => if anB rs i j then ho id else if L j then D.cur rs L j else none
        | none => ho id) = ho' id) →
      ∀ id, (match D.unp rs s0 k id with
        | some j => if anB rs i j then setH ho id0 x id else if L j then D.cur rs L j else none
        | none => setH ho id0 x id) = setH ho' id0 x id := fun ho ho' id0 x h1 h2 id => by
    by_cases he : id = id0
    · subst he
      rw [setH_same, setH_same]
      cases hu : D.unp rs s0 k id with
      | none => rfl
      | some j => simp only; rw [if_pos (h1 j hu)]
    · rw [setH_other _ _ he, setH_other _ _ he]; exact h2 id
  rw [hH]
  cases u with
  | keep => exact hbase id
  | lay o => exact hset _ _ _ _ (fun j hj => by rw [hunpN] at hj; cases hj) hbase id
  | wr id0 o => exact hset _ _ _ _ (hseen id0 hU) hbase id
  | mv old o =>
    cases old with
    | none => exact hset _ _ _ _ (fun j hj => by rw [hunpN] at hj; cases hj) hbase id
    | some id0 => exact hset _ _ _ _ (fun j hj => by rw [hunpN] at hj; cases hj) (hset _ _ _ _ (hseen id0 hU) hbase) id
end

/-- The numbers that are given while a region is run. -/
def Ur (C : Ctx) (rs : List DR) (s0 : DS) (D : RG) (L : Nat → Bool) (k id : Nat) : Prop := id < D.N k ∧ ¬ (C.R id ∨ (s0.nx ≤ id ∧ id < s0.nx + rs.length ∧ L (id - s0.nx) = false))

theorem N_ge {rs : List DR} {s0 : DS} {D : RG} (hOK : D.OKs rs s0) : ∀ k, s0.nx + rs.length ≤ D.N k
  | 0 => by rw [hOK.n0]; omega
  | k + 1 => Nat.le_trans (N_ge hOK k) (hOK.mono k)

theorem wpIn_exec {C : Ctx} {U : Nat → Prop} {a : Act} {w : World} {o : Oper} {d : DV} {s' : DS} {next : Act → World → Prop} {Q : Exit → Act → World → Prop} (hnd : ∀ c, o.op ≠ .defer c) (h : OpOk C U a w o d s')
    (hnext : ∀ β' w' x, HoldsB C U s' β' a w' → WV C U (s'.vw C) β' w' x d → next (a.put o.dst x) w') : o.wpIn C.F 0 C.P a w next Q := by
  obtain ⟨nx, w', β', x, h1, h2, h3, h4⟩ := h
  refine ⟨fun _ _ => trivial, ?_⟩
  rw [Oper.semAt_plain _ _ _ hnd, h1]
  rcases h2 with rfl | ⟨rfl, rfl⟩
  · exact hnext β' w' x h3 h4
  · exact hnext β' w' undef h3 h4

theorem wpIn_call {C : Ctx} {a : Act} {w : World} {o : Oper} {f : FuncId} {vs : Array Value} {R : Ending → World → Prop} {next : Act → World → Prop} {Q : Exit → Act → World → Prop} (hnd : ∀ c, o.op ≠ .defer c)
    (hrun : (execOp a.eval o).run C.P w = .ok (.enter f vs) w) (hc : Calls C.P f vs w R) (hnext : ∀ e w', R e w' → ∃ v, e = .returned v ∧ next (a.put o.dst v) w') : o.wpIn C.F 0 C.P a w next Q := by
  refine ⟨fun _ _ => trivial, ?_⟩
  rw [Oper.semAt_plain _ _ _ hnd, hrun, Oper.uponIn_enter]
  refine ⟨fun h => by simp [Ctx.F, Fence.wide] at h, calls_in (hc.mono ?_)⟩
  intro e w' h
  obtain ⟨v, rfl, hn⟩ := hnext e w' h
  exact hn

/-- One operation of the region. -/
theorem reg_step {C : Ctx} {rs : List DR} {s0 : DS} {D : RG} {L L' : Nat → Bool} {i k : Nat} {r : DR} {ops : Array Oper} {o : Oper} {a : Act} {w : World} {β : Nat → Option Nat} {next : Act → World → Prop} {Q : Exit → Act → World → Prop}
    (hOK1 : D.OK rs s0 C.P) (hD : Done rs D L k) (hr : rs[i]? = some r) (hi : L i = false) (han : ∀ j, anB rs i j = true → L j = true) (hL' : ∀ j, L' j = (j == i || L j)) (hR : ∀ id, C.R id → id < s0.nx)
    (hc : compR C.P C.nt true ops o = some r) (hs : HoldsB C (Ur C rs s0 D L k) (D.at_ rs s0 L k) β a w)
    (hnext : ∀ k' β' a' w', Done rs D L' k' → HoldsB C (Ur C rs s0 D L' k') (D.at_ rs s0 L' k') β' a' w' → next a' w') :
    ∃ b, Region.wanted o (yielded ops a.tmps) = b ∧ (b = true → o.wpIn C.F 0 C.P a w next Q) ∧ (b = false → next (a.put o.dst undef) w) := by
  obtain ⟨hd, hdlt, hop⟩ := compR_op hc
  have hOK := hOK1.toOKs
  have hev := hOK1.ev i r hr
  unfold RG.ev at hev
  rw [← reg_wanted hOK hD hr hi han (k := k)] at hev
  have hUgrow : ∀ k', D.N k ≤ D.N k' → ∀ id, Ur C rs s0 D L k id → Ur C rs s0 D L' k' id := fun k' hk id ⟨h1, h2⟩ => by
    refine ⟨by omega, fun h => h2 ?_⟩
    rcases h with h | ⟨g1, g2, g3⟩
    · exact .inl h
    · refine .inr ⟨g1, g2, ?_⟩
      rw [hL'] at g3
      exact (Bool.or_eq_false_iff.1 g3).2
  have hDfree : i ∉ D.main → Done rs D L' k := fun hn => by
    refine ⟨fun j hj hLj x hx => ?_, hD.le, fun q j hq => ?_⟩
    · rw [hL'] at hLj ⊢
      rcases Bool.or_eq_true_iff.1 hLj with h | h
      · have : j = i := by simpa using h
        subst this
        rw [han x hx]; simp
      · rw [hD.cl j hj h x hx]; simp
    · have hji : j ≠ i := fun e => hn (by rw [← e]; exact List.mem_of_getElem? hq)
      rw [hL']; simp only [beq_eq_false_iff_ne.2 hji, Bool.false_or]
      exact hD.mn q j hq
  have hDmain : D.main[k]? = some i → Done rs D L' (k + 1) := fun hm => by
    refine ⟨fun j hj hLj x hx => ?_, by have := (List.getElem?_eq_some_iff.1 hm).1; omega, fun q j hq => ?_⟩
    · rw [hL'] at hLj ⊢
      rcases Bool.or_eq_true_iff.1 hLj with h | h
      · have : j = i := by simpa using h
        subst this
        rw [han x hx]; simp
      · rw [hD.cl j hj h x hx]; simp
    · rw [hL']
      by_cases hji : j = i
      · subst hji
        have : q = k := reg_main hOK hD hi han hq
        simp; omega
      · simp only [beq_eq_false_iff_ne.2 hji, Bool.false_or]
        rw [hD.mn q j hq]
        have : q ≠ k := fun e => hji (by rw [e, hm] at hq; exact (Option.some.inj hq).symm)
        omega
  -- what the next state is
  have hput : ∀ (k' : Nat) (s' : DS) (β' : Nat → Option Nat) (w' : World) (x : Value), Done rs D L' k' → s'.sv = D.sv rs s0 L → s'.ho = D.full rs s0 L' k' → HoldsB C (Ur C rs s0 D L' k') s' β' a w' → WV C (Ur C rs s0 D L' k') (s'.vw C) β' w' x (D.d i) → next (a.put o.dst x) w' :=
    fun k' s' β' w' x h1 h2 h3 h4 h5 => by
      rw [← hd]
      obtain ⟨e1, e2⟩ := reg_put hOK hr hL' k' s' h2 h3
      exact hnext k' β' _ w' h1 ((h4.put r.dst hdlt h5).congr e1 e2)
  cases hw : (D.at_ rs s0 L k).wanted r.g with
  | none => rw [hw] at hev; exact hev.elim
  | some b =>
    refine ⟨b, wanted_ok hs hc hw, fun hb => ?_, fun hb => ?_⟩
    · subst hb
      rw [hw] at hev
      simp only at hev
      have hnd : ∀ c, o.op ≠ .defer c := fun c hcd => by
        rw [hcd, compOp_defer] at hop
        simp only [Option.getD_none] at hop
        rw [hop] at hev
        simp only [execU] at hev
        rcases hev with ⟨k, u, h⟩ | ⟨h1, h2⟩
        · simp at h
        · obtain ⟨_, u, h, _⟩ := h2 k (reg_may hOK hD hi han)
          cases h
      -- calls
      have hcallM : ∀ (f : FuncId) (vs : List Value) (ds : List DV), D.main[k]? = some i → vs.length = ds.length → (∀ (j : Nat) (v : Value) (d : DV), vs[j]? = some v → ds[j]? = some d → WV C (Ur C rs s0 D L k) ((D.at_ rs s0 L k).vw C) β w v d) →
          callM C.P f ds (D.st rs s0 i k) (D.d i) (D.H (k + 1)) (D.N (k + 1)) → (callable C.P f = true → (execOp a.eval o).run C.P w = .ok (.enter f vs.toArray) w) → o.wpIn C.F 0 C.P a w next Q := by
        intro f vs ds hm hl hrel ⟨hcb, hcm⟩ hrun
        have hlay := (hOK.mlt k i hm).2.1
        have hta := (hOK.mlt k i hm).2.2
        rcases hcm with hcm | ⟨hH, hN, himm, hcall⟩
        · -- in place: what lies by itself is hidden
          let hid : Nat → Option DObj := fun id => match D.unp rs s0 k id with
            | some j => if L j = true ∧ anB rs i j = false then D.cur rs L j else none
            | none => none
          have hsplit : (D.at_ rs s0 L k).ho = vwF hid (D.full rs s0 (anB rs i) k) := by
            funext id
            show D.full rs s0 L k id = _
            unfold vwF
            rw [full_view (L := L) hOK hD hr hi han]
            simp only [hid]
            cases hu : D.unp rs s0 k id with
            | none => simp only; cases D.full rs s0 L k id <;> rfl
            | some j =>
              simp only
              by_cases ha : anB rs i j = true
              · rw [if_pos ha]
                have : D.full rs s0 L k id = D.cur rs L j := by unfold RG.full; rw [hu]; simp [han j ha]
                rw [this]
                obtain ⟨o', ho'⟩ := Option.isSome_iff_exists.1 (cur_some (rs := rs) (L := L) (unp_eq hu).2.2.1)
                rw [ho']
              · rw [if_neg ha]
                simp only
                unfold RG.full; rw [hu]
                have ha' : anB rs i j = false := by simpa using ha
                simp [ha']
          have hdis : ∀ id o, hid id = some o → D.full rs s0 (anB rs i) k id = none := fun id o' h => by
            simp only [hid] at h
            split at h
            · rename_i j hu
              split at h
              · rename_i hc'
                unfold RG.full; rw [hu]; simp [hc'.2]
              · cases h
            · cases h
          have hcl := callF_ok (vis := D.full rs s0 (anB rs i) k) (hid := hid) (R := fun id => C.R id ∨ (s0.nx ≤ id ∧ id < s0.nx + rs.length ∧ L (id - s0.nx) = false)) (K := fun s' d' => d' = D.d i ∧ s'.ho = D.H (k + 1) ∧ s'.nx = D.N (k + 1)) (f := f) (ds := ds) (vs := vs)
            hs (fun _ => Iff.rfl) (fun id h => by
              have := N_ge hOK k
              show id < D.N k
              rcases h with h | h
              · have := hR id h; omega
              · omega) hsplit hdis hl hrel hcm
          refine wpIn_call hnd (hrun hcb) hcl ?_
          rintro e w' ⟨v, d, ho', nx', β', rfl, ⟨rfl, hho, hnx⟩, hhid, _, hh, hv⟩
          simp only at hho hnx
          subst hho hnx
          refine ⟨v, rfl, ?_⟩
          have hg : ∀ id, (id < D.N (k + 1) ∧ ¬ (C.R id ∨ (s0.nx ≤ id ∧ id < s0.nx + rs.length ∧ L (id - s0.nx) = false))) → Ur C rs s0 D L' (k + 1) id := fun id ⟨h1, h2⟩ =>
            ⟨h1, fun h => h2 (h.imp_right fun ⟨g1, g2, g3⟩ => ⟨g1, g2, by rw [hL'] at g3; exact (Bool.or_eq_false_iff.1 g3).2⟩)⟩
          refine hput (k + 1) ⟨D.sv rs s0 L, vwF hid (D.H (k + 1)), D.N (k + 1)⟩ β' w' v (hDmain hm) rfl ?_ (hh.grow hg) (hv.grow hg)
          funext id
          rw [full_main hL' hm hlay hta]
          show vwF hid (D.H (k + 1)) id = _
          unfold vwF
          cases hu : D.unp rs s0 k id with
          | none =>
            have : hid id = none := by simp only [hid, hu]
            rw [this]; simp only; cases D.H (k + 1) id <;> rfl
          | some j =>
            simp only
            by_cases ha : anB rs i j = true
            · rw [if_pos ha]
              have : hid id = none := by simp only [hid, hu, ha]; simp
              rw [this]; cases D.H (k + 1) id <;> rfl
            · have ha' : anB rs i j = false := by simpa using ha
              have hidv : hid id = if L j = true then D.cur rs L j else none := by simp only [hid, hu, ha', and_true]
              rw [if_neg ha, hidv]
              by_cases hLj : L j = true
              · obtain ⟨o', ho'⟩ := Option.isSome_iff_exists.1 (cur_some (rs := rs) (L := L) (unp_eq hu).2.2.1)
                have := hhid id o' (by rw [hidv, if_pos hLj, ho'])
                rw [this]
              · have hnone : (⟨D.sv rs s0 L, vwF hid (D.H (k + 1)), D.N (k + 1)⟩ : DS).vw C id = none := hh.hh.fr id fun h => h.2 (.inr ⟨by have := (unp_eq hu).1; omega, by have := unp_eq hu; omega, by
                  have e : id - s0.nx = j := by have := (unp_eq hu).1; omega
                  rw [e]; simpa using hLj⟩)
                have : D.H (k + 1) id = none := by
                  simp only [DS.vw, vwF] at hnone
                  cases hx : D.H (k + 1) id with
                  | none => rfl
                  | some y => rw [hx] at hnone; cases hnone
                rw [this]
        · -- by contract
          refine wpIn_call hnd (hrun hcb) (call_in (R := fun d' => d' = D.d i) hs hl (fun j v d hv hd => ?_) hcall) ?_
          · have h0 := himm d (List.mem_of_getElem? hd)
            exact rel_imm ((hrel j v d hv hd).2.1 fun id hid => by rw [h0] at hid; cases hid) h0
          · rintro e w' ⟨v, d, rfl, rfl, hh, hv⟩
            refine ⟨v, rfl, ?_⟩
            have hN' : D.N k ≤ D.N (k + 1) := hOK.mono k
            have hf := full_app (L := L) (L' := L') (u := .keep) hOK hD hr hi han hL' hm hlay hta (N_ge hOK k) rfl hH
            exact hput (k + 1) (D.at_ rs s0 L k) β w' v (hDmain hm) rfl hf.symm (hh.grow (hUgrow _ hN')) (hv.grow (hUgrow _ hN'))
      have hargs : ∀ (args : List Operand), (∀ x ∈ args, x ∈ r.op.opnds) → liveR (D.st rs s0 i k) r → ∀ (j : Nat) (v : Value) (d : DV), (args.map a.eval)[j]? = some v → (args.map (D.st rs s0 i k).rv)[j]? = some d → WV C (Ur C rs s0 D L k) ((D.at_ rs s0 L k).vw C) β w v d := by
        intro args hsub hlv j v d hv hdd
        simp only [List.getElem?_map, Option.map_eq_some_iff] at hv hdd
        obtain ⟨x, hx, rfl⟩ := hv
        obtain ⟨y, hy, rfl⟩ := hdd
        rw [hx] at hy; cases hy
        rw [← (reg_agree hOK hD hr hi han hlv).rv x (hsub x (List.mem_of_getElem? hx))]
        exact hs.rvw x
      cases hcc : compOp C.P o.op with
      | none =>
        exfalso
        rw [hcc] at hop
        simp only [Option.getD_none] at hop
        rw [hop] at hev
        rcases hev with ⟨k, u, h⟩ | ⟨h1, h2⟩
        · simp [execU] at h
        · obtain ⟨_, u, h, _⟩ := h2 k (reg_may hOK hD hi han)
          cases h
      | some op =>
        rw [hcc] at hop
        simp only [Option.getD_some] at hop
        -- operations that are no calls
        have hsimple : ((∃ k u, D.main[k]? = some i ∧ liveR (D.st rs s0 i k) r ∧ (D.st rs s0 i k).hasU u = true ∧ execU (D.N k) (D.st rs s0 i k) op = some (D.d i, u) ∧ D.H (k + 1) = u.app (D.N k) (D.st rs s0 i k).ho ∧ D.N (k + 1) = if u.new then D.N k + 1 else D.N k) ∨
            (i ∉ D.main ∧ ∀ k, D.may rs i k → liveR (D.st rs s0 i k) r ∧ ∃ u, execU (s0.nx + i) (D.st rs s0 i k) op = some (D.d i, u) ∧ match u with
              | .keep => D.lay i = none ∧ D.tgt i = none
              | .lay o => D.lay i = some o ∧ D.tgt i = none
              | .wr id o => ∃ j, D.unp rs s0 k id = some j ∧ anB rs i j = true ∧ D.tgt i = some j ∧ D.ob i = o ∧ D.lay i = none
              | _ => False)) → o.wpIn C.F 0 C.P a w next Q := by
          rintro (⟨k0, u, hm, hlv, hU, hex, hH, hN⟩ | ⟨hnm, hall⟩)
          · obtain rfl := reg_main hOK hD hi han hm
            have hag := reg_agree hOK hD hr hi han hlv
            rw [hop] at hag
            have hex' : execU (D.N k0) (D.at_ rs s0 L k0) op = some (D.d i, u) := by rw [execU_congr hag]; exact hex
            have hok := execU_ok hs (nid := D.N k0) (fun h => by have := h.1; omega) hcc hex'
            have hlay := (hOK.mlt k0 i hm).2.1
            have hta := (hOK.mlt k0 i hm).2.2
            refine wpIn_exec hnd hok fun β' w' x h1 h2 => ?_
            have hg : ∀ id, Ux (Ur C rs s0 D L k0) (D.N k0) u id → Ur C rs s0 D L' (k0 + 1) id := fun id h => by
              have hle := hOK.mono k0
              have key : Un (Ur C rs s0 D L k0) (D.N k0) id → D.N (k0 + 1) = D.N k0 + 1 → Ur C rs s0 D L' (k0 + 1) id := fun h hN' => by
                rcases h with h | rfl
                · exact hUgrow (k0 + 1) hle id h
                · have hge := N_ge hOK k0
                  refine ⟨by omega, fun h => ?_⟩
                  rcases h with h | h
                  · have := hR _ h; omega
                  · omega
              cases u with
              | keep => exact hUgrow (k0 + 1) hle id h
              | wr _ _ => exact hUgrow (k0 + 1) hle id h
              | lay _ => exact key h (by rw [hN]; rfl)
              | mv _ _ => exact key h (by rw [hN]; rfl)
            exact hput (k0 + 1) _ β' w' x (hDmain hm) rfl (full_app (L := L) (L' := L') hOK hD hr hi han hL' hm hlay hta (N_ge hOK k0) hU hH).symm (h1.grow hg) (h2.grow hg)
          · obtain ⟨hlv, u, hex, hu⟩ := hall k (reg_may hOK hD hi han)
            have hag := reg_agree hOK hD hr hi han hlv
            rw [hop] at hag
            have hex' : execU (s0.nx + i) (D.at_ rs s0 L k) op = some (D.d i, u) := by rw [execU_congr hag]; exact hex
            have hfresh : ¬ Ur C rs s0 D L k (s0.nx + i) := fun h => h.2 (.inr ⟨by omega, by have := ri_lt hr; omega, by
              have e : s0.nx + i - s0.nx = i := by omega
              rw [e]; exact hi⟩)
            have hok := execU_ok hs (nid := s0.nx + i) hfresh hcc hex'
            refine wpIn_exec hnd hok fun β' w' x h1 h2 => ?_
            cases u with
            | keep => exact hput k _ β' w' x (hDfree hnm) rfl (full_keep hL' hu.1 hu.2).symm (h1.grow (hUgrow k (Nat.le_refl _))) (h2.grow (hUgrow k (Nat.le_refl _)))
            | lay ob =>
              have hg : ∀ id, Ux (Ur C rs s0 D L k) (s0.nx + i) (.lay ob) id → Ur C rs s0 D L' k id := fun id h => by
                rcases h with h | rfl
                · exact hUgrow k (Nat.le_refl _) id h
                · have hge := N_ge hOK k
                  have := ri_lt hr
                  refine ⟨by omega, fun h => ?_⟩
                  rcases h with h | h
                  · have := hR _ h; omega
                  · have e : s0.nx + i - s0.nx = i := by omega
                    have := h.2.2
                    rw [e, hL'] at this
                    simp at this
              exact hput k _ β' w' x (hDfree hnm) rfl (full_lay hOK hD hr hi hL' hu.1 hu.2).symm (h1.grow hg) (h2.grow hg)
            | wr id ob =>
              obtain ⟨j, g1, g2, g3, rfl, g5⟩ := hu
              exact hput k _ β' w' x (hDfree hnm) rfl (full_wr hOK hD hr hi han hL' g1 g2 g3 g5).symm (h1.grow (hUgrow k (Nat.le_refl _))) (h2.grow (hUgrow k (Nat.le_refl _)))
            | mv _ _ => exact hu.elim
        rw [hop] at hev
        split at hev
        · rename_i f args
          obtain ⟨k0, hm, hlv, hcm⟩ := hev
          obtain rfl := reg_main hOK hD hi han hm
          obtain ⟨c, ho, hcal, rfl⟩ := compOp_call hcc
          refine hcallM f (c.args.toList.map a.eval) (c.args.toList.map (D.st rs s0 i k0).rv) hm (by simp) (hargs _ (fun x hx => by rw [hop]; exact hx) hlv) hcm fun hcb => ?_
          simp [execOp, ho, resolve, hcal, Deferred.ofValue, Act.eval, invoke, run_callFunc hcb, map_eval]
        · rename_i tb x args
          obtain ⟨k0, f, fr, cs, hm, hlv, hfn, hcm⟩ := hev
          obtain rfl := reg_main hOK hD hi han hm
          obtain ⟨c, ho, rfl, hcal⟩ := compOp_cv hcc
          have hag := reg_agree hOK hD hr hi han hlv
          rw [← hag.ev x (by rw [hop]; simp [DOp.opnds])] at hfn
          rcases hcal with ⟨rfl, hcal⟩ | ⟨name, rfl, hcal⟩
          · have hx := asFnB_some hfn
            simp only at hx
            have h1 := hs.ev x
            rw [hx] at h1
            obtain ⟨us, vs, e1, hl1, hl2, hrel1, hrel2⟩ := rel_fnB h1
            refine hcallM _ (us ++ c.args.toList.map a.eval ++ vs) (fr ++ c.args.toList.map (D.st rs s0 i k0).rv ++ cs) hm (by simp [hl1, hl2]) (pw_app (by simp [hl1]) (pw_app hl1 (fun j v d hv hdd => ?_) (hargs _ (fun y hy => by rw [hop]; simp [DOp.opnds, hy]) hlv)) fun j v d hv hdd => ?_) hcm fun hcb => ?_
            · exact hs.evp x (hrel1 _ v d hv hdd) fun id hid => by rw [hx, DV.refs, DV.refsL, DV.refs]; exact List.mem_append_left _ (DV.refsL_mem (List.mem_of_getElem? hdd) hid)
            · exact hs.evp x (hrel2 _ v d hv hdd) fun id hid => by rw [hx, DV.refs, DV.refsL]; exact List.mem_append_right _ (DV.refsL_mem (List.mem_of_getElem? hdd) hid)
            · have h3 : (us.toArray ++ (c.args.map a.eval ++ vs.toArray) : Array Value) = (us ++ (c.args.toList.map a.eval ++ vs)).toArray := by apply Array.ext'; simp
              simp [execOp, ho, resolve, hcal, e1, Deferred.ofValue, invoke]
              rw [h3]
              exact run_callFunc hcb _ _
          · simp only [DV.tgt] at hfn
            split at hfn
            · rename_i T e hx
              obtain ⟨f', hlk, hx2⟩ := Option.map_eq_some_iff.1 hfn
              cases hx2
              have h1 := hs.ev x
              rw [hx] at h1
              obtain ⟨u, e1, hrel⟩ := rel_ifc h1
              refine hcallM _ ([u] ++ c.args.toList.map a.eval) ([e] ++ c.args.toList.map (D.st rs s0 i k0).rv ++ []) hm (by simp) (fun j v d hv hdd => ?_) hcm fun hcb => ?_
              · rw [List.append_nil] at hdd
                cases j with
                | zero =>
                  simp at hv hdd
                  subst hv hdd
                  exact hs.evp x hrel fun id hid => by rw [hx, DV.refs]; exact hid
                | succ j => exact hargs c.args.toList (fun y hy => by rw [hop]; simp [DOp.opnds]; exact .inr (by simpa using hy)) hlv j v d hv hdd
              · have h3 := run_callMethod (w := w) hlk hcb u (c.args.map a.eval)
                have h4 : (#[u] ++ c.args.map a.eval : Array Value) = ([u] ++ c.args.toList.map a.eval).toArray := by apply Array.ext'; simp
                rw [h4] at h3
                have h5 : Array.extract (#[a.eval x] ++ c.args.map a.eval) 1 (#[a.eval x] ++ c.args.map a.eval).size = c.args.map a.eval := by
                  apply Array.ext'
                  simp [List.extract_eq_take_drop]
                  exact List.take_of_length_le (by simp)
                have h6 : (#[a.eval x] ++ c.args.map a.eval : Array Value)[0]? = some (.iface T u) := by rw [e1]; first | rfl | simp [Array.getElem?_append]
                simp only [execOp, ho, resolve, hcal, Sem.run_bind, Sem.run_pure, Result.andThen_ok, invoke, h6, h5, h3]
            · cases hfn
        · exact hsimple hev
    · subst hb
      rw [hw] at hev
      simp only at hev
      obtain ⟨h1, h2, h2', h3⟩ := hev
      exact hput k (D.at_ rs s0 L k) β w undef (hDfree h3) rfl (full_keep hL' h2 h2').symm (hs.grow (hUgrow k (Nat.le_refl _))) (by rw [h1]; exact WV.v undef)

end Go.DD
