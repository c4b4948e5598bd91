/- Regions that draw their order, third part: every order. -/
import Derived.Test.YtpaggdhijeabnaaGreatDoorHm
namespace Go.DD
open Go.RowKit (Below)

def Lf (L : Array Bool) (j : Nat) : Bool := (L.toList[j]?).getD false

theorem wpAny_ok {C : Ctx} {ops : Array Oper} {rs : List DR} {s0 : DS} {D : RG} {Q : Exit → DS → Prop} (hrs : ops.toList.mapM (compR C.P C.nt true ops) = some rs) (hOK1 : D.OK rs s0 C.P) (hR : ∀ id, C.R id → id < s0.nx)
    (hQ : Q .normal (D.at_ rs s0 (fun _ => true) D.main.length)) :
    ∀ (fuel : Nat) (L : Array Bool) (k : Nat) (a : Act) (w : World) (β : Nat → Option Nat), L.size = ops.size → unl L.toList = fuel →
      (∀ (i : Nat) (r : DR), L.toList[i]? = some true → rs[i]? = some r → ∀ j ∈ r.pre, L.toList[j]? = some true) → Done rs D (Lf L) k → HoldsB C (Ur C rs s0 D (Lf L) k) (D.at_ rs s0 (Lf L) k) β a w → wpAnyIn C.F 0 C.P .any ops (liftQ C Q) fuel L a w := by
  have hOK := hOK1.toOKs
  obtain ⟨hlen, hget⟩ := mapM_some hrs
  replace hlen : rs.length = ops.size := by rw [hlen]; exact Array.length_toList
  have hpre := hOK.pre
  have hdone : ∀ (L : Array Bool) (k : Nat) (a : Act) (w : World) (β : Nat → Option Nat), L.size = ops.size → (∀ b ∈ L.toList, b = true) → Done rs D (Lf L) k → HoldsB C (Ur C rs s0 D (Lf L) k) (D.at_ rs s0 (Lf L) k) β a w → liftQ C Q .normal a w := by
    intro L k a w β hL hall hD hs
    have hLt : ∀ j, j < rs.length → Lf L j = true := fun j hj => by
      have hjl : j < L.toList.length := by simp; omega
      simp only [Lf, List.getElem?_eq_getElem hjl, Option.getD_some]
      exact hall _ (List.getElem_mem _)
    have hk : k = D.main.length := by
      rcases Nat.lt_or_ge k D.main.length with h | h
      · have hm : D.main[k]? = some D.main[k] := List.getElem?_eq_getElem h
        have := (hD.mn k _ hm).1 (hLt _ (hOK.mlt k _ hm).1)
        omega
      · have := hD.le; omega
    subst hk
    have e1 : (D.at_ rs s0 (fun _ => true) D.main.length).sv = (D.at_ rs s0 (Lf L) D.main.length).sv := by
      funext t
      show D.sv rs s0 (fun _ => true) t = D.sv rs s0 (Lf L) t
      unfold RG.sv
      cases hp : rs.findIdx? (fun r => r.dst == some t) with
      | none => rfl
      | some p => simp [hLt p (List.findIdx?_eq_some_iff_findIdx_eq.1 hp).1]
    have e2 : (D.at_ rs s0 (fun _ => true) D.main.length).ho = (D.at_ rs s0 (Lf L) D.main.length).ho := by
      funext id
      show D.full rs s0 (fun _ => true) D.main.length id = D.full rs s0 (Lf L) D.main.length id
      unfold RG.full
      cases hu : D.unp rs s0 D.main.length id with
      | none => rfl
      | some j =>
        have hc : D.cur rs (fun _ => true) j = D.cur rs (Lf L) j := by
          unfold RG.cur
          rw [lastW_congr (L := Lf L) (L' := fun _ => true) fun w hw _ => (hLt w hw).symm]
        simp [hLt j (unp_eq hu).2.1, hc]
    have hge := N_ge hOK D.main.length
    refine ⟨_, hQ, fun id h => by have := hR id h; show id < D.N D.main.length; omega, β, (hs.congr e1 e2).grow fun id ⟨h1, h2⟩ => ⟨h1, fun h => h2 (.inl h)⟩⟩
  have hready : ∀ (L : Array Bool), L.size = ops.size → Region.ready .any ops L = [] → ∀ b ∈ L.toList, b = true := by
    intro L hL hr
    have key : ∀ i, i < L.size → L.toList[i]? = some true := by
      intro i
      induction i using Nat.strongRecOn with
      | _ i ih =>
        intro hi
        rw [List.getElem?_eq_getElem (by simpa using hi)]
        cases hb : L.toList[i]'(by simpa using hi) with
        | true => rfl
        | false =>
          exfalso
          have hmem : i ∈ Region.ready .any ops L := by
            unfold Region.ready
            rw [List.mem_filter]
            refine ⟨by simp; omega, ?_⟩
            have ho : ops[i]? = some ops[i] := Array.getElem?_eq_getElem (by omega)
            simp only [ho, Option.map_some, Option.getD_some, Bool.and_eq_true]
            refine ⟨?_, ?_⟩
            · have : L[i]? = some false := by rw [← Array.getElem?_toList, List.getElem?_eq_getElem (by simpa using hi), hb]
              simp [Array.getD_eq_getD_getElem?, this]
            · rw [Array.all_eq_true']
              intro e he
              rw [Bool.or_eq_true]
              by_cases hbd : Region.binds .any e = true
              · refine .inr ?_
                have hr' := hget i (ops[i]) (rs[i]'(by omega)) (by rw [Array.getElem?_toList]; exact ho) (List.getElem?_eq_getElem (by omega))
                have hpre' : e.on ∈ (rs[i]'(by omega)).pre := by
                  unfold compR at hr'
                  split at hr'
                  · split at hr'
                    · rw [← Option.some.inj hr']
                      simp only [if_true]
                      rw [List.mem_eraseDups, List.mem_filterMap]
                      exact ⟨e, by simpa using he, by simp [hbd]⟩
                    · cases hr'
                  · cases hr'
                have hlt := hpre i _ (List.getElem?_eq_getElem (by omega)) e.on hpre'
                have := ih e.on hlt (by omega)
                rw [Array.getElem?_toList] at this
                simp [Array.getD_eq_getD_getElem?, this]
              · simp [hbd]
          rw [hr] at hmem; cases hmem
    intro b hb
    obtain ⟨i, hi, rfl⟩ := List.mem_iff_getElem.1 hb
    have := key i (by simpa using hi)
    rw [List.getElem?_eq_getElem hi] at this
    exact Option.some.inj this
  intro fuel
  induction fuel with
  | zero =>
    intro L k a w β hL hu hcl hD hs
    have hall := unl_zero _ hu
    refine ⟨?_, hdone L k a w β hL hall hD hs⟩
    unfold Region.ready
    rw [List.filter_eq_nil_iff]
    intro i hi
    have hil : i < L.size := by simp at hi; omega
    have : L[i]? = some true := by rw [← Array.getElem?_toList, List.getElem?_eq_getElem (by simpa using hil), hall _ (List.getElem_mem _)]
    simp [Array.getD_eq_getD_getElem?, this]
  | succ fuel ih =>
    intro L k a w β hL hu hcl hD hs
    refine ⟨fun hr => hdone L k a w β hL (hready L hL hr) hD hs, fun i hi => ?_⟩
    unfold Region.ready at hi
    rw [List.mem_filter] at hi
    obtain ⟨hi1, hi2⟩ := hi
    have hin : i < ops.size := by simpa using hi1
    have ho : ops[i]? = some ops[i] := Array.getElem?_eq_getElem hin
    simp only [ho, Option.map_some, Option.getD_some, Bool.and_eq_true] at hi2
    obtain ⟨hiL, hiE⟩ := hi2
    have hLi : L.toList[i]? = some false := by
      have hlt : i < L.size := by omega
      rw [Array.getElem?_toList, Array.getElem?_eq_getElem hlt]
      simp [Array.getD_eq_getD_getElem?, Array.getElem?_eq_getElem hlt] at hiL
      simp [hiL]
    have hri : rs[i]? = some (rs[i]'(by omega)) := List.getElem?_eq_getElem (by omega)
    generalize (rs[i]'(by omega)) = r at hri
    have hcr := hget i ops[i] r (by rw [Array.getElem?_toList]; exact ho) hri
    have hprei : ∀ j ∈ r.pre, L.toList[j]? = some true := by
      intro j hj
      have : ∃ ed ∈ ops[i].after, Region.binds .any ed = true ∧ ed.on = j := by
        unfold compR at hcr
        split at hcr
        · split at hcr
          · cases hcr
            simp only [if_true] at hj
            rw [List.mem_eraseDups, List.mem_filterMap] at hj
            obtain ⟨ed, h1, h2⟩ := hj
            split at h2
            · rename_i hbd; cases h2; exact ⟨ed, by simpa using h1, hbd, rfl⟩
            · cases h2
          · cases hcr
        · cases hcr
      obtain ⟨ed, h1, h2, rfl⟩ := this
      rw [Array.all_eq_true'] at hiE
      have := hiE ed h1
      rw [h2] at this
      simp only [Bool.not_true, Bool.false_or] at this
      rw [Array.getElem?_toList]
      cases hq : L[ed.on]? with
      | none => simp [Array.getD_eq_getD_getElem?, hq] at this
      | some b => simp [Array.getD_eq_getD_getElem?, hq] at this; simp [this]
    have han : ∀ j, anB rs i j = true → Lf L j = true := by
      intro j hj
      have hil : i < (ancs rs []).length := by rw [ancs_len]; simp; omega
      have hl : (ancs rs [])[i]? = some (anR rs i) := by simp [anR, List.getElem?_eq_getElem hil]
      have := ancs_listed hpre hcl i r _ hri hprei hl j (by simpa [anB] using hj)
      simp [Lf, this]
    have hLset : ∀ j, Lf (L.setIfInBounds i true) j = (j == i || Lf L j) := fun j => by
      simp only [Lf, Array.toList_setIfInBounds, List.getElem?_set]
      by_cases hij : i = j
      · subst hij
        have : i < L.size := by omega
        simp [this]
      · simp [hij, Ne.symm hij]
    obtain ⟨b, hw, ht, hf⟩ := reg_step (Q := liftQ C Q) (next := fun a' w' => wpAnyIn C.F 0 C.P .any ops (liftQ C Q) fuel (L.setIfInBounds i true) a' w') hOK1 hD hri (by simp [Lf, hLi]) han hLset hR hcr hs (fun k' β' a' w' hD' hh => by
      refine ih (L.setIfInBounds i true) k' a' w' β' (by simpa using hL) ?_ ?_ hD' hh
      · rw [Array.toList_setIfInBounds]
        have := unl_set L.toList i hLi
        omega
      · intro k rk hk hrk j hj
        rw [Array.toList_setIfInBounds] at hk ⊢
        rw [List.getElem?_set] at hk ⊢
        have hprek : L.toList[j]? = some true := by
          by_cases hik : i = k
          · subst hik; rw [hri] at hrk; cases hrk; exact hprei j hj
          · rw [if_neg hik] at hk; exact hcl k rk hk hrk j hj
        by_cases hij : i = j
        · subst hij; rw [hLi] at hprek; cases hprek
        · rw [if_neg hij]; exact hprek)
    unfold wpOpIn
    rw [ho]
    simp only
    rw [hw]
    cases b with
    | true => simp only [if_true]; exact ht rfl
    | false =>
      simp only [Bool.false_eq_true, if_false]
      exact ⟨fun _ _ => trivial, hf rfl⟩

/-- A region that draws its order. -/
theorem DW.regd {C : Ctx} {Q : Exit → DS → Prop} {s : DS} {rs : List DR} {info : RI} (D : RG) (hm : C.P.follows .mixedOrders = true) (hOK : D.OK rs s C.P) (h : Q .normal (D.at_ rs s (fun _ => true) D.main.length)) : DW C (.reg true rs info) Q s := by
  intro code hc a w ⟨hR, β, hs⟩
  obtain ⟨id, os, rfl, hl, _⟩ := compC_reg hc
  refine wpIn_region_any hm ?_
  have hs' : HoldsB C (Us C s.nx) s β a { w with drawn := w.drawn + 1 } := hs.keep ⟨rfl, rfl, rfl, Nat.le_refl _, fun _ _ => rfl⟩
  have hL0 : ∀ j, Lf (Array.replicate os.size false) j = false := fun j => by
    simp only [Lf, Array.toList_replicate, List.getElem?_replicate]
    split <;> rfl
  refine wpAny_ok hl hOK hR h os.size _ 0 a _ β (by simp) ?_ (fun i r hi => ?_) ⟨fun i _ hi => (by rw [hL0] at hi; cases hi), Nat.zero_le _, fun q j _ => (by rw [hL0]; simp)⟩ ?_
  · simp only [Array.toList_replicate]
    generalize os.size = n
    induction n with
    | zero => rfl
    | succ n ih => simp [List.replicate_succ, unl, ih]; omega
  · rw [Array.toList_replicate, List.getElem?_replicate] at hi
    split at hi <;> simp at hi
  · refine (hs'.grow fun id hi => ?_).congr ?_ ?_
    · refine ⟨by have := hi.1; rw [hOK.n0]; omega, fun h => ?_⟩
      rcases h with h | h
      · exact hi.2 h
      · have := hi.1; omega
    · funext t
      show D.sv rs s _ t = s.sv t
      unfold RG.sv
      split
      · rw [hL0]; rfl
      · rfl
    · funext id
      show D.full rs s _ 0 id = s.ho id
      unfold RG.full
      cases hu : D.unp rs s 0 id with
      | none => simp only; rw [hOK.h0]
      | some j =>
        simp only
        rw [hL0]
        have h1 : s.vw C id = none := hs.hh.fr id fun h => by have := (unp_eq hu).1; have := h.1; omega
        have : s.ho id = none := by
          cases hx : s.ho id with
          | none => rfl
          | some o => rw [vw_some hx] at h1; cases h1
        rw [this]; rfl

end Go.DD
