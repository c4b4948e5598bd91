/- The evaluator's regions that draw their order, second part. -/
import Derived.Test.YtpaggdhijeabnaaGreatDoorHw
namespace Go.DD

def cnt (f : Nat → Bool) (i : Nat) : Nat := ((List.range i).filter f).length
theorem cnt_succ (f : Nat → Bool) (i : Nat) : cnt f (i + 1) = cnt f i + (if f i = true then 1 else 0) := by
  unfold cnt
  rw [List.range_succ, List.filter_append, List.length_append]
  congr 1
  by_cases h : f i = true
  · simp [h]
  · simp [h]
theorem cnt_mono (f : Nat → Bool) {i j : Nat} (h : i ≤ j) : cnt f i ≤ cnt f j := by
  induction h with
  | refl => exact Nat.le_refl _
  | step _ ih => rw [cnt_succ]; omega
theorem cnt_lt (f : Nat → Bool) {i j : Nat} (h : i < j) (hf : f i = true) : cnt f i < cnt f j := by
  have := cnt_mono f (Nat.succ_le_of_lt h)
  have h2 := cnt_succ f i
  rw [if_pos hf] at h2
  have : cnt f (i + 1) ≤ cnt f j := this
  omega
theorem filter_get (f : Nat → Bool) : ∀ (m k q : Nat), ((List.range m).filter f)[k]? = some q ↔ q < m ∧ f q = true ∧ cnt f q = k := by
  intro m
  induction m with
  | zero => intro k q; simp
  | succ m ih =>
    intro k q
    rw [List.range_succ, List.filter_append]
    rcases Nat.lt_or_ge k ((List.range m).filter f).length with h | h
    · rw [List.getElem?_append_left h, ih]
      constructor
      · rintro ⟨h1, h2, h3⟩; exact ⟨by omega, h2, h3⟩
      · rintro ⟨h1, h2, h3⟩
        refine ⟨?_, h2, h3⟩
        have : q ≠ m := fun e => by subst e; unfold cnt at h3; omega
        omega
    · rw [List.getElem?_append_right h]
      by_cases hm : f m = true
      · rw [List.filter_cons_of_pos hm, List.filter_nil]
        constructor
        · intro h1
          have hk : k = ((List.range m).filter f).length := by
            rcases Nat.lt_or_ge ((List.range m).filter f).length k with h2 | h2
            · rw [List.getElem?_eq_none (by simp; omega)] at h1; cases h1
            · omega
          subst hk
          simp at h1
          subst h1
          exact ⟨by omega, hm, rfl⟩
        · rintro ⟨h1, h2, h3⟩
          have hq : q = m := by
            rcases Nat.lt_or_ge q m with h4 | h4
            · have := cnt_lt f h4 h2
              have e : cnt f m = ((List.range m).filter f).length := rfl
              omega
            · omega
          subst hq
          have : k - ((List.range q).filter f).length = 0 := by unfold cnt at h3; omega
          rw [this]; rfl
      · rw [List.filter_cons_of_neg hm, List.filter_nil]
        constructor
        · intro h1; simp at h1
        · rintro ⟨h1, h2, h3⟩
          exfalso
          have hq : q ≠ m := fun e => hm (by rw [← e]; exact h2)
          have := cnt_lt f (show q < m by omega) h2
          have e : cnt f m = ((List.range m).filter f).length := rfl
          omega

def mkH (ρ : Nat → Rec) (h0 : Nat → Option DObj) (main : List Nat) : Nat → Nat → Option DObj
  | 0 => h0
  | k + 1 => match main[k]? with
    | some q => (ρ q).H
    | none => fun _ => none
def mkN (ρ : Nat → Rec) (n : Nat) (main : List Nat) : Nat → Nat
  | 0 => n
  | k + 1 => match main[k]? with
    | some q => (ρ q).N
    | none => mkN ρ n main k
def mkD (ρ : Nat → Rec) (s0 : DS) (m : Nat) : RG where
  d i := (ρ i).d
  lay i := (ρ i).lay
  tgt i := (ρ i).tgt
  ob i := (ρ i).ob
  main := (List.range m).filter fun i => (ρ i).mn
  H := mkH ρ s0.ho ((List.range m).filter fun i => (ρ i).mn)
  N := mkN ρ (s0.nx + m) ((List.range m).filter fun i => (ρ i).mn)
def kI (ρ : Nat → Rec) (i : Nat) : Nat := cnt (fun i => (ρ i).mn) i
def Lt (i : Nat) : Nat → Bool := fun j => decide (j < i)

section
variable {P : Program} {rs : List DR} {s0 : DS} {Δ : Nat → DSt} {ρ : Nat → Rec} (R : Run P rs s0 Δ ρ)
include R

omit R in
theorem main_get {q k m : Nat} : (mkD ρ s0 m).main[k]? = some q ↔ q < m ∧ (ρ q).mn = true ∧ kI ρ q = k := filter_get _ _ _ _
omit R in
theorem main_len {m : Nat} : (mkD ρ s0 m).main.length = kI ρ m := rfl
theorem semAt {i : Nat} {r : DR} (hr : rs[i]? = some r) : Sem P s0.nx rs.length i r { an := anR rs i, cls := kdI rs i, tgt := tgtI rs r, wide := (mainsI rs).any fun q => !anB rs q i && !anB rs i q : OI } (Δ i) (Δ (i + 1)) (ρ i) := R.sem i r _ hr (info_get hr)
theorem mn_cls {i : Nat} (hi : i < rs.length) (h : (ρ i).mn = true) : kdI rs i = 2 ∧ (ρ i).lay = none ∧ (ρ i).tgt = none := by
  have hr : rs[i]? = some rs[i] := List.getElem?_eq_getElem hi
  cases semAt R hr with
  | off hw hd hl ht hm he hlo hws hps => rw [hm] at h; cases h
  | read hw hrf hx hl ht hm he hlo hws hlk hps => rw [hm] at h; cases h
  | lay ob hw hrf hx hl ht hm he hlo hws hlk hps => rw [hm] at h; cases h
  | wr ob hw hc hrf hx hal hlt han hl ht hob hm he hlo hws hps => rw [hm] at h; cases h
  | main hid hs hhid hhs hw hc hrf hx hg hl ht hm he hlo hws hps => exact ⟨hc, hl, ht⟩
theorem tgt_wr {w j : Nat} (h : (ρ w).tgt = some j) : w < rs.length ∧ anB rs w j = true ∧ ∀ i, i < rs.length → anB rs i j = true → anB rs i w = true ∨ anB rs w i = true ∨ w = i := by
  rcases Nat.lt_or_ge w rs.length with hi | hi
  · have hr : rs[w]? = some rs[w] := List.getElem?_eq_getElem hi
    cases semAt R hr with
    | off hw hd hl ht hm he hlo hws hps => rw [ht] at h; cases h
    | read hw hrf hx hl ht hm he hlo hws hlk hps => rw [ht] at h; cases h
    | lay ob hw hrf hx hl ht hm he hlo hws hlk hps => rw [ht] at h; cases h
    | wr ob hw hc hrf hx hal hlt han hl ht hob hm he hlo hws hps =>
      rw [ht] at h
      have hj : tgtI rs rs[w] = j := Option.some.inj h
      have h3 : kdI rs w = 3 := by
        have h1 := kd_le rs w
        have h2 : kdI rs w ≠ 0 ∧ kdI rs w ≠ 1 ∧ kdI rs w ≠ 2 := hc
        omega
      have := R.ok.wr w _ hr h3
      rw [hj] at this
      exact ⟨hi, this⟩
    | main hid hs hhid hhs hw hc hrf hx hg hl ht hm he hlo hws hps => rw [ht] at h; cases h
  · rw [R.nil w hi] at h; cases h

theorem nx_at : ∀ i, i ≤ rs.length → (mkD ρ s0 rs.length).N (kI ρ i) = (Δ i).es.nx ∧ s0.nx + rs.length ≤ (Δ i).es.nx ∧ (Δ i).es.ds.Fr
  | 0, _ => by
    have e : (Δ 0).es.nx = s0.nx + rs.length := by have := congrArg DS.nx R.z; exact this
    refine ⟨by rw [e]; rfl, by rw [e]; omega, ?_⟩
    rw [R.z]
    intro id hid
    have : s0.nx + rs.length ≤ id := hid
    exact R.fr id (by omega)
  | i + 1, hi => by
    obtain ⟨h1, h2, h3⟩ := nx_at i (by omega)
    have hr : rs[i]? = some rs[i] := List.getElem?_eq_getElem (by omega)
    have hs := semAt R hr
    have hg := hs.gw (by omega) h2
    have hf := hs.fr (by omega) h2 h3
    refine ⟨?_, by omega, hf⟩
    have same : (ρ i).mn = false → (Δ (i + 1)).es.nx = (Δ i).es.nx → (mkD ρ s0 rs.length).N (kI ρ (i + 1)) = (Δ (i + 1)).es.nx := fun h4 h5 => by
      have : kI ρ (i + 1) = kI ρ i := by unfold kI; rw [cnt_succ]; simp [h4]
      rw [this, h1, h5]
    have nxe : ∀ {s : DS} {d : DV}, (Δ (i + 1)).es.ds = s.put rs[i].dst d → (Δ (i + 1)).es.nx = s.nx := fun {s d} h => by
      have h1 : (Δ (i + 1)).es.ds.nx = s.nx := by rw [h, DS.nx_put]
      exact h1
    cases hs with
    | off hw hd hl ht hm he hlo hws hps => exact same hm (nxe he)
    | read hw hrf hx hl ht hm he hlo hws hlk hps => exact same hm (nxe he)
    | lay ob hw hrf hx hl ht hm he hlo hws hlk hps => exact same hm (nxe he)
    | wr ob hw hc hrf hx hal hlt han hl ht hob hm he hlo hws hps => exact same hm (nxe he)
    | main hid hs hhid hhs hw hc hrf hx hg hl ht hm he hlo hws hps =>
      rw [nxe he]
      have e : kI ρ (i + 1) = kI ρ i + 1 := by unfold kI; rw [cnt_succ]; simp [hm]
      have hmg : ((List.range rs.length).filter fun i => (ρ i).mn)[kI ρ i]? = some i := (main_get (s0 := s0)).2 ⟨by omega, hm, rfl⟩
      rw [e]
      show mkN ρ _ _ _ = _
      simp only [mkN, hmg]

theorem run_oks : (mkD ρ s0 rs.length).OKs rs s0 where
  pre := R.ok.pre
  dst i j r r' t h1 h2 h3 h4 := by
    have e1 := R.ok.dst i r t h1 h3
    have e2 := R.ok.dst j r' t h2 h4
    rw [e1] at e2
    exact Option.some.inj e2
  rd := R.ok.rd
  chain a b i j h1 h2 h3 := by
    obtain ⟨g1, g2, g3⟩ := main_get.1 h1
    obtain ⟨f1, f2, f3⟩ := main_get.1 h2
    have hij : i < j := by
      rcases Nat.lt_or_ge i j with h | h
      · exact h
      · have : kI ρ j ≤ kI ρ i := cnt_mono _ h
        omega
    exact R.ok.ch i j g1 f1 (mn_cls R g1 g2).1 (mn_cls R f1 f2).1 hij
  mlt a i h := by
    obtain ⟨g1, g2, g3⟩ := main_get.1 h
    exact ⟨g1, (mn_cls R g1 g2).2⟩
  wr1 w j h := (tgt_wr R h).2.1
  wr2 i j w hi hw ha ht := (tgt_wr R ht).2.2 i hi ha
  h0 := rfl
  n0 := rfl
  mono k := by
    cases hm : (mkD ρ s0 rs.length).main[k]? with
    | none =>
      have hm' : ((List.range rs.length).filter fun i => (ρ i).mn)[k]? = none := hm
      show mkN ρ _ _ k ≤ mkN ρ _ _ (k + 1)
      simp only [mkN, hm']
      exact Nat.le_refl _
    | some q =>
      obtain ⟨g1, g2, g3⟩ := main_get.1 hm
      have e1 := nx_at R q (by omega)
      have e2 := nx_at R (q + 1) (by omega)
      have hr : rs[q]? = some rs[q] := List.getElem?_eq_getElem g1
      have := ((semAt R hr).gw g1 e1.2.1).1
      have ek : kI ρ (q + 1) = k + 1 := by
        have h5 := cnt_succ (fun i => (ρ i).mn) q
        rw [if_pos g2] at h5
        unfold kI at g3 ⊢
        omega
      rw [← ek, e2.1, ← g3, e1.1]
      exact this

/-- The state in the text's order. -/
structure Inv (P : Program) (rs : List DR) (s0 : DS) (Δ : Nat → DSt) (ρ : Nat → Rec) (i : Nat) : Prop where
  sv : (Δ i).es.ds.sv = (mkD ρ s0 rs.length).sv rs s0 (Lt i)
  ho : (Δ i).es.ds.ho = (mkD ρ s0 rs.length).full rs s0 (Lt i) (kI ρ i)
  lo : ∀ j, j ∈ (Δ i).lo ↔ j < i ∧ (ρ j).lay.isSome = true ∧ (mkD ρ s0 rs.length).pr rs (kI ρ i) j = false

theorem run_done {i : Nat} (hi : i ≤ rs.length) : Done rs (mkD ρ s0 rs.length) (Lt i) (kI ρ i) where
  cl i' h1 h2 j h3 := by
    have h4 := an_lt R.ok h1 h3
    simp only [Lt, decide_eq_true_eq] at h2 ⊢
    omega
  le := cnt_mono _ hi
  mn q j h := by
    obtain ⟨g1, g2, g3⟩ := main_get.1 h
    simp only [Lt, decide_eq_true_eq]
    constructor
    · intro h; rw [← g3]; exact cnt_lt _ h g2
    · intro h
      rcases Nat.lt_or_ge j i with h' | h'
      · exact h'
      · have : kI ρ i ≤ kI ρ j := cnt_mono _ h'
        omega

omit R in
theorem Lt_succ (i : Nat) (j : Nat) : Lt (i + 1) j = (j == i || Lt i j) := by
  unfold Lt
  by_cases h : j = i
  · subst h; simp
  · have : decide (j < i + 1) = decide (j < i) := by simp; omega
    rw [this, beq_eq_false_iff_ne.2 h, Bool.false_or]
theorem Lt_an {i : Nat} (hi : i < rs.length) (j : Nat) (h : anB rs i j = true) : Lt i j = true := by
  simp only [Lt, decide_eq_true_eq]; exact an_lt R.ok hi h
omit R in
theorem Lt_self (i : Nat) : Lt i i = false := by simp [Lt]

theorem pr_self {i k : Nat} (hk : k ≤ kI ρ i) : (mkD ρ s0 rs.length).pr rs k i = false := by
  unfold RG.pr
  rw [List.any_eq_false]
  intro q hq
  obtain ⟨p, hp, rfl⟩ := List.mem_iff_getElem.1 hq
  rw [List.length_take] at hp
  have hm : (mkD ρ s0 rs.length).main[p]? = some ((mkD ρ s0 rs.length).main.take k)[p] := by
    rw [List.getElem_take]; exact List.getElem?_eq_getElem (by omega)
  obtain ⟨g1, g2, g3⟩ := main_get.1 hm
  intro ha
  have h1 := an_lt R.ok g1 ha
  have h2 : kI ρ i < kI ρ ((mkD ρ s0 rs.length).main.take k)[p] ∨ kI ρ i ≤ kI ρ ((mkD ρ s0 rs.length).main.take k)[p] := .inr (cnt_mono _ (Nat.le_of_lt h1))
  omega

/-- The heap that one of the ordered operations sees. -/
theorem seen {i : Nat} (hi : i < rs.length) (I : Inv P rs s0 Δ ρ i) (id : Nat) : ((mkD ρ s0 rs.length).st rs s0 i (kI ρ i)).ho id = if ∃ j ∈ (Δ i).lo.filter (fun j => !(anR rs i).contains j), id = s0.nx + j then none else (Δ i).es.ds.ho id := by
  have hr : rs[i]? = some rs[i] := List.getElem?_eq_getElem hi
  have hv := full_view (D := mkD ρ s0 rs.length) (rs := rs) (s0 := s0) (L := Lt i) (k := kI ρ i) (run_oks R) (run_done R (by omega)) hr (Lt_self i) (Lt_an R hi) id
  show (mkD ρ s0 rs.length).full rs s0 (anB rs i) (kI ρ i) id = _
  rw [hv, I.ho]
  cases hu : (mkD ρ s0 rs.length).unp rs s0 (kI ρ i) id with
  | none =>
    rw [if_neg]
    rintro ⟨j, hj, e⟩
    rw [List.mem_filter, I.lo] at hj
    obtain ⟨⟨h1, h2, h3⟩, _⟩ := hj
    have : (mkD ρ s0 rs.length).unp rs s0 (kI ρ i) id = some j := by
      unfold RG.unp
      have e' : id - s0.nx = j := by omega
      rw [e', if_pos ⟨by omega, by omega, h2, h3⟩]
    rw [hu] at this; cases this
  | some j =>
    obtain ⟨e1, e2, e3, e4⟩ := unp_eq hu
    simp only
    by_cases ha : anB rs i j = true
    · rw [if_pos ha, if_neg]
      rintro ⟨j', hj, e⟩
      have : j' = j := by omega
      subst this
      have h1 := (List.mem_filter.1 hj).2
      have h2 : (anR rs i).contains j' = true := ha
      rw [h2] at h1; cases h1
    · rw [if_neg ha]
      rcases Nat.lt_or_ge j i with hji | hji
      · rw [if_pos]
        refine ⟨j, List.mem_filter.2 ⟨(I.lo j).2 ⟨hji, e3, e4⟩, ?_⟩, e1⟩
        have h2 : ¬ (anR rs i).contains j = true := ha
        simpa using h2
      · have hnone : (mkD ρ s0 rs.length).full rs s0 (Lt i) (kI ρ i) id = none := by
          unfold RG.full
          rw [hu]
          have : Lt i j = false := by simp [Lt]; omega
          simp [this]
        rw [hnone]
        split <;> rfl

theorem inv_step {i : Nat} (hi : i < rs.length) (I : Inv P rs s0 Δ ρ i) : Inv P rs s0 Δ ρ (i + 1) := by
  have hr : rs[i]? = some rs[i] := List.getElem?_eq_getElem hi
  have hOK := run_oks R
  have hD := run_done R (Nat.le_of_lt hi)
  have han := Lt_an R hi
  have hL' := Lt_succ i
  have hs := semAt R hr
  have kSame : (ρ i).mn = false → kI ρ (i + 1) = kI ρ i := fun h4 => by unfold kI; rw [cnt_succ]; simp [h4]
  have fin : ∀ {ho : Nat → Option DObj} {nx : Nat}, (Δ (i + 1)).es.ds = (⟨(Δ i).es.ds.sv, ho, nx⟩ : DS).put rs[i].dst (ρ i).d → ho = (mkD ρ s0 rs.length).full rs s0 (Lt (i + 1)) (kI ρ (i + 1)) →
      (∀ j, j ∈ (Δ (i + 1)).lo ↔ j < i + 1 ∧ (ρ j).lay.isSome = true ∧ (mkD ρ s0 rs.length).pr rs (kI ρ (i + 1)) j = false) → Inv P rs s0 Δ ρ (i + 1) := fun {ho nx} h1 h2 h3 => by
    obtain ⟨e1, e2⟩ := reg_put (D := mkD ρ s0 rs.length) (L := Lt i) (L' := Lt (i + 1)) hOK hr hL' (kI ρ (i + 1)) ⟨(Δ i).es.ds.sv, ho, nx⟩ I.sv h2
    exact ⟨by rw [h1]; exact e1.symm, by rw [h1]; exact e2.symm, h3⟩
  have loSame : (ρ i).mn = false → (ρ i).lay = none → (Δ (i + 1)).lo = (Δ i).lo → ∀ j, j ∈ (Δ (i + 1)).lo ↔ j < i + 1 ∧ (ρ j).lay.isSome = true ∧ (mkD ρ s0 rs.length).pr rs (kI ρ (i + 1)) j = false := fun h1 h2 h3 j => by
    rw [h3, kSame h1, I.lo]
    constructor
    · rintro ⟨g1, g2⟩; exact ⟨by omega, g2⟩
    · rintro ⟨g1, g2, g3⟩
      refine ⟨?_, g2, g3⟩
      have : j ≠ i := fun e => by rw [e, h2] at g2; cases g2
      omega
  cases hs with
  | off hw hd hl ht hm he hlo hws hps =>
    refine fin (ho := (Δ i).es.ds.ho) (nx := (Δ i).es.ds.nx) (by rw [hd]; exact he) ?_ (loSame hm hl hlo)
    rw [kSame hm, I.ho]
    exact (full_keep (D := mkD ρ s0 rs.length) (L := Lt i) (L' := Lt (i + 1)) (i := i) hL' hl ht).symm
  | read hw hrf hx hl ht hm he hlo hws hlk hps =>
    refine fin (ho := (Δ i).es.ds.ho) (nx := (Δ i).es.ds.nx) he ?_ (loSame hm hl hlo)
    rw [kSame hm, I.ho]
    exact (full_keep (D := mkD ρ s0 rs.length) (L := Lt i) (L' := Lt (i + 1)) (i := i) hL' hl ht).symm
  | lay ob hw hrf hx hl ht hm he hlo hws hlk hps =>
    refine fin he ?_ fun j => ?_
    · rw [kSame hm, I.ho]
      exact (full_lay (D := mkD ρ s0 rs.length) (L := Lt i) (L' := Lt (i + 1)) hOK hD hr (Lt_self i) hL' hl ht).symm
    · rw [hlo, List.mem_cons, kSame hm, I.lo]
      constructor
      · rintro (rfl | ⟨g1, g2⟩)
        · exact ⟨by omega, by rw [hl]; rfl, pr_self R (Nat.le_refl _)⟩
        · exact ⟨by omega, g2⟩
      · rintro ⟨g1, g2⟩
        by_cases hji : j = i
        · exact .inl hji
        · exact .inr ⟨by omega, g2⟩
  | wr ob hw hc hrf hx hal hlt hant hl ht hob hm he hlo hws hps =>
    refine fin he ?_ (loSame hm hl hlo)
    obtain ⟨g1, g2, g3⟩ := (I.lo _).1 hlt
    have hu : (mkD ρ s0 rs.length).unp rs s0 (kI ρ i) (s0.nx + tgtI rs rs[i]) = some (tgtI rs rs[i]) := by
      unfold RG.unp
      have g1' : tgtI rs rs[i] < i := g1
      have e' : s0.nx + tgtI rs rs[i] - s0.nx = tgtI rs rs[i] := by omega
      rw [e', if_pos ⟨by omega, by omega, g2, g3⟩]
    rw [kSame hm, I.ho, ← hob]
    exact (full_wr (D := mkD ρ s0 rs.length) (L := Lt i) (L' := Lt (i + 1)) hOK hD hr (Lt_self i) han hL' hu hant ht hl).symm
  | main hid hs hhid hhs hw hc hrf hx hg hl ht hm he hlo hws hps =>
    have hmi : (mkD ρ s0 rs.length).main[kI ρ i]? = some i := main_get.2 ⟨hi, hm, rfl⟩
    have hk : kI ρ (i + 1) = kI ρ i + 1 := by unfold kI; rw [cnt_succ]; simp [hm]
    have hH : (mkD ρ s0 rs.length).H (kI ρ i + 1) = (ρ i).H := by
      have : ((List.range rs.length).filter fun i => (ρ i).mn)[kI ρ i]? = some i := hmi
      show mkH ρ s0.ho ((List.range rs.length).filter fun i => (ρ i).mn) (kI ρ i + 1) = _
      simp only [mkH, this]
    have hnx := nx_at R i (by omega)
    have hmem : ∀ j, j ∈ hid ↔ j ∈ (Δ i).lo ∧ anB rs i j = false := fun j => by
      rw [hhid, List.mem_filter]
      show _ ∧ (!(anB rs i j)) = true ↔ _
      simp
    refine fin he ?_ fun j => ?_
    · funext id
      rw [hk, full_main (D := mkD ρ s0 rs.length) (L := Lt i) (L' := Lt (i + 1)) hL' hmi hl ht id, hH]
      cases hu : (mkD ρ s0 rs.length).unp rs s0 (kI ρ i) id with
      | none =>
        simp only
        rw [if_neg]
        rintro ⟨j, hj, e⟩
        obtain ⟨h1, h2, h3⟩ := (I.lo j).1 ((hmem j).1 hj).1
        have : (mkD ρ s0 rs.length).unp rs s0 (kI ρ i) id = some j := by
          unfold RG.unp
          have e' : id - s0.nx = j := by omega
          rw [e', if_pos ⟨by omega, by omega, h2, h3⟩]
        rw [hu] at this; cases this
      | some j =>
        obtain ⟨e1, e2, e3, e4⟩ := unp_eq hu
        simp only
        by_cases ha : anB rs i j = true
        · rw [if_pos ha, if_neg]
          rintro ⟨j', hj, e⟩
          have : j' = j := by omega
          subst this
          rw [((hmem j').1 hj).2] at ha; cases ha
        · rw [if_neg ha]
          have hfull : (mkD ρ s0 rs.length).full rs s0 (Lt i) (kI ρ i) id = if Lt i j = true then (mkD ρ s0 rs.length).cur rs (Lt i) j else none := by
            unfold RG.full; rw [hu]
          rcases Nat.lt_or_ge j i with hji | hji
          · rw [if_pos ⟨j, (hmem j).2 ⟨(I.lo j).2 ⟨hji, e3, e4⟩, by simpa using ha⟩, e1⟩, I.ho, hfull]
          · have hLj : Lt i j = false := by simp [Lt]; omega
            rw [hLj]
            rw [hLj] at hfull
            simp only [Bool.false_eq_true, if_false] at hfull ⊢
            rw [if_neg (fun ⟨j', hj, e⟩ => by
              have : j' = j := by omega
              subst this
              have := ((I.lo j').1 ((hmem j').1 hj).1).1
              omega)]
            cases hx : (ρ i).H id with
            | none => rfl
            | some x =>
              exfalso
              have hn : hs.ho id = none := by
                rw [hhs]
                simp only
                rw [I.ho, hfull]
                split <;> rfl
              have := (hg.new id hn (by show (ρ i).H id ≠ none; rw [hx]; simp)).1
              rw [hhs] at this
              have h7 : (Δ i).es.nx ≤ id := this
              have := hnx.2.1
              omega
    · rw [hlo, hmem, I.lo, hk, pr_succ hmi, Bool.or_eq_false_iff]
      constructor
      · rintro ⟨⟨g1, g2, g3⟩, g4⟩; exact ⟨by omega, g2, g3, g4⟩
      · rintro ⟨g1, g2, g3, g4⟩
        have : j ≠ i := fun e => by rw [e, hl] at g2; cases g2
        exact ⟨⟨by omega, g2, g3⟩, g4⟩

theorem inv_all : ∀ i, i ≤ rs.length → Inv P rs s0 Δ ρ i
  | 0, _ => by
    refine ⟨?_, ?_, fun j => by rw [R.lo0]; simp⟩
    · funext t
      rw [R.z]
      show s0.sv t = RG.sv rs s0 _ _ t
      unfold RG.sv
      split
      · simp [Lt]
      · rfl
    · funext id
      rw [R.z]
      show s0.ho id = RG.full rs s0 _ _ _ id
      unfold RG.full
      cases hu : (mkD ρ s0 rs.length).unp rs s0 (kI ρ 0) id with
      | none => rfl
      | some j =>
        have := unp_eq hu
        simp [Lt]
        exact R.fr id (by omega)
  | i + 1, hi => inv_step R (by omega) (inv_all i (by omega))
end
end Go.DD
