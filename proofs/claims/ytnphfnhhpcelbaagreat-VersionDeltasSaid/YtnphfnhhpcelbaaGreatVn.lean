/- Contracts: the reference's difference of two arrays. Conditions: those that each theorem states. -/
import Derived.Test.YtnphfnhhpcelbaaGreatVm
import Derived.Test.YtnphfnhhpcelbaaGreatVg
import Derived.WalkKit
import Derived.ProofKit
import Derived.OpenShut
import Derived.Test.YtnphfnhhpcelbaaGreatVf
import Derived.ChangeSame
import Derived.Below
namespace Go.DD
set_option linter.unusedSectionVars false
open Go Go.Proofs
def diff1 (x y : List PCell) (p : List Int) : List PCell := if Aa6 x p = Aa6 y p then [] else [⟨p, Aa6 y p⟩]
def diffR (x y : PArr) : List PCell := (Am0 [x, y]).flatMap (diff1 x.cells y.cells)
theorem B77 {z w : Value} {a b : DV} (h1 : a.okC = true ∧ a.cells = [a]) (h2 : b.okC = true ∧ b.cells = [b]) : fillD [DV.v z, DV.v w] [(0, 1, a), (1, 1, b)] = some [a, b] := by
  simp [fillD, h1.1, h1.2, h2.1, h2.2]
theorem By9 (o : Option (List Int)) (l : List PCell) : ∀ p ∈ dedF o l, ∃ c ∈ l, c.pos = p := by
  induction l generalizing o with
  | nil => intro p hp; cases o <;> simp [dedF] at hp
  | cons c l ih =>
    intro p hp
    have ih2 : p ∈ dedF (some c.pos) l → ∃ e ∈ c :: l, e.pos = p := fun h => let ⟨e, h1, h2⟩ := ih _ p h; ⟨e, List.mem_cons_of_mem _ h1, h2⟩
    cases o with
    | none =>
      rcases List.mem_cons.1 hp with h | h
      · exact ⟨c, by simp, h.symm⟩
      · exact ih2 h
    | some q =>
      unfold dedF at hp
      split at hp
      · exact ih2 hp
      · rcases List.mem_cons.1 hp with h | h
        · exact ⟨c, by simp, h.symm⟩
        · exact ih2 h
theorem Bz0 (o : Option (List Int)) (l : List PCell) : (dedF o l).length ≤ l.length := by
  induction l generalizing o with
  | nil => cases o <;> simp [dedF]
  | cons c l ih =>
    have := ih (some c.pos)
    cases o with
    | none => simp [dedF]; omega
    | some q =>
      unfold dedF
      split <;> simp <;> omega
theorem AR.rox {hp : Tr DObj} {n0 n m : Nat} {an : List Nat} {a b c : DV} {x : PArr} (h1 : RL rDim hp (Bl n0) a x.dims) (h2 : RL rAttr hp (Bl n0) b x.attrs) (h3 : RL rCell hp (Bl n0) c x.cells) (hn : n0 ≤ n) : Aa2 (.agg [a, b, c]) (fun id => okRef n m an hp id) := fun id hid => by
  have : id ∈ a.refs ∨ id ∈ b.refs ∨ id ∈ c.refs := by simpa [DV.refs, DV.refsL] using hid
  rcases this with h | h | h
  · exact h1.rox hn id h
  · exact h2.rox hn id h
  · exact h3.rox hn id h
theorem AR.same {hp : Tr DObj} {p : Nat → Prop} {a b c : DV} {x : PArr} (h1 : RL rDim hp p a x.dims) (h2 : RL rAttr hp p b x.attrs) (h3 : RL rCell hp p c x.cells) : ∀ d ∈ [a, b, c], Ab7 6 d d = true := fun d hd => by
  simp only [List.mem_cons, List.not_mem_nil, or_false] at hd
  rcases hd with rfl | rfl | rfl
  · exact h1.same (by decide)
  · exact h2.same (by decide)
  · exact h3.same (by decide)
theorem Bs0 {α β : Type} {R : Rep α} {S : Rep β} {hp : Tr DObj} {p q : Nat → Prop} {a b : DV} {l : List α} {m : List β} (h1 : RL R hp p a l) (h2 : RL S hp q b m) : liveE hp (.agg [a, b]) = .agg [a, b] := Ak5 fun id hid => by
  have : id ∈ a.refs ∨ id ∈ b.refs := by simpa [DV.refs, DV.refsL] using hid
  rcases this with h | h
  · exact (h1.refs id h).2
  · exact (h2.refs id h).2
theorem Av9 {x : PArr} (h : AOK x) (p : List Int) : (Aa6 x.cells p).length < 900000 := by
  unfold Aa6
  split
  · rename_i c hc
    exact (h.e c (List.mem_of_find?_eq_some hc)).2.1
  · simp
section
variable (k n0 : Nat) (hp : Tr DObj) (nx : Nat) (K : DV → Tr DObj → Nat → Prop)
theorem Bz1 (f : Nat) (d1 d2 : DV) (x y : PArr) (hn : n0 ≤ nx) (h1 : AR hp (Bl n0) d1 x) (h2 : AR hp (Bl n0) d2 y) (hx : AOK x) (hy : AOK y) (hsx : SortC x.cells) (hsy : SortC y.cells) (hc : x.cells.length + y.cells.length < 900000) (hf : x.cells.length + y.cells.length ≤ 2 ^ f)
    (hK : ∀ hp' nx' d', Al hp nx hp' nx' → OL rChange hp' (Pz nx' d') d' (diffR x y) → Rng nx nx' d' → K d' hp' nx') : KW (kN (k + f + 5)) (.fn 93) [d1, d2] hp nx K := by
  obtain ⟨d, a, c, rfl, r1, r2, r3⟩ := h1
  obtain ⟨d', a', c', rfl, s1, s2, s3⟩ := h2
  refine kn_1 (Aa0 (by decide)) t93 (Nat.le_of_ble_eq_true rfl) fun es e1 e2 he => ?_
  have a0 : rawE es (.t .o) = .agg [d, a, c] := he 0 _ rfl
  have a1 : rawE es (.t (.l .o)) = .agg [d', a', c'] := he 1 _ rfl
  unfold r93
  subst e1 e2
  simp only [↓bSb]
  refine Ab9 (cs := [d, a, c]) (by rw [evt, a0]; exact AR.live r1 r2 r3) fun hp1 hg1 hk1 => ?_
  simp only [bR] at hg1 hk1
  have hal1 : Al es.hp es.nx hp1 (es.nx + 1) := ⟨by omega, fun j hj => hk1 j (by omega)⟩
  simp only [bSa, ↓bSb]
  refine Ab9 (cs := [d', a', c']) (by simp only [evt, bR, reduceCtorEq, a1]; exact AR.live (s1.ka hn hal1) (s2.ka hn hal1) (s3.ka hn hal1)) fun hp2 hg2 hk2 => ?_
  simp only [bR] at hg2 hk2
  have hal2 : Al es.hp es.nx hp2 (es.nx + 2) := ⟨by omega, fun j hj => by rw [hk2 j (by omega), hk1 j (by omega)]⟩
  have hg1' := (hk2 es.nx (by omega)).trans hg1
  obtain ⟨_, _, _, _, lA⟩ := Aa1 hg1'
  obtain ⟨_, _, _, _, lB⟩ := Aa1 hg2
  have u1 := r1.ka hn hal2
  have u2 := r2.ka hn hal2
  have u3 := r3.ka hn hal2
  have v1 := s1.ka hn hal2
  have v2 := s2.ka hn hal2
  have v3 := s3.ka hn hal2
  simp only [bSa, ↓bSb, reduceCtorEq, lA, lB]
  refine Af1 (fl := [d, a, c, d', a', c']) (by rfl) (by simp only [List.map_cons, List.map_nil, n_ev, bR, reduceCtorEq, bP, AR.live u1 u2 u3, AR.live v1 v2 v3]; rfl) fun hp3 hg3 hk3 => ?_
  simp only [bR] at hg3 hk3
  have hal3 : Al es.hp es.nx hp3 (es.nx + 1 + 1 + 1) := ⟨by omega, fun j hj => by rw [hk3 j (by omega), hal2.same j hj]⟩
  have hrow : RL rArr hp3 (Bl (es.nx + 1 + 1 + 1)) (.ms (es.nx + 1 + 1) 0 2 3) [x, y] := by
    have w1 := (r1.ka hn hal3).bl (show n0 ≤ es.nx + 1 + 1 + 1 by omega)
    have w2 := (r2.ka hn hal3).bl (show n0 ≤ es.nx + 1 + 1 + 1 by omega)
    have w3 := (r3.ka hn hal3).bl (show n0 ≤ es.nx + 1 + 1 + 1 by omega)
    have z1 := (s1.ka hn hal3).bl (show n0 ≤ es.nx + 1 + 1 + 1 by omega)
    have z2 := (s2.ka hn hal3).bl (show n0 ≤ es.nx + 1 + 1 + 1 by omega)
    have z3 := (s3.ka hn hal3).bl (show n0 ≤ es.nx + 1 + 1 + 1 by omega)
    exact (OL.ms (R := rArr) (p := Bl (es.nx + 1 + 1 + 1)) (es.nx + 1 + 1) _ [x, y] hg3 ⟨[d, a, c], [d', a', c'], rfl, rArr_rd.2 ⟨d, a, c, rfl, w1, w2, w3⟩, [d', a', c'], [], rfl, rArr_rd.2 ⟨d', a', c', rfl, z1, z2, z3⟩, rfl⟩).rl.mono fun j hj => hj.elim (fun h => h) fun h => by
      have : j = es.nx + 1 + 1 := by simpa [DV.refs] using h
      show j < _; omega
  have hcs : [x, y].flatMap PArr.cells = x.cells ++ y.cells := by simp
  simp only [bSa, ↓bSb]
  refine kws (Br9 k (es.nx + 1 + 1 + 1) _ _ _ f _ [x, y] (Nat.le_refl _) hrow (by simp) (by rw [hcs, List.length_append]; exact hc) (by rw [hcs, List.length_append]; exact hf) (fun c hc => by
    rw [hcs] at hc
    rcases List.mem_append.1 hc with h | h
    · exact (hx.e c h).1
    · exact (hy.e c h).1) fun hp4 nx4 x4 hal4 hr4 => ?_)
  have hle4 := hal4.le
  have hal4' := hal3.trans hal4
  have hgA : hp4.get es.nx = some (.row 26 [d, a, c]) := by rw [hal4.same _ (by omega), hk3 _ (by omega)]; exact hg1'
  have hgB : hp4.get (es.nx + 1) = some (.row 26 [d', a', c']) := by rw [hal4.same _ (by omega), hk3 _ (by omega)]; exact hg2
  unfold diffR at hK
  have hP : ∀ p ∈ Am0 [x, y], p.length < 900000 := fun p hp => by
    obtain ⟨c, h, rfl⟩ := By9 _ _ p hp
    have h := (Al9 _ _).1 h
    rw [hcs] at h
    rcases List.mem_append.1 h with h | h
    · exact (hx.e c h).1
    · exact (hy.e c h).1
  have hPl : (Am0 [x, y]).length < 900000 := by
    have := Bz0 none (sortC ([x, y].flatMap PArr.cells))
    rw [Ap4, hcs, List.length_append] at this
    show (dedF none (sortC ([x, y].flatMap PArr.cells))).length < _
    rw [hcs]
    omega
  generalize Am0 [x, y] = P at hr4 hK hP hPl
  simp only [bSa, ↓bSb]
  refine EW.up P.length (fun i es1 => ∃ z, Al hp4 nx4 es1.hp es1.nx ∧ rawE es1 (.t (.r .o)) = .pt es.nx 0 ∧ rawE es1 (.t (.l (.l .o))) = .pt (es.nx + 1) 0 ∧ rawE es1 (.t (.l (.r .o))) = x4 ∧ rawE es1 (.t (.r (.r .o))) = z ∧ rawE es1 (.t (.l (.l (.l .o)))) = iv (i : Nat) ∧ OL rChange es1.hp (Pz es1.nx z) z ((P.take i).flatMap (diff1 x.cells y.cells)) ∧ Rng nx4 es1.nx z) ?_ ?_ (by omega)
  · rintro i es1 hi ⟨z, hal, b2, b3, b5, b6, b7, ho, hr⟩
    unfold l93_1
    have hle := hal.le
    have w4 := hr4.ka (Nat.le_refl _) hal
    have qA := (hal.same es.nx (by omega)).trans hgA
    have qB := (hal.same (es.nx + 1) (by omega)).trans hgB
    obtain ⟨_, _, _, _, mA⟩ := Aa1 qA
    obtain ⟨_, _, _, _, mB⟩ := Aa1 qB
    have ha := hal4'.trans hal
    by_cases h : i < P.length
    · obtain ⟨q, rq, lq⟩ := A16 w4 h
      have hst : (P.take (i + 1)).flatMap (diff1 x.cells y.cells) = (P.take i).flatMap (diff1 x.cells y.cells) ++ diff1 x.cells y.cells P[i] := by
        rw [List.take_succ_eq_append_getElem h, List.flatMap_append]; simp
      have hpl := hP _ (List.getElem_mem h)
      have hold : ((P.take i).flatMap (diff1 x.cells y.cells)).length ≤ i := by
        have : ∀ L : List (List Int), (L.flatMap (diff1 x.cells y.cells)).length ≤ L.length := fun L => by
          induction L with
          | nil => simp
          | cons p L ih =>
            rw [List.flatMap_cons, List.length_append, List.length_cons]
            have : (diff1 x.cells y.cells p).length ≤ 1 := by unfold diff1; split <;> simp
            omega
        have h2 := this (P.take i)
        rw [List.length_take] at h2
        omega
      have r1' := (r1.ka hn ha).bl (show n0 ≤ nx4 by omega)
      have r2' := (r2.ka hn ha).bl (show n0 ≤ nx4 by omega)
      have r3' := (r3.ka hn ha).bl (show n0 ≤ nx4 by omega)
      simp only [bSa, ↓bSb, reduceCtorEq, b2, b5, b7, h, w4.len, mA, A15 w4 h, lq, Aa5 (n0 := es1.nx) (m := 14) qA (show es.nx < es1.nx by omega), w4.rox (show nx4 ≤ es1.nx by omega), A52 w4 (show nx4 ≤ es1.nx by omega), rq.rox (show nx4 ≤ es1.nx by omega)]
      refine ⟨AR.rox r1' r2' r3' hle, ?_⟩
      refine Aa4 rfl (Aa7 ?_)
      simp only [bR, reduceCtorEq, List.map_cons, List.map_nil]
      refine Bf6 (k + f) nx4 _ _ _ _ q x P[i] (by omega) ⟨d, a, c, rfl, r1', r2', r3'⟩ rq hx hsx fun hp5 nx5 y5 hal5 v5 => ?_
      have hle5 := hal5.le
      have w5 := w4.ka (nx := es1.nx + 14) (by omega) hal5
      have rq5 := rq.ka (nx := es1.nx + 14) (by omega) hal5
      have lq5 := (A16 w5 h)
      have ha5 : Al es.hp es.nx hp5 nx5 := ⟨by omega, fun j hj => (hal5.same j (by omega)).trans (ha.same j hj)⟩
      have s1' := (s1.ka hn ha5).bl (show n0 ≤ nx4 by omega)
      have s2' := (s2.ka hn ha5).bl (show n0 ≤ nx4 by omega)
      have s3' := (s3.ka hn ha5).bl (show n0 ≤ nx4 by omega)
      have qA5 := (hal5.same es.nx (by omega)).trans qA
      have qB5 := (hal5.same (es.nx + 1) (by omega)).trans qB
      obtain ⟨_, _, _, _, mB5⟩ := Aa1 qB5
      obtain ⟨q5, rq5, lq5⟩ := lq5
      simp only [bSa, ↓bSb, reduceCtorEq, b3, b5, b7, hle5, mB5, A15 w5 h, lq5, Aa5 (n0 := es1.nx) (m := 14) qB5 (show es.nx + 1 < es1.nx by omega), w5.rox (show nx4 ≤ es1.nx by omega), A52 w5 (show nx4 ≤ es1.nx by omega), rq5.rox (show nx4 ≤ es1.nx by omega)]
      refine ⟨AR.rox s1' s2' s3' hle, ?_⟩
      refine Aa4 rfl (Aa7 ?_)
      simp only [bR, reduceCtorEq, List.map_cons, List.map_nil]
      refine Bf6 (k + f) nx4 _ _ _ _ q5 y P[i] (by omega) ⟨d', a', c', rfl, s1', s2', s3'⟩ rq5 hy hsy fun hp6 nx6 y6 hal6 v6 => ?_
      have hle6 := hal6.le
      have v5' := v5.ka (nx := nx5) (by omega) hal6
      have ha6 := ha5.trans hal6
      have w6 := w5.ka (nx := nx5) (by omega) hal6
      have hPa : ∀ j, j < es1.nx → hp6.get j = es1.hp.get j := fun j hj => (hal6.same j (by omega)).trans (hal5.same j (by omega))
      have hps : PsOK [⟨11, [6, 10, 5, 9, 7, 8, 0, 4, 3, 1, 2], hp5, hp6⟩, ⟨5, [0, 4, 3, 1, 2], es1.hp, hp5⟩] es1.hp nx4 := ((PsOK.nil _ _).cons (fun _ _ => rfl) fun j hj => hal5.same j (by omega)).cons (fun j hj => hal5.same j (by omega)) fun j hj => hPa j (by omega)
      have hlk : Af8 es1.nx 14
            (lookE 10 [9, 7, 8] true true (adrE 1 x4 i).refs es1.nx []
              (lookE 9 [7, 8] true false x4.refs es1.nx []
                (lookE 7 [] true false x4.refs es1.nx []
                  (lookE 6 [] true true (DV.pt (es.nx + 1) 0).refs es1.nx [] []))))
            [⟨11, [6, 10, 5, 9, 7, 8, 0, 4, 3, 1, 2], hp5, hp6⟩, ⟨5, [0, 4, 3, 1, 2], es1.hp, hp5⟩] = true :=
        Ag4 w4 (fun j (hj : j < nx4) => by omega) hps (Ai1 _ _ _) (Ag4 w4 (fun j (hj : j < nx4) => by omega) hps (fun _ h => h) (Ag4 w4 (fun j (hj : j < nx4) => by omega) hps (fun _ h => h) (A82 (fun j hj => by simpa [DV.refs] using hj) (show es.nx + 1 < es1.nx by omega) (fun p hp => ⟨((hps p hp).1 _ (show es.nx + 1 < nx4 by omega)).trans qB, ((hps p hp).2 _ (show es.nx + 1 < nx4 by omega)).trans qB⟩) (AR.same s1' s2' s3') rfl)))
      simp only [bSa, ↓bSb, reduceCtorEq, hle6]
      refine ⟨v5'.rox hle, v6.rox hle, hlk, ?_⟩
      have vlen := Av9 hx P[i]
      refine kws (Be2 (k := k + f + 3) nx4 _ _ _ y5 y6 _ _ (by omega) v5' v6 vlen fun nx7 hle7 => ?_)
      by_cases c1 : Aa6 x.cells P[i] = Aa6 y.cells P[i]
      · have hst2 : (P.take (i + 1)).flatMap (diff1 x.cells y.cells) = (P.take i).flatMap (diff1 x.cells y.cells) := by rw [hst]; unfold diff1; rw [if_pos c1, List.append_nil]
        simp only [bSa, ↓bSb, reduceCtorEq, b2, b3, b5, b6, b7, h, decide_eq_true c1, Aa3 (show i < _ by omega)]
        refine ⟨z, ⟨by omega, fun j hj => (hPa j (by omega)).trans (hal.same j hj)⟩, rfl, by rw [hst2]; exact (ho.keep fun j hj => hPa j (by rcases hj with h | h <;> first | exact h.1 | exact (hr j h).2)).mono fun j hj => ⟨by have := hj.1; omega, hj.2⟩, fun j hj => by have := hr j hj; omega⟩
      · have hst2 : (P.take (i + 1)).flatMap (diff1 x.cells y.cells) = (P.take i).flatMap (diff1 x.cells y.cells) ++ [⟨P[i], Aa6 y.cells P[i]⟩] := by rw [hst]; unfold diff1; rw [if_neg c1]
        simp only [bSa, ↓bSb, reduceCtorEq, b6, decide_eq_false c1]
        refine Af1 (fl := []) rfl rfl fun hp8 hg8 hk8 => ?_
        simp only [bR] at hg8 hk8
        have hPb : ∀ j, j < nx7 → hp8.get j = hp6.get j := fun j hj => hk8 j (by omega)
        have w8 := w6.keep fun j (hj : j < nx4) => hPb j (by omega)
        obtain ⟨q8, rq8, lq8⟩ := A16 w8 h
        simp only [bSa, ↓bSb, reduceCtorEq, b5, b7, A15 w8 h, lq8]
        refine Ad3 (R := rInt) (p := fun _ => False) (p2 := Bl nx4) (d := .ms nx7 0 0 1) (d2 := q8) (l := []) (m := P[i]) (by simp only [bR, reduceCtorEq, bP]) (.ms nx7 [] [] hg8 rfl) (by simp only [n_ev, bR, bP]; exact rq8.live) rq8.srcD rfl rfl (by simp; omega) (by decide) fun hp9 hk9 h9 => ?_
        simp only [bR, List.nil_append] at hk9 h9
        have hPc : ∀ j, j < nx7 → hp9.get j = hp6.get j := fun j hj => (hk9 j (by omega) (by simp [DV.refs]; omega)).trans (hPb j hj)
        have o9 := (h9 (Bl nx4) fun j hj => by
          rcases hj with hj | hj
          · cases hj
          · have hj : j < nx4 := hj
            exact ⟨hj, by omega, by simp [DV.refs]; omega⟩).rl
        simp only [bSa, ↓bSb]
        refine Af1 (fl := []) rfl rfl fun hp10 hg10 hk10 => ?_
        simp only [bR] at hg10 hk10
        have v10 := v6.keep fun j (hj : j < nx4) => (hk10 j (by omega)).trans (hPc j (by omega))
        simp only [bSa, ↓bSb, reduceCtorEq]
        refine Ad3 (R := rVal) (p := fun _ => False) (p2 := Bl nx4) (d := .ms (nx7 + 1 + 1) 0 0 4) (d2 := y6) (l := []) (m := Aa6 y.cells P[i]) (by simp only [bR, reduceCtorEq, bP]) (.ms (nx7 + 1 + 1) [] [] hg10 rfl) (by simp only [n_ev, bR, bP]; exact v10.live) v10.srcD rfl rfl (by simp; have := Av9 hy P[i]; omega) (by decide) fun hp11 hk11 h11 => ?_
        simp only [bR, List.nil_append] at hk11 h11
        have o11 := (h11 (Bl nx4) fun j hj => by
          rcases hj with hj | hj
          · cases hj
          · have hj : j < nx4 := hj
            exact ⟨hj, by omega, by simp [DV.refs]; omega⟩).rl
        have hPe : ∀ j, j < nx7 + 2 → hp11.get j = hp9.get j := fun j hj => (hk11 j (by omega) (by simp [DV.refs]; omega)).trans (hk10 j (by omega))
        have o9' := o9.keep fun j hj => hPe j (by rcases hj with h | h <;> first | (have h : j < nx4 := h; omega) | (simp [DV.refs] at h; omega))
        have hPf : ∀ j, j < nx7 → hp11.get j = hp6.get j := fun j hj => (hPe j (by omega)).trans (hPc j hj)
        simp only [bSa, ↓bSb]
        refine Cb7 (cs := [.ms (nx7 + 1) 0 P[i].length 1, .ms (nx7 + 1 + 1 + 1) 0 (Aa6 y.cells P[i]).length 4]) (by simp only [List.map_cons, List.map_nil, n_ev, bR, reduceCtorEq, bP, o9'.live, o11.live]; exact B77 ⟨rfl, rfl⟩ ⟨rfl, rfl⟩) ?_
        simp only [bSa, ↓bSb]
        have hin : liveE hp11 (.agg [.ms (nx7 + 1) 0 P[i].length 1, .ms (nx7 + 1 + 1 + 1) 0 (Aa6 y.cells P[i]).length 4]) = .agg [.ms (nx7 + 1) 0 P[i].length 1, .ms (nx7 + 1 + 1 + 1) 0 (Aa6 y.cells P[i]).length 4] := Bs0 o9' o11
        refine Af1 (fl := [.ms (nx7 + 1) 0 P[i].length 1, .ms (nx7 + 1 + 1 + 1) 0 (Aa6 y.cells P[i]).length 4]) rfl (by simp only [List.map_cons, List.map_nil, n_ev, bR, bP, hin]; rfl) fun hp12 hg12 hk12 => ?_
        simp only [bR] at hg12 hk12
        have hPg : ∀ j, j < nx7 → hp12.get j = hp6.get j := fun j hj => (hk12 j (by omega)).trans (hPf j hj)
        have hPh : ∀ j, j < es1.nx → hp12.get j = es1.hp.get j := fun j hj => (hPg j (by omega)).trans (hPa j hj)
        have o9'' := o9'.keep (hp' := hp12) fun j hj => hk12 j (by rcases hj with h | h <;> first | (have h : j < nx4 := h; omega) | (simp [DV.refs] at h; omega))
        have o11'' := o11.keep (hp' := hp12) fun j hj => hk12 j (by rcases hj with h | h <;> first | (have h : j < nx4 := h; omega) | (simp [DV.refs] at h; omega))
        have ho12 := ho.keep (hp' := hp12) fun j hj => hPh j (by rcases hj with h | h <;> first | exact h.1 | exact (hr j h).2)
        simp only [bSa, ↓bSb]
        have hrow12 : rChange.rd hp12 (fun j => j < nx4 ∨ j = nx7 + 1 ∨ j = nx7 + 1 + 1 + 1) [.ms (nx7 + 1) 0 P[i].length 1, .ms (nx7 + 1 + 1 + 1) 0 (Aa6 y.cells P[i]).length 4] ⟨P[i], Aa6 y.cells P[i]⟩ := rChange_rd.2 ⟨_, _, rfl, o9''.mono fun j hj => by
            rcases hj with h | h
            · exact .inl h
            · simp [DV.refs] at h; exact .inr (.inl h), o11''.mono fun j hj => by
            rcases hj with h | h
            · exact .inl h
            · simp [DV.refs] at h; exact .inr (.inr h)⟩
        refine Ad3 (R := rChange) (p := Pz es1.nx z) (p2 := fun j => j < nx4 ∨ j = nx7 + 1 ∨ j = nx7 + 1 + 1 + 1) (d := z) (d2 := .ms (nx7 + 1 + 1 + 1 + 1) 0 1 2) (l := (P.take i).flatMap (diff1 x.cells y.cells)) (m := [⟨P[i], Aa6 y.cells P[i]⟩]) (by simp only [bR, reduceCtorEq, bP]) ho12 (by simp only [n_ev, bR, bP]; exact Ag2 hg12) (An7 (R := rChange) hg12 hrow12) rfl rfl (by rw [List.length_singleton]; omega) (by decide) fun hp13 hk13 h13 => ?_
        simp only [bR] at hk13 h13
        have o13 := h13 (fun j => j < nx7 + 5 ∧ j ∉ z.refs) fun j hj => by
          rcases hj with hj | hj
          · exact ⟨⟨by have := hj.1; omega, hj.2⟩, by have := hj.1; omega, hj.2⟩
          · have h2 : j ∉ z.refs := fun h => by have := hr j h; omega
            exact ⟨⟨by omega, h2⟩, by omega, h2⟩
        simp only [bSa, ↓bSb, reduceCtorEq, b2, b3, b5, b7, h, Aa3 (show i < _ by omega)]
        refine ⟨_, ⟨by omega, fun j hj => ?_⟩, rfl, by rw [hst2]; exact o13.mono fun j hj => ⟨by have := hj.1; omega, by simp [DV.refs]; have := hj.1; omega⟩, Rng.ms (by omega) (by omega)⟩
        rw [hk13 j (by omega) (fun h => by have := hr j h; omega), hPh j (by omega), hal.same j hj]
    · rw [List.take_of_length_le (by omega)] at ho
      simp only [bSa, ↓bSb, bP, reduceCtorEq, b5, b6, b7, h, w4.len, (ho.rl.mono (q := Bl es1.nx) fun j hj => hj.elim (fun h => h.1) fun h => (hr j h).2).live]
      exact hK _ _ z ha ho (fun j hj => by have := hr j hj; omega)
  · exact ⟨nilS, by simp only [bSa], by simp only [bSa, reduceCtorEq], by simp only [bSa, reduceCtorEq], by simp only [bSa, reduceCtorEq], (by simp only [bSa, reduceCtorEq]; rfl), by simp only [bSa], .nil, Rng.nil _ _⟩
end
end Go.DD

/- Contracts: the reference's Delta; equal changes. Conditions: those that each theorem states. -/
namespace Go.DD
set_option linter.unusedSectionVars false
open Go Go.Proofs
theorem B78 {hp : Tr DObj} {p : Nat → Prop} {d : DV} {l : List PCell} (h : RL rChange hp p d l) {i : Nat} (hi : i < l.length) : ∃ a b, RL rInt hp p a l[i].pos ∧ RL rVal hp p b l[i].vals ∧ ldD hp (some 2) (adrE 2 d i) = some (.agg [a, b]) ∧ ldD hp none (adrF (adrE 2 d i) 0) = some a ∧ ldD hp none (adrF (adrE 2 d i) 1) = some b := by
  obtain ⟨ds, hr, h1, h0, h2⟩ := h.at hi
  obtain ⟨a, b, rfl, h3, h4⟩ := rChange_rd.1 hr
  exact ⟨a, b, h3, h4, h1, h2 0 _ rfl, h2 1 _ rfl⟩
theorem Bf8 {hp : Tr DObj} {p : Nat → Prop} {d : DV} {l : List PCell} (h : RL rChange hp p d l) {i : Nat} (hi : i < l.length) : iaD hp 2 d (.v (.int .i64 (i : Int))) = some (adrE 2 d i) := h.ia hi
theorem Bf9 {hp : Tr DObj} {p : Nat → Prop} {d : DV} {l : List PCell} {k : Nat} (h : RL rChange hp p d l) {i : Nat} (hi : i < l.length) : faD hp k (adrE 2 d i) = some (adrF (adrE 2 d i) k) := h.fa hi
theorem A19 {hp : Tr DObj} {n0 : Nat} {d : DV} {l : List PCell} {n m i : Nat} {an : List Nat} (h : RL rChange hp (Bl n0) d l) (hn : n0 ≤ n) : Aa2 (adrE 2 d i) (fun id => okRef n m an hp id) := h.roax hn
theorem A20 {hp : Tr DObj} {n0 : Nat} {d : DV} {l : List PCell} {n m i k : Nat} {an : List Nat} (h : RL rChange hp (Bl n0) d l) (hn : n0 ≤ n) : Aa2 (adrF (adrE 2 d i) k) (fun id => okRef n m an hp id) := h.rofx hn
theorem Bi2 {d : List PDim} {a : List PAttr} {l : List PCell} : ∀ {b : PCell}, chkF d a (some b) l = 0 → (∀ c ∈ l, cmpL b.pos c.pos = -1 ∧ cellE d a c = 0) ∧ l.Pairwise (fun x y => cmpL x.pos y.pos = -1) := by
  induction l with
  | nil => intro b _; exact ⟨fun c hc => (by cases hc), .nil⟩
  | cons c l ih =>
    intro b h
    unfold chkF at h
    by_cases c1 : cellE d a c = 0
    · rw [if_neg (by simp [c1])] at h
      by_cases c2 : cmpL b.pos c.pos = 0
      · rw [if_pos c2] at h; cases h
      · rw [if_neg c2] at h
        by_cases c3 : cmpL b.pos c.pos = 1
        · rw [if_pos c3] at h; cases h
        · rw [if_neg c3] at h
          have c4 : cmpL b.pos c.pos = -1 := by have := Ad1 b.pos c.pos; omega
          obtain ⟨h1, h2⟩ := ih h
          refine ⟨fun e he => ?_, .cons (fun e he => (h1 e he).1) h2⟩
          rcases List.mem_cons.1 he with rfl | he
          · exact ⟨c4, c1⟩
          · exact ⟨Ac8 c4 (h1 e he).1, (h1 e he).2⟩
    · rw [if_pos c1] at h; exact absurd h c1
theorem Ah4 {x : PArr} (h : Ab3 x = 0) : x.cells.Pairwise (fun x y => cmpL x.pos y.pos = -1) ∧ (∀ c ∈ x.cells, cellE x.dims x.attrs c = 0) ∧ Af2 x.dims x.attrs = 0 := by
  unfold Ab3 at h
  by_cases c1 : Af2 x.dims x.attrs = 0
  · rw [if_neg (by simp [c1])] at h
    split at h
    · cases h
    · generalize x.cells = l at h ⊢
      cases l with
      | nil => exact ⟨.nil, fun c hc => (by cases hc), c1⟩
      | cons c l =>
        unfold chkF at h
        by_cases c2 : cellE x.dims x.attrs c = 0
        · rw [if_neg (by simp [c2])] at h
          obtain ⟨h1, h2⟩ := Bi2 h
          refine ⟨.cons (fun e he => (h1 e he).1) h2, fun e he => ?_, c1⟩
          rcases List.mem_cons.1 he with rfl | he
          · exact c2
          · exact (h1 e he).2
        · rw [if_pos c2] at h; exact absurd h c2
  · rw [if_pos c1] at h; exact absurd h c1
theorem Ax7 {x : PArr} (h : Ab3 x = 0) : SortC x.cells := fun i j hij hj => List.pairwise_iff_getElem.1 (Ah4 h).1 i j (by omega) hj hij
theorem A56 {x : PArr} (h : Ab3 x = 0) : ∀ c ∈ x.cells, c.pos ≠ [] := fun c hc he => by
  have h1 := (Ah4 h).2.1 c hc
  have h2 := (Ah4 h).2.2
  have h3 : c.pos.length = x.dims.length := by
    unfold cellE at h1
    split at h1
    · cases h1
    · rename_i h3; omega
  have h4 : x.dims.length = 0 := by rw [← h3, he]; rfl
  have h5 : dimsE x.dims = 13 := by unfold dimsE; rw [if_pos (Or.inl (show x.dims.length < 1 by omega))]
  unfold Af2 at h2
  rw [h5] at h2
  cases h2
def A57 (x y : PArr) : Bool := decide (x.dims = y.dims) && decide (x.attrs = y.attrs)
def Ai5 (x y : PArr) : Int := if Ab3 x ≠ 0 ∨ Ab3 y ≠ 0 then 2 else if A57 x y = false then 13 else 0
def Ax8 (x y : PArr) : List PCell := if Ab3 x ≠ 0 ∨ Ab3 y ≠ 0 then [] else if A57 x y = false then [] else diffR x y
section
variable (k n0 : Nat) (hp : Tr DObj) (nx : Nat) (K : DV → Tr DObj → Nat → Prop)
theorem Bs1 (d1 d2 : DV) (l m : List PCell) (hn : n0 ≤ nx) (h1 : RL rChange hp (Bl n0) d1 l) (h2 : RL rChange hp (Bl n0) d2 m) (hl : l.length < 900000) (hl2 : ∀ c ∈ l, c.pos.length < 900000 ∧ c.vals.length < 900000) (hK : ∀ nx', nx ≤ nx' → K (bv (decide (l = m))) hp nx') : KW (kN (k + 2)) (.fn 34) [d1, d2] hp nx K := by
  refine kn_1 (Aa0 (by decide)) t34 (Nat.le_of_ble_eq_true rfl) fun es e1 e2 he => ?_
  have a0 : rawE es (.t .o) = d1 := he 0 _ rfl
  have a1 : rawE es (.t (.l .o)) = d2 := he 1 _ rfl
  unfold r34
  by_cases hlen : l.length = m.length
  · simp only [bSa, ↓bSb, reduceCtorEq, a0, a1, e1, h1.len, h2.len, hlen]
    refine EW.up l.length (fun i es1 => es1.hp = hp ∧ nx ≤ es1.nx ∧ rawE es1 (.t .o) = d1 ∧ rawE es1 (.t (.l .o)) = d2 ∧ rawE es1 (.t (.l (.r .o))) = iv (i : Nat) ∧ (l = m ↔ l.drop i = m.drop i)) ?_ ?_ (by omega)
    · rintro i es1 hi ⟨g1, g2, b0, b1, b5, hc⟩
      unfold l34_1
      subst g1
      by_cases h : i < l.length
      · have h' : i < m.length := by omega
        obtain ⟨pA, vA, rpA, rvA, _, lpA, lvA⟩ := B78 h1 h
        obtain ⟨pB, vB, rpB, rvB, _, lpB, lvB⟩ := B78 h2 h'
        rw [Ai3 h h'] at hc
        obtain ⟨hlp, hlv⟩ := hl2 _ (List.getElem_mem h)
        simp only [bSa, ↓bSb, reduceCtorEq, b0, b1, b5, h1.len, h, Bf8 h1 h, Bf8 h2 h', Bf9 (k := 0) h1 h, Bf9 (k := 0) h2 h', lpA, lpB, h1.rox (show n0 ≤ es1.nx by omega), h2.rox (show n0 ≤ es1.nx by omega), A19 h1 (show n0 ≤ es1.nx by omega), A19 h2 (show n0 ≤ es1.nx by omega), A20 h1 (show n0 ≤ es1.nx by omega), A20 h2 (show n0 ≤ es1.nx by omega), rpA.rox (show n0 ≤ es1.nx by omega), rpB.rox (show n0 ≤ es1.nx by omega)]
        refine Aa4 rfl (Aa7 ?_)
        simp only [bR, reduceCtorEq, List.map_cons, List.map_nil]
        refine Be1 (k := k) n0 _ _ _ pA pB _ _ (by omega) rpA rpB hlp fun nx6 hle6 => ?_
        by_cases c1 : l[i].pos = m[i].pos
        · simp only [bSa, ↓bSb, reduceCtorEq, b0, b1, b5, hle6, decide_eq_true c1, Bf8 h1 h, Bf8 h2 h', Bf9 (k := 1) h1 h, Bf9 (k := 1) h2 h', lvA, lvB, h1.rox (show n0 ≤ es1.nx by omega), h2.rox (show n0 ≤ es1.nx by omega), A19 h1 (show n0 ≤ es1.nx by omega), A19 h2 (show n0 ≤ es1.nx by omega), A20 h1 (show n0 ≤ es1.nx by omega), A20 h2 (show n0 ≤ es1.nx by omega), rvA.rox (show n0 ≤ es1.nx by omega), rvB.rox (show n0 ≤ es1.nx by omega)]
          refine Aa4 rfl (Aa7 ?_)
          simp only [bR, reduceCtorEq, List.map_cons, List.map_nil]
          refine Be2 (k := k) n0 _ _ _ vA vB _ _ (by omega) rvA rvB hlv fun nx7 hle7 => ?_
          by_cases c2 : l[i].vals = m[i].vals
          · simp only [bSa, ↓bSb, reduceCtorEq, b0, b1, b5, h, hle7, decide_eq_true c2, Aa3 (show i < _ by omega)]
            have c4 : l[i] = m[i] := by cases he1 : l[i]; cases he2 : m[i]; rw [he1, he2] at c1 c2; simp only at c1 c2; rw [c1, c2]
            exact ⟨by omega, by rw [hc]; simp [c4]⟩
          · simp only [bSa, ↓bSb, bP, reduceCtorEq, hle7, decide_eq_false c2]
            have : ¬ l = m := by rw [hc]; intro hh; exact c2 (by rw [hh.1])
            have hh := hK nx7 (by omega)
            rw [decide_eq_false this] at hh
            exact hh
        · simp only [bSa, ↓bSb, bP, reduceCtorEq, hle6, decide_eq_false c1]
          have : ¬ l = m := by rw [hc]; intro hh; exact c1 (by rw [hh.1])
          have hh := hK nx6 (by omega)
          rw [decide_eq_false this] at hh
          exact hh
      · have : l = m := hc.2 (by rw [List.drop_eq_nil_of_le (by omega), List.drop_eq_nil_of_le (by omega)])
        simp only [bSa, ↓bSb, bP, reduceCtorEq, b0, b5, h1.len, h]
        have hh := hK es1.nx g2
        rw [decide_eq_true this] at hh
        exact hh
    · simp only [bSa, reduceCtorEq, a0, a1, e1, e2]
  · simp only [bSa, ↓bSb, bP, reduceCtorEq, a0, a1, e1, e2, h1.len, h2.len, hlen]
    have : ¬ l = m := fun e => hlen (by rw [e])
    have hh := hK nx (Nat.le_refl _)
    rw [decide_eq_false this] at hh
    exact hh
theorem Bs2 (d1 d2 : DV) (x y : PArr) (hn : n0 ≤ nx) (h1 : AR hp (Bl n0) d1 x) (h2 : AR hp (Bl n0) d2 y) (hx : AOK x) (hy : AOK y) (hc : x.cells.length + y.cells.length ≤ 128)
    (hK : ∀ hp' nx' d', Al hp nx hp' nx' → RL rChange hp' (Bl nx') d' (Ax8 x y) → K (.tup [d', iv (Ai5 x y)]) hp' nx') : KW (kN (k + 13)) (.fn 33) [d1, d2] hp nx K := by
  obtain ⟨d, a, c, rfl, r1, r2, r3⟩ := h1
  obtain ⟨d', a', c', rfl, s1, s2, s3⟩ := h2
  refine kn_2 (Aa0 (by decide)) t33 (Nat.le_of_ble_eq_true rfl) fun es e1 e2 he => ?_
  have a0 : rawE es (.t .o) = .agg [d, a, c] := he 0 _ rfl
  have a1 : rawE es (.t (.l .o)) = .agg [d', a', c'] := he 1 _ rfl
  unfold r33
  subst e1 e2
  simp only [↓bSb]
  refine Ab9 (cs := [d, a, c]) (by rw [evt, a0]; exact AR.live r1 r2 r3) fun hp1 hg1 hk1 => ?_
  simp only [bR] at hg1 hk1
  have hal1 : Al es.hp es.nx hp1 (es.nx + 1) := ⟨by omega, fun j hj => hk1 j (by omega)⟩
  simp only [bSa, ↓bSb]
  refine Ab9 (cs := [d', a', c']) (by simp only [evt, bR, reduceCtorEq, a1]; exact AR.live (s1.ka hn hal1) (s2.ka hn hal1) (s3.ka hn hal1)) fun hp2 hg2 hk2 => ?_
  simp only [bR] at hg2 hk2
  have hal2 : Al es.hp es.nx hp2 (es.nx + 2) := ⟨by omega, fun j hj => by rw [hk2 j (by omega), hk1 j (by omega)]⟩
  have hg1' := (hk2 es.nx (by omega)).trans hg1
  obtain ⟨_, _, _, _, lA⟩ := Aa1 hg1'
  have hrA : ∀ {hp' nx'}, Al es.hp es.nx hp' nx' → AR hp' (Bl n0) (.agg [d, a, c]) x := fun h => ⟨d, a, c, rfl, r1.ka hn h, r2.ka hn h, r3.ka hn h⟩
  have hrB : ∀ {hp' nx'}, Al es.hp es.nx hp' nx' → AR hp' (Bl n0) (.agg [d', a', c']) y := fun h => ⟨d', a', c', rfl, s1.ka hn h, s2.ka hn h, s3.ka hn h⟩
  simp only [bSa, ↓bSb, reduceCtorEq, lA]
  refine kws (A55 (k := k + 4) n0 _ _ _ _ x (by omega) (hrA hal2) hx fun hp3 nx3 hal3 => ?_)
  have hle3 := hal3.le
  have ha3 := hal2.trans hal3
  have hgB3 := (hal3.same (es.nx + 1) (by omega)).trans hg2
  have hgA3 := (hal3.same es.nx (by omega)).trans hg1'
  obtain ⟨_, _, _, _, lB3⟩ := Aa1 hgB3
  by_cases c1 : Ab3 x = 0
  · simp only [bSa, ↓bSb, reduceCtorEq, show decide (¬ Ab3 x = 0) = false by simp [c1], lB3]
    refine kws (A55 (k := k + 4) n0 _ _ _ _ y (by omega) (hrB ha3) hy fun hp4 nx4 hal4 => ?_)
    have hle4 := hal4.le
    have ha4 := ha3.trans hal4
    have hgB4 := (hal4.same (es.nx + 1) (by omega)).trans hgB3
    have hgA4 := (hal4.same es.nx (by omega)).trans hgA3
    obtain ⟨_, _, _, _, lB4⟩ := Aa1 hgB4
    obtain ⟨_, _, _, _, lA4⟩ := Aa1 hgA4
    by_cases c2 : Ab3 y = 0
    · simp only [bSa, ↓bSb, reduceCtorEq, show decide (¬ Ab3 y = 0) = false by simp [c2], lA4, lB4]
      refine kws (Br5 (k := k + 10) n0 _ _ _ _ _ x y (by omega) (hrA ha4) (hrB ha4) hx fun hp5 nx5 hal5 => ?_)
      have hle5 := hal5.le
      have ha5 := ha4.trans hal5
      have hgB5 := (hal5.same (es.nx + 1) (by omega)).trans hgB4
      have hgA5 := (hal5.same es.nx (by omega)).trans hgA4
      obtain ⟨_, _, _, _, lB5⟩ := Aa1 hgB5
      obtain ⟨_, _, _, _, lA5⟩ := Aa1 hgA5
      unfold Ax8 Ai5 at hK
      have hcc : ¬ (Ab3 x ≠ 0 ∨ Ab3 y ≠ 0) := by simp [c1, c2]
      rw [if_neg hcc, if_neg hcc] at hK
      unfold A57 at hK
      cases c3 : decide (x.dims = y.dims) && decide (x.attrs = y.attrs) with
      | false =>
        rw [c3, if_pos rfl, if_pos rfl] at hK
        simp only [bSa, ↓bSb, bP, reduceCtorEq]
        exact hK _ _ _ ha5 .nil
      | true =>
        rw [c3, if_neg (by simp), if_neg (by simp)] at hK
        simp only [bSa, ↓bSb, reduceCtorEq, lA5, lB5]
        refine kws (Bz1 k n0 _ _ _ 7 _ _ x y (by omega) (hrA ha5) (hrB ha5) hx hy (Ax7 c1) (Ax7 c2) (by omega) (by omega) fun hp6 nx6 d6 hal6 ho6 hr6 => ?_)
        have hr6' : RL rChange hp6 (Bl nx6) d6 (diffR x y) := ho6.rl.mono fun j hj => hj.elim (fun h => h.1) fun h => (hr6 j h).2
        simp only [bSa, ↓bSb, bP, reduceCtorEq, hr6'.live]
        exact hK _ _ _ (ha5.trans hal6) hr6'
    · unfold Ax8 Ai5 at hK
      rw [if_pos (Or.inr c2), if_pos (Or.inr c2)] at hK
      simp only [bSa, ↓bSb, bP, reduceCtorEq, show decide (¬ Ab3 y = 0) = true by simp [c2]]
      exact hK _ _ _ ha4 .nil
  · unfold Ax8 Ai5 at hK
    rw [if_pos (Or.inl c1), if_pos (Or.inl c1)] at hK
    simp only [bSa, ↓bSb, bP, reduceCtorEq, show decide (¬ Ab3 x = 0) = true by simp [c1]]
    exact hK _ _ _ ha3 .nil
end
end Go.DD

/- The walk over several sorted cell lists at once, in plain Lean; rows of slices are stored into. -/
namespace Go.DD
set_option linter.unusedSectionVars false
open Go Go.Proofs
def minF : Option (List Int) → List (List PCell) → Option (List Int)
  | a, [] => a
  | a, [] :: hs => minF a hs
  | none, (c :: _) :: hs => minF (some c.pos) hs
  | some p, (c :: _) :: hs => if cmpL c.pos p = -1 then minF (some c.pos) hs else minF (some p) hs
def stA (p : List Int) : List PCell → List PVal
  | [] => []
  | c :: _ => if c.pos = p then c.vals else []
def rsA (p : List Int) : List PCell → List PCell
  | [] => []
  | c :: t => if c.pos = p then t else c :: t
theorem rsA_c (p : List Int) (c : PCell) (t : List PCell) : rsA p (c :: t) = if c.pos = p then t else c :: t := rfl
theorem stA_c (p : List Int) (c : PCell) (t : List PCell) : stA p (c :: t) = if c.pos = p then c.vals else [] := rfl
def walkF : Nat → List (List PCell) → List (List Int × List (List PVal))
  | 0, _ => []
  | n + 1, hs => match minF none hs with
    | none => []
    | some p => (p, hs.map (stA p)) :: walkF n (hs.map (rsA p))
def tot (hs : List (List PCell)) : Nat := (hs.map List.length).sum
def walkL (hs : List (List PCell)) : List (List Int × List (List PVal)) := walkF (tot hs) hs
theorem A21 {hs : List (List PCell)} : ∀ {a : Option (List Int)} {p : List Int}, minF a hs = some p → a = some p ∨ ∃ c t, (c :: t) ∈ hs ∧ c.pos = p := by
  induction hs with
  | nil => intro a p h; exact .inl h
  | cons h hs ih =>
    intro a p e
    have up : (∃ c t, (c :: t) ∈ hs ∧ c.pos = p) → ∃ c t, (c :: t) ∈ h :: hs ∧ c.pos = p := fun ⟨c, t, h1, h2⟩ => ⟨c, t, List.mem_cons_of_mem _ h1, h2⟩
    cases h with
    | nil => cases a <;> exact (ih e).imp id up
    | cons c t =>
      have here : some c.pos = some p → ∃ c2 t2, (c2 :: t2) ∈ (c :: t) :: hs ∧ c2.pos = p := fun h => ⟨c, t, by simp, by simpa using h⟩
      cases a with
      | none => exact .inr ((ih e).elim here up)
      | some q =>
        unfold minF at e
        split at e
        · exact .inr ((ih e).elim here up)
        · exact (ih e).imp id up
theorem Bs3 (p : List Int) (h : List PCell) : (rsA p h).length ≤ h.length := by
  cases h with
  | nil => simp [rsA]
  | cons c t => rw [rsA_c]; split <;> simp
theorem Cm3 (p : List Int) (hs : List (List PCell)) : tot (hs.map (rsA p)) ≤ tot hs := by
  induction hs with
  | nil => simp [tot]
  | cons h hs ih =>
    have := Bs3 p h
    unfold tot at ih ⊢
    simp only [List.map_cons, List.sum_cons]
    omega
theorem Cm4 {p : List Int} {hs : List (List PCell)} {c : PCell} {t : List PCell} (h : (c :: t) ∈ hs) (hc : c.pos = p) : tot (hs.map (rsA p)) < tot hs := by
  induction hs with
  | nil => cases h
  | cons a hs ih =>
    have h1 := Bs3 p a
    have h2 := Cm3 p hs
    unfold tot at ih h2 ⊢
    simp only [List.map_cons, List.sum_cons]
    rcases List.mem_cons.1 h with rfl | h
    · have : (rsA p (c :: t)).length = t.length := by rw [rsA_c, if_pos hc]
      simp only [List.length_cons] at *
      omega
    · have := ih h
      omega
theorem A22 {p : List Int} {h : List PCell} {c : PCell} (hc : c ∈ rsA p h) : c ∈ h := by
  cases h with
  | nil => exact hc
  | cons a t =>
    rw [rsA_c] at hc
    split at hc
    · exact List.mem_cons_of_mem _ hc
    · exact hc
theorem A83 {n : Nat} {hs : List (List PCell)} {p : List Int} (hn : tot hs ≤ n) (h : minF none hs = some p) : ∃ m, n = m + 1 ∧ tot (hs.map (rsA p)) ≤ m ∧ walkF n hs = (p, hs.map (stA p)) :: walkF m (hs.map (rsA p)) := by
  obtain ⟨c, t, h1, h2⟩ := (A21 h).elim (fun h => by cases h) id
  have hlt := Cm4 h1 h2
  obtain ⟨m, rfl⟩ : ∃ m, n = m + 1 := ⟨n - 1, by omega⟩
  refine ⟨m, rfl, by omega, ?_⟩
  show (match minF none hs with
    | none => []
    | some p => (p, hs.map (stA p)) :: walkF m (hs.map (rsA p))) = _
  rw [h]
theorem A23 {n : Nat} {hs : List (List PCell)} (h : minF none hs = none) : walkF n hs = [] := by
  cases n with
  | zero => rfl
  | succ n =>
    show (match minF none hs with
      | none => []
      | some p => (p, hs.map (stA p)) :: walkF n (hs.map (rsA p))) = _
    rw [h]
theorem Rows.set1 {α : Type} {R : Rep α} {T : Nat} {hd : R.dep + 1 ≤ 6} {hp : Tr DObj} {p : Nat → Prop} {v : DV} {x : List α} (hv : RL R hp p v x) : ∀ {l : List (List α)} {fl : List DV} (i : Nat), Rows (rList R T hd) hp p fl l → Rows (rList R T hd) hp p (fl.set i v) (l.set i x)
  | [], _, _, h => by cases h; exact rfl
  | _ :: l, _, 0, ⟨a, b, e, ⟨d, h1, h2⟩, h3⟩ => by subst e h1; exact ⟨[v], b, rfl, ⟨v, rfl, hv⟩, h3⟩
  | _ :: l, _, i + 1, ⟨a, b, e, ⟨d, h1, h2⟩, h3⟩ => by subst e h1; exact ⟨[d], _, rfl, ⟨d, rfl, h2⟩, h3.set1 hv i⟩
def Ap5 {α : Type} (R : Rep α) (T : Nat) (hd : R.dep + 1 ≤ 6 := by decide) : Rep (List α) where
  e := 1
  T := T
  dep := R.dep + 1
  rd hp p ds l := ∃ d, ds = [d] ∧ RL R hp p d l ∧ Nn d l
  cells l := [.sl (l.flatMap R.cells) l.length]
  e0 := Nat.one_pos
  d6 := hd
  len := fun ⟨_, h, _⟩ => by rw [h]; rfl
  keep := fun ⟨d, h, h2, h3⟩ hk => ⟨d, h, h2.keep hk, h3⟩
  mono := fun ⟨d, h, h2, h3⟩ hk => ⟨d, h, h2.mono hk, h3⟩
  refs := fun ⟨d, h, h2, _⟩ id hi => by
    subst h
    exact h2.refs id (by simpa [DV.refsL] using hi)
  pure := fun _ _ l => ⟨_, rfl, .sl l, by cases l with | nil => exact .inr (.inr rfl) | cons a l => exact .inl (by simp)⟩
  ok := fun ⟨d, h, h2, _⟩ c hc => by
    subst h
    obtain rfl := List.mem_singleton.1 hc
    exact h2.ok
  same := fun ⟨d, h, h2, _⟩ c hc n hn => by
    subst h
    obtain rfl := List.mem_singleton.1 hc
    exact h2.same hn
  samec := fun l c hc n hn => by
    obtain rfl := List.mem_singleton.1 hc
    exact (RL.sl (R := R) (hp := .e) (p := fun _ => True) l).same hn
theorem Rows.set1N {α : Type} {R : Rep α} {T : Nat} {hd : R.dep + 1 ≤ 6} {hp : Tr DObj} {p : Nat → Prop} {v : DV} {x : List α} (hv : RL R hp p v x ∧ Nn v x) : ∀ {l : List (List α)} {fl : List DV} (i : Nat), Rows (Ap5 R T hd) hp p fl l → Rows (Ap5 R T hd) hp p (fl.set i v) (l.set i x)
  | [], _, _, h => by cases h; exact rfl
  | _ :: l, _, 0, ⟨a, b, e, ⟨d, h1, h2, h2'⟩, h3⟩ => by subst e h1; exact ⟨[v], b, rfl, ⟨v, rfl, hv.1, hv.2⟩, h3⟩
  | _ :: l, _, i + 1, ⟨a, b, e, ⟨d, h1, h2, h2'⟩, h3⟩ => by subst e h1; exact ⟨[d], _, rfl, ⟨d, rfl, h2, h2'⟩, h3.set1N hv i⟩
theorem Rows.replN {α : Type} {R : Rep α} {T : Nat} {hd : R.dep + 1 ≤ 6} {hp : Tr DObj} {p : Nat → Prop} : ∀ n : Nat, Rows (Ap5 R T hd) hp p (List.replicate n nilS) (List.replicate n [])
  | 0 => rfl
  | n + 1 => ⟨[nilS], List.replicate n nilS, rfl, ⟨nilS, rfl, .nil, .inr (.inl rfl)⟩, Rows.replN n⟩
theorem OL.get {α : Type} {R : Rep α} {hp : Tr DObj} {p : Nat → Prop} {id n e : Nat} {l : List α} (h : OL R hp p (.ms id 0 n e) l) : n = l.length ∧ e = R.e ∧ ∃ fl, hp.get id = some (.row R.T fl) ∧ Rows R hp p fl l := by
  cases h with
  | ms id fl l h hr => exact ⟨rfl, rfl, fl, h, hr⟩
section
variable {call : CallT} {es : ES} {dst : Option Pa} {q : Hold (ES → Prop)}
theorem Cd8 {α : Type} {R : Rep α} {T : Nat} {hd : R.dep + 1 ≤ 6} {p : Nat → Prop} {a x : EO} {id i n : Nat} {v : DV} {l : List (List α)} {m : List α} (ea : rawE es a = .pt id i) (ho : OL (rList R T hd) es.hp p (.ms id 0 n 1) l) (ev : evE es x = v) (hv : RL R es.hp p v m) (hi : i < l.length) (hp0 : ¬ p id)
    (h : ∀ hp', OL (rList R T hd) hp' p (.ms id 0 n 1) (l.set i m) → (∀ j, j ≠ id → hp'.get j = es.hp.get j) → q.val ((ES.mk es.sl hp' es.nx).putE dst .any)) :
    SWs (sU dst (xSt 1 a x)) call es := by
  obtain ⟨hn, _, fl, hg, hr⟩ := ho.get
  have hl := hr.len
  refine Bo8 ea hg ev hv.ok (by rw [hl]; show i < l.length * 1; omega) fun hp' hg' hk' => h hp' ?_ hk'
  have := OL.ms (R := rList R T hd) (p := p) id _ (l.set i m) hg' ((hr.set1 hv i).keep fun j hj => hk' j fun e => hp0 (e ▸ hj))
  rw [List.length_set, ← hn] at this
  exact this
theorem Cd9 {α : Type} {R : Rep α} {T : Nat} {hd : R.dep + 1 ≤ 6} {p : Nat → Prop} {a x : EO} {id i n : Nat} {v : DV} {l : List (List α)} {m : List α} (ea : rawE es a = .pt id i) (ho : OL (Ap5 R T hd) es.hp p (.ms id 0 n 1) l) (ev : evE es x = v) (hv : RL R es.hp p v m) (hnn : Nn v m) (hi : i < l.length) (hp0 : ¬ p id)
    (h : ∀ hp', OL (Ap5 R T hd) hp' p (.ms id 0 n 1) (l.set i m) → (∀ j, j ≠ id → hp'.get j = es.hp.get j) → q.val ((ES.mk es.sl hp' es.nx).putE dst .any)) :
    SWs (sU dst (xSt 1 a x)) call es := by
  obtain ⟨hn, _, fl, hg, hr⟩ := ho.get
  have hl := hr.len
  refine Bo8 ea hg ev hv.ok (by rw [hl]; show i < l.length * 1; omega) fun hp' hg' hk' => h hp' ?_ hk'
  have := OL.ms (R := Ap5 R T hd) (p := p) id _ (l.set i m) hg' ((hr.set1N ⟨hv, hnn⟩ i).keep fun j hj => hk' j fun e => hp0 (e ▸ hj))
  rw [List.length_set, ← hn] at this
  exact this
theorem Bz2 {α : Type} {R : Rep α} {T e b : Nat} {hd : R.dep + 1 ≤ 6} {x y : Operand} {n : Nat} (hx : es.ds.ev x = iv n) (hy : es.ds.ev y = iv n) (hn : n ≤ 65536) (he : e = 1) (hb : b ≤ 64)
    (h : ∀ hp', (∀ p, OL (Ap5 R T hd) hp' p (.ms es.nx 0 n 1) (List.replicate n [])) → (∀ j, j ≠ es.nx → hp'.get j = es.hp.get j) → q.val ((ES.mk es.sl hp' (es.nx + 1)).putE dst (.ms es.nx 0 n 1))) : SWs (sU dst (xAny (.mks T e b [.slice none 0 0] x y))) call es := by
  subst he
  show SW _ _ _ _
  rw [sw_u, x_any]
  have e : (List.replicate n ([Value.slice none 0 0].map DV.v)).flatten = List.replicate n nilS := by
    clear h hx hy hn
    induction n with
    | zero => rfl
    | succ n ih => rw [List.replicate_succ, List.flatten_cons, ih]; rfl
  refine ⟨.ms es.nx 0 n 1, .lay (.row T (List.replicate n nilS)), ?_, ?_⟩
  · have hnb : n * b ≤ 65536 * 64 := Nat.mul_le_mul hn hb
    simp only [execU, hx, hy, iv, intD]
    rw [if_pos ⟨by omega, by omega, by omega, by omega, rfl, by omega⟩, Int.toNat_natCast, e]
  · refine h (es.up (.lay (.row T (List.replicate n nilS)))).hp (fun p => ?_) fun j hj => by rw [Ai0, get_set, if_neg hj]
    have := OL.ms (R := Ap5 R T hd) (p := p) (hp := (es.up (.lay (.row T (List.replicate n nilS)))).hp) es.nx (List.replicate n nilS) (List.replicate n []) (by rw [Ai0, get_set, if_pos rfl]; rfl) (Rows.replN n)
    rw [List.length_replicate] at this
    exact this
end
end Go.DD

/- Contracts: the walk over several cell lists. Conditions: those that each theorem states. -/
namespace Go.DD
set_option linter.unusedSectionVars false
open Go Go.Proofs
theorem Bs4 (k : Nat) (hp : Tr DObj) (nx : Nat) (K : DV → Tr DObj → Nat → Prop) (d : DV) (l : List (List PCell)) (P : Nat → Prop) (hP : ∀ j, P j → j < nx) (h1 : RL rCells hp P d l) (hne : l ≠ []) (hl : l.length < 2000000000) (hK : ∀ hp', (∀ j, j < nx → hp'.get j = hp.get j) → OL rCells hp' P (.ms (nx + 1) 0 l.length 1) l → K (.ms (nx + 1) 0 l.length 1) hp' (nx + 2)) : KW (kN (k + 1)) (.fn 139) [d] hp nx K := by
  have hr : relW 139 [d] = none := by
    unfold relW
    rw [if_neg (by decide), if_pos (by decide)]
    split
    · rename_i e
      exact absurd (by cases h1 <;> simp_all) hne
    · rfl
  refine kn_1 hr t139 (Nat.le_of_ble_eq_true rfl) fun es e1 e2 he => ?_
  have a0 : rawE es (.t .o) = d := he 0 _ rfl
  subst e1 e2
  unfold r139
  simp only [bSa, ↓bSb, reduceCtorEq, a0]
  refine Ak1 false (by simp only [n_ev, bR, bP, h1.live]; exact h1.notnil hne) Af3 ?_
  simp only [bSa, ↓bSb]
  refine Af1 (fl := []) (by rfl) (by rfl) fun hp1 hg1 hk1 => ?_
  simp only [bR] at hg1 hk1
  simp only [bSa, ↓bSb, reduceCtorEq, a0]
  have r1 : RL rCells hp1 P d l := h1.keep fun j hj => hk1 j (by have := hP j hj; omega)
  refine Ad3 (R := rCells) (p := P) (p2 := P) (d := .ms es.nx 0 0 rCells.e) (d2 := d) (l := []) (m := l) (by simp only [bR, reduceCtorEq, bP]; rfl) (.ms es.nx [] [] hg1 rfl) (by simp only [n_ev, bR, bP]; exact r1.live) (r1.srcD (es := ⟨_, hp1, _⟩)) rfl rfl (by simp; omega) (by decide) fun hp2 hk2 h2 => ?_
  simp only [bR, List.nil_append] at hk2 h2
  have h3 := h2 P (fun j hj => by have hj3 : P j := hj.elim id id; have hj2 := hP j hj3; exact ⟨hj3, by omega, by simp [DV.refs]; omega⟩)
  simp only [bSa, ↓bSb, bP, reduceCtorEq, h3.rl.live]
  refine hK _ (fun j hj => ?_) h3
  rw [hk2 j (by omega) (by simp [DV.refs]; omega), hk1 j (by omega)]
theorem Aj4 {hp : Tr DObj} {p : Nat → Prop} {d : DV} {l : List (List PCell)} (h : RL rCells hp p d l) {i : Nat} (hi : i < l.length) : iaD hp 1 d (.v (.int .i64 (i : Int))) = some (adrE 1 d i) := h.ia hi
theorem OL.atS {α : Type} {R : Rep α} {T : Nat} {hd : R.dep + 1 ≤ 6} {hp : Tr DObj} {p : Nat → Prop} {id n : Nat} {l : List (List α)} (h : OL (rList R T hd) hp p (.ms id 0 n 1) l) {i : Nat} (hi : i < l.length) : ∃ a, RL R hp p a l[i] ∧ ldD hp none (adrE 1 (.ms id 0 n 1) i) = some a := by
  obtain ⟨_, _, fl, hg, hr⟩ := h.get
  obtain ⟨rest, e1, a, e2, h2⟩ := hr.at hi
  refine ⟨a, h2, ?_⟩
  show ldD hp none (.pt id (0 + i * 1)) = _
  have e1' : fl.drop (i * 1) = ((fl.drop (i * 1)).take 1) ++ rest := e1
  have e2' : (fl.drop (i * 1)).take 1 = [a] := e2
  rw [ld_p hg, Nat.zero_add, e1', e2']
  rfl
def An0 : Rep (List PVal) := Ap5 rVal 37
theorem RL.iaN {hp : Tr DObj} {p : Nat → Prop} {d : DV} {l : List (List PVal)} (h : RL An0 hp p d l) {i : Nat} (hi : i < l.length) : iaD hp 1 d (.v (.int .i64 (i : Int))) = some (adrE 1 d i) := h.ia hi
theorem RL.atN {hp : Tr DObj} {p : Nat → Prop} {d : DV} {l : List (List PVal)} (h : RL An0 hp p d l) {i : Nat} (hi : i < l.length) : ∃ a, RL rVal hp p a l[i] ∧ Nn a l[i] ∧ ldD hp none (adrE 1 d i) = some a := by
  obtain ⟨ds, hr, h1, h0, h2⟩ := h.at hi
  obtain ⟨a, rfl, h3, h4⟩ := hr
  exact ⟨a, h3, h4, h0 _ rfl⟩
def AtR (hp : Tr DObj) (P : Nat → Prop) (A : DV) : Option (List Int) → Prop
  | none => A = nilS
  | some p => RL rInt hp P A p ∧ p ≠ [] ∧ p.length < 900000
def mixF {α β : Type} (f g : α → β) (i : Nat) (l : List α) : List β := l.mapIdx fun j x => if j < i then f x else g x
theorem Bs5 {α β : Type} (f g : α → β) (i : Nat) (l : List α) : (mixF f g i l).length = l.length := by simp [mixF]
theorem mix_0 {α β : Type} (f g : α → β) (l : List α) : mixF f g 0 l = l.map g := by
  refine List.ext_getElem (by simp [mixF]) fun j h1 h2 => ?_
  simp [mixF]
theorem mix_n {α β : Type} (f g : α → β) (l : List α) : mixF f g l.length l = l.map f := by
  refine List.ext_getElem (by simp [mixF]) fun j h1 h2 => ?_
  have : j < l.length := by simpa [mixF] using h1
  simp [mixF, this]
theorem Cm5 {α β : Type} (f g : α → β) (l : List α) {i : Nat} (h : i < l.length) (h2 : i < (mixF f g i l).length) : (mixF f g i l)[i] = g l[i] := by simp [mixF]
theorem mix_s {α β : Type} (f g : α → β) (l : List α) {i : Nat} (h : i < l.length) : (mixF f g i l).set i (f l[i]) = mixF f g (i + 1) l := by
  refine List.ext_getElem (by simp [mixF]) fun j h1 h2 => ?_
  have hj : j < l.length := by simpa [mixF] using h2
  rw [List.getElem_set]
  by_cases e : i = j
  · subst e; simp [mixF]
  · rw [if_neg e]
    simp only [mixF, List.getElem_mapIdx]
    by_cases c : j < i
    · rw [if_pos c, if_pos (by omega)]
    · rw [if_neg c, if_neg (by omega)]
theorem mix_e {α β : Type} (f g : α → β) (l : List α) {i : Nat} (h : i < l.length) (he : f l[i] = g l[i]) : mixF f g i l = mixF f g (i + 1) l := by
  rw [← mix_s f g l h]
  refine (List.ext_getElem (by simp) fun j h1 h2 => ?_)
  rw [List.getElem_set]
  by_cases e : i = j
  · subst e; simp [mixF, he]
  · rw [if_neg e]
theorem Cm6 {call : CallT} {es : ES} {dst : Option Pa} {Q : ES → Prop} {T e n : Nat} {z : List Value} {x y : Operand} : SW (sU dst (xAny (.mks T e n z x y))) call es Q ↔ @SWs (sU dst (xAny (.mks T e n z x y))) call es ⟨Q⟩ := Iff.rfl
section
variable (k L bx T : Nat) (d : DV) (hs0 : List (List PCell)) (P : Nat → Prop) (J S : List (List Int × List (List PVal)) → (Nat → Prop) → Tr DObj → Nat → Prop) (M0 : Nat → Prop) (hp : Tr DObj) (nx : Nat) (K : DV → Tr DObj → Nat → Prop)
theorem Bz3 (hbx : hp.get bx = some (.row T [d])) (hd : RL rCells hp P d hs0) (hP : ∀ j, P j → j < nx ∧ ¬ M0 j) (hne : hs0 ≠ []) (hl : hs0.length ≤ 1000)
    (hc : ∀ h ∈ hs0, ∀ c ∈ h, c.pos ≠ [] ∧ c.pos.length < 900000 ∧ c.vals ≠ []) (htot : tot hs0 < 900000)
    (hJ0 : J [] M0 hp nx) (hJM : ∀ W M hp nx, J W M hp nx → ∀ j, M j → j < nx) (hJL : ∀ W M hp nx, J W M hp nx → M L ∧ ∃ o, hp.get L = some o)
    (hJk : ∀ W M hp nx hp' nx', J W M hp nx → nx ≤ nx' → (∀ j, M j → hp'.get j = hp.get j) → J W M hp' nx')
    (hstep : ∀ W M hp nx a s p sts (K : DV → Tr DObj → Nat → Prop), J W M hp nx → (W ++ [(p, sts)]) <+: walkL hs0 → RL rInt hp (fun j => j < nx ∧ ¬ M j) a p → RL An0 hp (fun j => j < nx ∧ ¬ M j) s sts →
      (∀ hp' nx' M', nx ≤ nx' → (∀ j, j < nx → ¬ M j → hp'.get j = hp.get j) → (∀ j, M' j → M j ∨ nx ≤ j) → J (W ++ [(p, sts)]) M' hp' nx' → K (bv true) hp' nx') →
      (∀ hp' nx' M', nx ≤ nx' → (∀ j, j < nx → ¬ M j → hp'.get j = hp.get j) → (∀ j, M' j → M j ∨ nx ≤ j) → S (W ++ [(p, sts)]) M' hp' nx' → K (bv false) hp' nx') → KW (kN (k + 4)) (.yl L) [a, s] hp nx K)
    (hK : ∀ hp' nx' M', nx ≤ nx' → (∀ j, j < nx → ¬ M0 j → hp'.get j = hp.get j) → (∀ j, M' j → M0 j ∨ nx ≤ j) → J (walkL hs0) M' hp' nx' → K (.tup []) hp' nx')
    (hKS : ∀ W hp' nx' M', nx ≤ nx' → (∀ j, j < nx → ¬ M0 j → hp'.get j = hp.get j) → (∀ j, M' j → M0 j ∨ nx ≤ j) → S W M' hp' nx' → K (.tup []) hp' nx') :
    KW (kN (k + 5)) (.fn 138) [.yl L, .pt bx 0] hp nx K := by
  refine kn_0 (Aa0 (by decide)) t138 (Nat.le_of_ble_eq_true rfl) fun es e1 e2 he => ?_
  have a0 : rawE es (.t .o) = .yl L := he 0 _ rfl
  have a1 : rawE es (.t (.l .o)) = .pt bx 0 := he 1 _ rfl
  unfold r138
  subst e1 e2
  simp only [bSa, ↓bSb, a1, Bp0 hbx]
  refine kws (Bs4 (k + 3) _ _ _ d hs0 P (fun j hj => (hP j hj).1) hd hne (by omega) fun hp1 hk1 ho1 => ?_)
  have hM0 := hJM _ _ _ _ hJ0
  have hJ1 : J [] M0 hp1 (es.nx + 2) := hJk _ _ _ _ _ _ hJ0 (by omega) fun j hj => hk1 j (hM0 j hj)
  simp only [bSa, ↓bSb]
  refine EW.l (I := fun n es1 => ∃ hs W M, tot hs ≤ n ∧ n < 900000 ∧ hs.length = hs0.length ∧ (∀ h ∈ hs, ∀ c ∈ h, c.pos ≠ [] ∧ c.pos.length < 900000 ∧ c.vals ≠ []) ∧ es.nx + 2 ≤ es1.nx ∧ (∀ j, j < es.nx → ¬ M0 j → es1.hp.get j = es.hp.get j) ∧ (∀ j, M j → M0 j ∨ es.nx + 2 ≤ j) ∧ J W M es1.hp es1.nx ∧ OL rCells es1.hp P (.ms (es.nx + 1) 0 hs0.length 1) hs ∧ rawE es1 (.t .o) = .yl L ∧ rawE es1 (.t (.l (.l .o))) = .ms (es.nx + 1) 0 hs0.length 1 ∧ W ++ walkF n hs = walkL hs0) ?_ (tot hs0) 1000000 _ ?_ (by omega)
  · rintro n es1 ⟨hs, W, M, htn, hn9, hlen, hcs, hle, hfr, hMs, hJ, ho, b0, b3, hW⟩
    unfold B52
    have hPM : ∀ j, P j → j < es.nx ∧ ¬ M j := fun j hj => ⟨(hP j hj).1, fun h => (hMs j h).elim (hP j hj).2 fun h => by have := (hP j hj).1; omega⟩
    have horl := ho.rl
    simp only [bSa, ↓bSb, reduceCtorEq, b3, horl.len]
    refine EW.up hs.length (fun i es2 => ∃ A st, es2.hp = es1.hp ∧ es1.nx ≤ es2.nx ∧ rawE es2 (.t .o) = .yl L ∧ rawE es2 (.t (.l (.l .o))) = .ms (es.nx + 1) 0 hs0.length 1 ∧ rawE es2 (.t (.r (.l (.r .o)))) = .ms (es.nx + 1) 0 hs0.length 1 ∧ rawE es2 (.t (.l (.r (.r .o)))) = iv hs.length ∧ rawE es2 (.t (.r (.r (.r .o)))) = iv (i : Nat) ∧ rawE es2 (.t (.r (.l .o))) = A ∧ AtR es1.hp P A st ∧ minF st (hs.drop i) = minF none hs) ?_ ?_ (by omega)
    · rintro i es2 hi ⟨A, st, g1, g2, x0, x3, x12, x13, x14, x4, hA, hmin⟩
      unfold B50
      rw [← g1] at horl hA ho
      by_cases h : i < hs.length
      · obtain ⟨hh, rh, lh⟩ := ho.atS h
        rw [List.drop_eq_getElem_cons h] at hmin
        have hch := hcs _ (List.getElem_mem h)
        generalize hs[i] = H at rh hmin hch
        cases H with
        | nil =>
          have hmin' : minF st (hs.drop (i + 1)) = minF none hs := by rw [← hmin]; cases st <;> rfl
          simp only [bSa, ↓bSb, reduceCtorEq, x0, x3, x12, x13, x14, x4, h, Aj4 horl h, lh, rh.len, List.length_nil, show decide ((0 : Int) < 0) = false from rfl, Aa3 (show i < _ by omega)]
          exact ⟨A, st, g1, g2, rfl, by rw [← g1]; exact hA, hmin'⟩
        | cons c t =>
          have hch := hch c (by simp)
          have h0 : 0 < (c :: t).length := by simp
          obtain ⟨pA, vA, rpA, rvA, _, _, lpA, _⟩ := cells_at rh h0
          simp only [List.getElem_cons_zero] at rpA
          cases st with
          | none =>
            have hA : A = nilS := hA
            subst hA
            have hmin' : minF (some c.pos) (hs.drop (i + 1)) = minF none hs := hmin
            simp only [bSa, ↓bSb, reduceCtorEq, x12, x13, x14, x4, h, Aj4 horl h, lh, rh.len, show (0 : Int) < ((c :: t).length : Int) from Int.natCast_pos.2 h0]
            refine Ak1 true (by simp only [n_ev, bR, bP, nilS, Am8]; rfl) Af3 ?_
            simp only [bSa, ↓bSb, reduceCtorEq, x0, x3, x12, x13, x14, h, Ae1 rh h0, Ab5 (k := 0) rh h0, lpA, Aa3 (show i < _ by omega)]
            exact ⟨pA, some c.pos, g1, g2, rfl, ⟨by rw [← g1]; exact rpA, hch.1, hch.2.1⟩, hmin'⟩
          | some p =>
            obtain ⟨hA, hp1, hp2⟩ := hA
            simp only [bSa, ↓bSb, reduceCtorEq, x12, x13, x14, x4, h, Aj4 horl h, lh, rh.len, show (0 : Int) < ((c :: t).length : Int) from Int.natCast_pos.2 h0]
            refine Ak1 false (by simp only [n_ev, bR, bP, hA.live]; exact hA.notnil hp1) Af3 ?_
            simp only [bSa, ↓bSb, reduceCtorEq, x4, Ae1 rh h0, Ab5 (k := 0) rh h0, lpA]
            refine kws (Aq4 k es.nx _ _ _ pA A c.pos p (by omega) (rpA.mono fun j hj => (hPM j hj).1) (hA.mono fun j hj => (hPM j hj).1) hch.2.1 ?_)
            by_cases c1 : cmpL c.pos p = -1
            · have hmin' : minF (some c.pos) (hs.drop (i + 1)) = minF none hs := by rw [← hmin]; show _ = if cmpL c.pos p = -1 then _ else _; rw [if_pos c1]
              simp only [bSa, ↓bSb, reduceCtorEq, x0, x3, x12, x13, x14, h, show cmpL c.pos p < 0 by omega, Ae1 rh h0, Ab5 (k := 0) rh h0, lpA, Aa3 (show i < _ by omega)]
              exact ⟨pA, some c.pos, g1, g2, rfl, ⟨by rw [← g1]; exact rpA, hch.1, hch.2.1⟩, hmin'⟩
            · have hmin' : minF (some p) (hs.drop (i + 1)) = minF none hs := by rw [← hmin]; show _ = if cmpL c.pos p = -1 then _ else _; rw [if_neg c1]
              simp only [bSa, ↓bSb, reduceCtorEq, x0, x3, x12, x13, x14, x4, h, show ¬ cmpL c.pos p < 0 by have := Ad1 c.pos p; omega, Aa3 (show i < _ by omega)]
              exact ⟨A, some p, g1, g2, rfl, ⟨by rw [← g1]; exact hA, hp1, hp2⟩, hmin'⟩
      · rw [List.drop_eq_nil_of_le (by omega)] at hmin
        have hst : minF none hs = st := by rw [← hmin]; cases st <;> rfl
        simp only [bSa, ↓bSb, reduceCtorEq, x13, x14, x4, h]
        cases st with
        | none =>
          have hA : A = nilS := hA
          subst hA
          refine Ak1 true (by simp only [n_ev, bR, bP, nilS, Am8]; rfl) Af3 ?_
          simp only [bSa, ↓bSb, reduceCtorEq]
          have hWe : W = walkL hs0 := by rw [← hW, A23 hst, List.append_nil]
          subst hWe
          refine hK _ _ M (by omega) (by rw [g1]; exact hfr) (fun j hj => (hMs j hj).imp id fun h => by omega) (hJk _ _ _ _ _ _ hJ g2 fun j hj => by rw [g1])
        | some p =>
          obtain ⟨hA, hp1, hp2⟩ := hA
          refine Ak1 false (by simp only [n_ev, bR, bP, hA.live]; exact hA.notnil hp1) Af3 ?_
          simp only [bSa, ↓bSb, reduceCtorEq, x3, horl.len]
          simp only [↓Cm6]
          refine Bz2 (R := rVal) (T := 37) (hd := by decide) (n := hs.length) (by simp only [n_ev, bR, bP, Am8]) (by simp only [n_ev, bR, bP, Am8]) (by omega) rfl (by omega) fun hp4 ho4 hk4 => ?_
          simp only [bR] at ho4 hk4
          simp only [bSa, reduceCtorEq, x3]
          have hoH4 : OL rCells hp4 P (.ms (es.nx + 1) 0 hs0.length 1) hs := by
            exact ho.keep fun j hj => hk4 j (by
              rcases hj with hj | hj
              · have := (hPM j hj).1; omega
              · simp [DV.refs] at hj; omega)
          have hA4 : RL rInt hp4 P A p := hA.keep fun j hj => hk4 j (by have := (hPM j hj).1; omega)
          simp only [bSa, hoH4.rl.len]
          refine EW.up hs.length (fun i es3 => OL rCells es3.hp P (.ms (es.nx + 1) 0 hs0.length 1) (mixF (rsA p) id i hs) ∧ OL An0 es3.hp P (.ms es2.nx 0 hs.length 1) (mixF (stA p) (fun _ => []) i hs) ∧ (∀ j, j ≠ es.nx + 1 → j ≠ es2.nx → es3.hp.get j = hp4.get j) ∧ es2.nx + 1 ≤ es3.nx ∧ rawE es3 (.t .o) = .yl L ∧ rawE es3 (.t (.l (.l .o))) = .ms (es.nx + 1) 0 hs0.length 1 ∧ rawE es3 (.t (.r (.l .o))) = A ∧ rawE es3 (.t (.l (.l (.l .o)))) = .ms es2.nx 0 hs.length 1 ∧ rawE es3 (.t (.r (.l (.r (.r (.l .o)))))) = .ms (es.nx + 1) 0 hs0.length 1 ∧ rawE es3 (.t (.l (.r (.r (.r (.l .o)))))) = iv hs.length ∧ rawE es3 (.t (.r (.r (.r (.r (.l .o)))))) = iv (i : Nat)) ?_ ?_ (by omega)
          · rintro i es3 hi ⟨oH, oS, hfr3, hle3, y0, y3, y4, y7, y44, y45, y46⟩
            unfold B51
            have hA3 : RL rInt es3.hp P A p := hA4.keep fun j hj => hfr3 j (by have := (hPM j hj).1; omega) (by have := (hPM j hj).1; omega)
            by_cases h : i < hs.length
            · have hH : i < (mixF (rsA p) id i hs).length := by rw [Bs5]; exact h
              obtain ⟨hh, rh, lh⟩ := oH.atS hH
              have rh : RL rCell es3.hp P hh hs[i] := by rw [Cm5 _ _ _ h] at rh; exact rh
              have hch := hcs _ (List.getElem_mem h)
              have e1 := mix_e (rsA p) id hs h
              have e2 := mix_e (stA p) (fun _ => []) hs h
              have s1 := mix_s (rsA p) id hs h
              have s2 := mix_s (stA p) (fun _ => []) hs h
              generalize hs[i] = H at rh hch e1 e2 s1 s2
              cases H with
              | nil =>
                simp only [bSa, ↓bSb, reduceCtorEq, y0, y3, y4, y7, y44, y45, y46, h, Aj4 oH.rl hH, lh, rh.len, List.length_nil, show decide ((0 : Int) < 0) = false from rfl, Aa3 (show i < _ by omega)]
                exact ⟨by rw [← e1 rfl]; exact oH, by rw [← e2 rfl]; exact oS, hfr3, hle3⟩
              | cons c t =>
                have hch := hch c (by simp)
                have h0 : 0 < (c :: t).length := by simp
                obtain ⟨pA, vA, rpA, rvA, _, _, lpA, lvA⟩ := cells_at rh h0
                simp only [List.getElem_cons_zero] at rpA rvA
                simp only [bSa, ↓bSb, reduceCtorEq, y4, y44, y45, y46, h, Aj4 oH.rl hH, lh, rh.len, show (0 : Int) < ((c :: t).length : Int) from Int.natCast_pos.2 h0, Ae1 rh h0, Ab5 (k := 0) rh h0, lpA]
                refine kws (Aq4 k es.nx _ _ _ pA A c.pos p (by omega) (rpA.mono fun j hj => (hPM j hj).1) (hA3.mono fun j hj => (hPM j hj).1) hch.2.1 ?_)
                by_cases c1 : c.pos = p
                · have rh' := rh.mono (q := Bl es.nx) fun j hj => (hPM j hj).1
                  obtain ⟨_, _, flH, hgH, _⟩ := oH.get
                  obtain ⟨_, _, flS, hgS, _⟩ := oS.get
                  have hS : i < (mixF (stA p) (fun _ => []) i hs).length := by rw [Bs5]; exact h
                  have v1 : Go.DD.sliE 2 hh (some (.v (.int .i64 1))) none = some (slD 2 1 (c :: t).length hh) := rh.sliE (e := 2) (a := 1) (z := (c :: t).length) (lo := some (.v (.int .i64 1))) (hi := none) rfl rfl (fun n hn => by rw [hn]; rfl) h0 (Nat.le_refl _)
                  have rs : RL rCell es3.hp P (slD 2 1 (c :: t).length hh) t := by
                    have this : RL rCell es3.hp P (slD 2 1 (c :: t).length hh) (((c :: t).drop 1).take ((c :: t).length - 1)) := rh.part (a := 1) (z := (c :: t).length) h0 (Nat.le_refl _)
                    have e : ((c :: t).drop 1).take ((c :: t).length - 1) = t := by simp
                    rw [e] at this
                    exact this
                  have rs' := rs.mono (q := Bl es.nx) fun j hj => (hPM j hj).1
                  have rvA' := rvA.mono (q := Bl es.nx) fun j hj => (hPM j hj).1
                  have roS : ∀ an, Aa2 (adrE 1 (.ms es2.nx 0 hs.length 1) i) (fun id => okRef es3.nx 14 an es3.hp id) := fun an j hj => by
                    have : j = es2.nx := by simpa [DV.refs] using Ai1 _ _ _ j hj
                    rw [this]; exact Aa5 hgS (by omega)
                  simp only [bSa, ↓bSb, bP, reduceCtorEq, y3, y7, cmpL_0.2 c1, Ae1 rh h0, Ab5 (k := 1) rh h0, lvA, rh'.rox (show es.nx ≤ es3.nx by omega), Ah2 rh' (show es.nx ≤ es3.nx by omega), Aj0 rh' (show es.nx ≤ es3.nx by omega), Aa5 (n0 := es3.nx) (m := 14) hgH (show es.nx + 1 < es3.nx by omega), Aa5 (n0 := es3.nx) (m := 14) hgS (show es2.nx < es3.nx by omega), Bp1, Option.map_some, Option.map_none, rh.live, v1, oS.rl.iaN hS, iff_true_intro (roS _), rvA'.rox (show es.nx ≤ es3.nx by omega)]
                  refine Aa4 rfl (Cd9 (R := rVal) (T := 37) (hd := by decide) (p := P) (id := es2.nx) (i := i) (n := hs.length) (m := c.vals) (by simp only [bR]; show DV.pt es2.nx (0 + i * 1) = _; simp) oS (by simp only [evt, bR, reduceCtorEq, rvA.live]) rvA (.inl hch.2.2) hS (fun h => by have := (hPM _ h).1; omega) fun hp5 oS5 hk5 => ?_)
                  simp only [bR] at hk5
                  have hk5' : ∀ j, j < es.nx → hp5.get j = es3.hp.get j := fun j hj => hk5 j (by omega)
                  have oH5 : OL rCells hp5 P (.ms (es.nx + 1) 0 hs0.length 1) _ := oH.keep fun j hj => hk5 j (by
                    rcases hj with hj | hj
                    · have := (hPM j hj).1; omega
                    · simp [DV.refs] at hj; omega)
                  obtain ⟨_, _, flH5, hgH5, _⟩ := oH5.get
                  have rs5 := rs.keep (hp' := hp5) fun j hj => hk5' j (hPM j hj).1
                  have rs5' := rs5.mono (q := Bl es.nx) fun j hj => (hPM j hj).1
                  have roH : ∀ an, Aa2 (adrE 1 (.ms (es.nx + 1) 0 hs0.length 1) i) (fun id => okRef es3.nx 14 an hp5 id) := fun an j hj => by
                    have : j = es.nx + 1 := by simpa [DV.refs] using Ai1 _ _ _ j hj
                    rw [this]; exact Aa5 hgH5 (by omega)
                  simp only [bSa, ↓bSb, reduceCtorEq, Aa5 (n0 := es3.nx) (m := 14) hgH5 (show es.nx + 1 < es3.nx by omega), Aj4 oH5.rl hH, iff_true_intro (roH _), rs5'.rox (show es.nx ≤ es3.nx by omega)]
                  refine Aa4 rfl (Cd8 (R := rCell) (T := 24) (hd := by decide) (p := P) (id := es.nx + 1) (i := i) (n := hs0.length) (m := t) (by simp only [bR]; show DV.pt (es.nx + 1) (0 + i * 1) = _; simp) oH5 (by simp only [evt, bR, reduceCtorEq, rs5.live]) rs5 hH (fun h => by have := (hPM _ h).1; omega) fun hp6 oH6 hk6 => ?_)
                  simp only [bR] at hk6
                  have hk6' : ∀ j, j < es.nx → hp6.get j = es3.hp.get j := fun j hj => (hk6 j (by omega)).trans (hk5' j hj)
                  have oS6 : OL An0 hp6 P (.ms es2.nx 0 hs.length 1) _ := OL.keep (R := An0) oS5 fun j hj => hk6 j (by
                    rcases hj with hj | hj
                    · have := (hPM j hj).1; omega
                    · simp [DV.refs] at hj; omega)
                  simp only [bSa, ↓bSb, reduceCtorEq, y0, y3, y4, y7, y44, y45, y46, h, Aa3 (show i < _ by omega)]
                  obtain ⟨_, _, flH6, hgH6, _⟩ := oH6.get
                  have hps : PsOK [⟨13, [12, 9, 11, 0, 1, 2, 3, 4, 5, 6, 7, 8, 10], hp5, hp6⟩, ⟨11, [10, 7, 0, 1, 4, 5, 6], es3.hp, hp5⟩] es3.hp es.nx := ((PsOK.nil _ _).cons (fun _ _ => rfl) hk5').cons hk5' hk6'
                  have s1' : (mixF (rsA p) id i hs).set i t = mixF (rsA p) id (i + 1) hs := by rw [← s1, rsA_c, if_pos c1]
                  have s2' : (mixF (stA p) (fun _ => []) i hs).set i c.vals = mixF (stA p) (fun _ => []) (i + 1) hs := by rw [← s2, stA_c, if_pos c1]
                  refine ⟨Ag4 rh' (fun j (hj : j < es.nx) => by omega) hps (fun _ h => h) (Ag4 rh' (fun j (hj : j < es.nx) => by omega) hps (fun _ h => h) (As5 (fun j hj => ?_) (A10 _ _ _))), by rw [← s1']; exact oH6, by rw [← s2']; exact oS6, fun j hj1 hj2 => by rw [hk6 j hj1, hk5 j hj2, hfr3 j hj1 hj2], by omega⟩
                  have hj : j = es.nx + 1 := by simpa [DV.refs] using hj
                  subst hj
                  refine ⟨by omega, fun p hp => .inr (.inr ?_)⟩
                  rw [if_neg (by simp)]
                  simp only [List.mem_cons, List.not_mem_nil, or_false] at hp
                  rcases hp with rfl | rfl
                  · show (((hp5.get (es.nx + 1)).isSome) == ((hp6.get (es.nx + 1)).isSome)) = true
                    rw [hgH5, hgH6]; rfl
                  · show (((es3.hp.get (es.nx + 1)).isSome) == ((hp5.get (es.nx + 1)).isSome)) = true
                    rw [hgH, hgH5]; rfl
                · simp only [bSa, ↓bSb, reduceCtorEq, y0, y3, y4, y7, y44, y45, y46, h, show decide (cmpL c.pos p = 0) = false by simp [cmpL_0, c1], Aa3 (show i < _ by omega)]
                  exact ⟨by rw [← e1 (by rw [rsA_c, if_neg c1]; rfl)]; exact oH, by rw [← e2 (by rw [stA_c, if_neg c1])]; exact oS, hfr3, hle3⟩
            · have hA3 := hA3
              have hin : i = hs.length := by omega
              subst hin
              rw [mix_n] at oH oS
              have hPl : ∀ j, P j → j < es.nx := fun j hj => (hPM j hj).1
              have hMl := hJM _ _ _ _ hJ
              have hMn : ∀ j, M j → j ≠ es.nx + 1 ∧ j ≠ es2.nx := fun j hj => ⟨fun e => (hMs j hj).elim (fun h => by have := hM0 j h; omega) fun h => by omega, fun e => by have := hMl j hj; omega⟩
              have hfr3' : ∀ j, j < es1.nx → j ≠ es.nx + 1 → es3.hp.get j = es1.hp.get j := fun j hj hj2 => by rw [hfr3 j hj2 (by omega), hk4 j (by omega), g1]
              have hJ3 : J W M es3.hp es3.nx := hJk _ _ _ _ _ _ hJ (by omega) fun j hj => hfr3' j (hMl j hj) (hMn j hj).1
              obtain ⟨hL1, oL, hL2⟩ := hJL _ _ _ _ hJ3
              obtain ⟨n', hn', htn', hwk⟩ := A83 htn hst
              rw [hwk] at hW
              simp only [bSa, ↓bSb, reduceCtorEq, y0, y4, y7, y45, y46, h]
              refine sws_y (L := L) (by simp only [bR, reduceCtorEq]) hL2 ?_
              simp only [List.map_cons, List.map_nil, bR, reduceCtorEq]
              refine hstep W M _ _ A (.ms es2.nx 0 hs.length 1) p (hs.map (stA p)) _ hJ3 ⟨_, by rw [List.append_assoc]; exact hW⟩ (hA3.mono fun j hj => ⟨by have := hPl j hj; omega, (hPM j hj).2⟩) (oS.rl.mono fun j hj => ?_) (fun hp' nx' M' hnx' hfr' hMs' hJ' => ?_) fun hp' nx' M' hnx' hfr' hMs' hS' => ?_
              · rcases hj with hj | hj
                · exact ⟨by have := hPl j hj; omega, (hPM j hj).2⟩
                · have : j = es2.nx := by simpa [DV.refs] using hj
                  exact ⟨by omega, fun h => (hMn j h).2 this⟩
              · simp only [bSa, ↓bSb, reduceCtorEq, y0, y3]
                refine ⟨n', by omega, hs.map (rsA p), W ++ [(p, hs.map (stA p))], M', htn', by omega, by rw [List.length_map]; exact hlen, ?_, by omega, ?_, ?_, hJ', ?_, by rw [List.append_assoc]; exact hW⟩
                · intro h hh c hc
                  obtain ⟨h', hh', rfl⟩ := List.mem_map.1 hh
                  exact hcs h' hh' c (A22 hc)
                · intro j hj hm
                  have hmj : ¬ M j := fun h => (hMs j h).elim hm fun h => by omega
                  rw [hfr' j (by omega) hmj, hfr3' j (by omega) (by omega), hfr j hj hm]
                · intro j hj
                  rcases hMs' j hj with h | h
                  · exact hMs j h
                  · exact .inr (by omega)
                · exact oH.keep fun j hj => by
                    rcases hj with hj | hj
                    · exact hfr' j (by have := hPl j hj; omega) (hPM j hj).2
                    · have : j = es.nx + 1 := by simpa [DV.refs] using hj
                      exact hfr' j (by omega) fun h => (hMn j h).1 this
              · simp only [bSa, ↓bSb, reduceCtorEq]
                refine hKS _ _ _ M' (by omega) (fun j hj hm => ?_) (fun j hj => ?_) hS'
                · have hmj : ¬ M j := fun h => (hMs j h).elim hm fun h => by omega
                  rw [hfr' j (by omega) hmj, hfr3' j (by omega) (by omega), hfr j hj hm]
                · rcases hMs' j hj with h | h
                  · exact (hMs j h).imp id fun h => by omega
                  · exact .inr (by omega)
          · simp only [bSa, reduceCtorEq, x0, x3, x4]
            refine ⟨?_, ?_, fun _ _ _ => trivial⟩
            · rw [mix_0, List.map_id]; exact hoH4
            · rw [mix_0, List.map_const']; exact ho4 P
    · refine ⟨nilS, none, ?_⟩
      simp only [bSa, reduceCtorEq, b0, b3]
      exact ⟨rfl, rfl⟩
  · refine ⟨hs0, [], M0, ?_⟩
    simp only [bSa, reduceCtorEq, a0]
    exact ⟨htot, hc, fun j hj _ => hk1 j hj, fun j hj => .inl hj, hJ1, ho1, rfl⟩
end
end Go.DD

/- Contracts: the changes A77 two cell lists. Conditions: those that each theorem states. -/
namespace Go.DD
set_option linter.unusedSectionVars false
open Go Go.Proofs
theorem Bg0 {n : Nat} : ∀ {hs : List (List PCell)}, ∀ w ∈ walkF n hs, w.2.length = hs.length ∧ (∃ h ∈ hs, ∃ c ∈ h, c.pos = w.1) ∧ ∀ v ∈ w.2, v = [] ∨ ∃ h ∈ hs, ∃ c ∈ h, v = c.vals := by
  induction n with
  | zero => intro hs w h; cases h
  | succ n ih =>
    intro hs w h
    cases e : minF none hs with
    | none => rw [A23 e] at h; cases h
    | some p =>
      have h' : w ∈ (p, hs.map (stA p)) :: walkF n (hs.map (rsA p)) := by
        have : walkF (n + 1) hs = (p, hs.map (stA p)) :: walkF n (hs.map (rsA p)) := by
          show (match minF none hs with
            | none => []
            | some p => (p, hs.map (stA p)) :: walkF n (hs.map (rsA p))) = _
          rw [e]
        rwa [this] at h
      rcases List.mem_cons.1 h' with rfl | h'
      · obtain ⟨c, t, h1, h2⟩ := (A21 e).elim (fun h => by cases h) id
        refine ⟨by simp, ⟨_, h1, c, by simp, h2⟩, fun v hv => ?_⟩
        obtain ⟨h, hh, rfl⟩ := List.mem_map.1 hv
        cases h with
        | nil => exact .inl rfl
        | cons c t =>
          rw [stA_c]
          split
          · exact .inr ⟨_, hh, c, by simp, rfl⟩
          · exact .inl rfl
      · obtain ⟨h1, ⟨h, hh, c, hc, h2⟩, h3⟩ := ih w h'
        obtain ⟨h0, hh0, rfl⟩ := List.mem_map.1 hh
        refine ⟨by rw [h1, List.length_map], ⟨h0, hh0, c, A22 hc, h2⟩, fun v hv => ?_⟩
        rcases h3 v hv with h | ⟨h, hh, c, hc, rfl⟩
        · exact .inl h
        · obtain ⟨h0, hh0, rfl⟩ := List.mem_map.1 hh
          exact .inr ⟨h0, hh0, c, A22 hc, rfl⟩
theorem A58 {n : Nat} : ∀ {hs : List (List PCell)}, (walkF n hs).length ≤ n := by
  induction n with
  | zero => intro hs; exact Nat.le_refl _
  | succ n ih =>
    intro hs
    show (match minF none hs with
      | none => []
      | some p => (p, hs.map (stA p)) :: walkF n (hs.map (rsA p))).length ≤ _
    split
    · simp
    · simp only [List.length_cons]; have := ih (hs := hs.map (rsA ‹_›)); omega
def btw1 (w : List Int × List (List PVal)) : List PCell := match w.2 with
  | [u, v] => if u = v then [] else [⟨w.1, v⟩]
  | _ => []
def btw (W : List (List Int × List (List PVal))) : List PCell := W.flatMap btw1
theorem Bs6 (W : List (List Int × List (List PVal))) : (btw W).length ≤ W.length := by
  induction W with
  | nil => exact Nat.le_refl _
  | cons w W ih =>
    have h : (btw1 w).length ≤ 1 := by
      unfold btw1
      split
      · split <;> simp
      · simp
    unfold btw at ih ⊢
    rw [List.flatMap_cons, List.length_append, List.length_cons]
    omega
theorem Cm7 (z : List Value) (ps : List (Nat × Nat × Operand)) (nid : Nat) (es : ES) : xKeep (xAny (.bld z ps)) nid es = (fillD (z.map .v) (ps.map fun p => (p.1, p.2.1, es.ds.ev p.2.2))).map DV.agg := by
  refine xk_k (X := fun es => (fillD (z.map .v) (ps.map fun p => (p.1, p.2.1, es.ds.ev p.2.2))).map DV.agg) (fun es nid => ?_) nid
  rw [x_any]
  simp only [execU]
  cases fillD (z.map .v) (ps.map fun p => (p.1, p.2.1, es.ds.ev p.2.2)) <;> rfl
theorem ro_pr {a b : DV} {f : Nat → Bool} (h1 : Aa2 a f) (h2 : Aa2 b f) : Aa2 (.agg [a, b]) f := fun id hid => by
  have : id ∈ a.refs ∨ id ∈ b.refs := by simpa [DV.refs, DV.refsL] using hid
  rcases this with h | h
  · exact h1 id h
  · exact h2 id h
def BJ (sl : Tr DV) (L bo : Nat) (W : List (List Int × List (List PVal))) (M : Nat → Prop) (hp : Tr DObj) (nx : Nat) : Prop :=
  ∃ z T, hp.get L = some (.loop ⟨33, .t sl, [12, 13], Ax0, Ax1, .ready, none⟩) ∧ hp.get bo = some (.row T [z]) ∧ OL rChange hp (fun j => M j ∧ j ≠ L ∧ j ≠ bo ∧ j ∉ z.refs) z (btw W) ∧ (∀ j ∈ z.refs, M j ∧ j ≠ L ∧ j ≠ bo) ∧ M L ∧ M bo ∧ L ≠ bo ∧ (∀ j, M j → j < nx) ∧ rawE ⟨sl, .e, 0⟩ (.t (.l (.r .o))) = .pt bo 0
theorem BJ.keep {sl : Tr DV} {L bo : Nat} {W : List (List Int × List (List PVal))} {M : Nat → Prop} {hp hp' : Tr DObj} {nx nx' : Nat} (h : BJ sl L bo W M hp nx) (hn : nx ≤ nx') (hk : ∀ j, M j → hp'.get j = hp.get j) : BJ sl L bo W M hp' nx' := by
  obtain ⟨z, T, h1, h2, h3, h4, h5, h6, h7, h8, h9⟩ := h
  exact ⟨z, T, (hk L h5).trans h1, (hk bo h6).trans h2, h3.keep fun j hj => hk j (hj.elim (fun h => h.1) fun h => (h4 j h).1), h4, h5, h6, h7, fun j hj => Nat.lt_of_lt_of_le (h8 j hj) hn, h9⟩
theorem RL.iaN0 {hp : Tr DObj} {p : Nat → Prop} {d : DV} {l : List (List PVal)} (h : RL An0 hp p d l) (hi : 0 < l.length) : iaD hp 1 d (.v (.int .i64 0)) = some (adrE 1 d 0) := h.ia hi
theorem RL.iaN1 {hp : Tr DObj} {p : Nat → Prop} {d : DV} {l : List (List PVal)} (h : RL An0 hp p d l) (hi : 1 < l.length) : iaD hp 1 d (.v (.int .i64 1)) = some (adrE 1 d 1) := h.ia hi
theorem RL.roaN {hp : Tr DObj} {n0 : Nat} {d : DV} {l : List (List PVal)} {n m i : Nat} {an : List Nat} (h : RL An0 hp (Bl n0) d l) (hn : n0 ≤ n) : Aa2 (adrE 1 d i) (fun id => okRef n m an hp id) ↔ True := iff_true_intro (h.roax hn)
theorem Bs7 (k : Nat) (hp : Tr DObj) (nx : Nat) (K : DV → Tr DObj → Nat → Prop) (sl : Tr DV) (L bo : Nat) (W : List (List Int × List (List PVal))) (M : Nat → Prop) (a s : DV) (p : List Int) (u v : List PVal) (hJ : BJ sl L bo W M hp nx) (ha : RL rInt hp (fun j => j < nx ∧ ¬ M j) a p) (hs : RL An0 hp (fun j => j < nx ∧ ¬ M j) s [u, v]) (hp0 : p ≠ []) (hp1 : p.length < 900000) (hu : u.length < 900000) (hv : v.length < 900000) (hW : W.length < 900000)
    (hK : ∀ hp' nx' M', nx ≤ nx' → (∀ j, j < nx → ¬ M j → hp'.get j = hp.get j) → (∀ j, M' j → M j ∨ nx ≤ j) → BJ sl L bo (W ++ [(p, [u, v])]) M' hp' nx' → K (bv true) hp' nx') :
    KW (kN (k + 2)) (.yl L) [a, s] hp nx K := by
  obtain ⟨z, T, j1, j2, j3, j4, j5, j6, j7, j8, s5⟩ := hJ
  refine kn_yl j1 rfl rfl rfl rfl rfl ?_
  rw [show evalE 1000000 33 true Ax0 = Bp5 from Ck6]
  unfold Bp5
  have hz12 : ∀ hp nx, rawE ⟨zipT [12, 13] [a, s] sl, hp, nx⟩ (.t (.r (.l (.r .o)))) = a := fun hp nx => by
    show rawE (((ES.mk sl hp nx).putE (some (.r (.l (.r .o)))) a).putE (some (.l (.r (.r .o)))) s) (.t (.r (.l (.r .o)))) = a
    simp only [bR, reduceCtorEq]
  have hz13 : ∀ hp nx, rawE ⟨zipT [12, 13] [a, s] sl, hp, nx⟩ (.t (.l (.r (.r .o)))) = s := fun hp nx => by
    show rawE (((ES.mk sl hp nx).putE (some (.r (.l (.r .o)))) a).putE (some (.l (.r (.r .o)))) s) (.t (.l (.r (.r .o)))) = s
    simp only [bR]
  have hz5 : ∀ hp nx, rawE ⟨zipT [12, 13] [a, s] sl, hp, nx⟩ (.t (.l (.r .o))) = .pt bo 0 := fun hp nx => by
    show rawE (((ES.mk sl hp nx).putE (some (.r (.l (.r .o)))) a).putE (some (.l (.r (.r .o)))) s) (.t (.l (.r .o))) = .pt bo 0
    simp only [bR, reduceCtorEq]
    exact s5
  generalize zipT [12, 13] [a, s] sl = zz at hz12 hz13 hz5
  simp only [bSa, ↓bSb, reduceCtorEq, hz12, hz13]
  refine ⟨_, j1, rfl, ?_⟩
  rw [show evalE 1000000 33 true Ax1 = Bp6 from Ck7]
  unfold Bp6
  obtain ⟨lp, hlp⟩ : ∃ lp : DLoop, lp = ⟨33, .t sl, [12, 13], Ax0, Ax1, .busy, none⟩ := ⟨_, rfl⟩
  have hb1 : ∀ j, j ≠ L → (hp.set L (some (.loop lp))).get j = hp.get j := fun j hj => by rw [Tr.get_set, if_neg (Ne.symm hj)]
  have hbL : (hp.set L (some (.loop lp))).get L = some (.loop lp) := by rw [Tr.get_set, if_pos rfl]
  have fin : ∀ (hp2 : Tr DObj) (nx2 : Nat) (M' : Nat → Prop) (z' : DV), nx ≤ nx2 → hp2.get L = some (.loop lp) → hp2.get bo = some (.row T [z']) → OL rChange hp2 (fun j => M' j ∧ j ≠ L ∧ j ≠ bo ∧ j ∉ z'.refs) z' (btw (W ++ [(p, [u, v])])) → (∀ j ∈ z'.refs, M' j ∧ j ≠ L ∧ j ≠ bo) → M' L → M' bo → (∀ j, M' j → j < nx2) → (∀ j, j < nx → ¬ M j → hp2.get j = hp.get j) → (∀ j, M' j → M j ∨ nx ≤ j) →
      K (.v (.bool true)) (hp2.set L (some (.loop { lp with st := .ready, pend := none }))) nx2 := by
    intro hp2 nx2 M' z' q1 q2 q3 q4 q5 q6 q7 q8 q9 q10
    have g1 : ∀ j, j ≠ L → (hp2.set L (some (.loop { lp with st := .ready, pend := none }))).get j = hp2.get j := fun j hj => by rw [Tr.get_set, if_neg (Ne.symm hj)]
    exact hK _ _ M' q1 (fun j hj hm => by rw [g1 j (fun e => hm (e ▸ j5))]; exact q9 j hj hm) q10 ⟨z', T, by rw [Tr.get_set, if_pos rfl, hlp], by rw [g1 bo (Ne.symm j7)]; exact q3, q4.keep fun j hj => g1 j (hj.elim (fun h => h.2.1) fun h => (q5 j h).2.1), q5, q6, q7, j7, q8, s5⟩
  rw [← hlp]
  generalize hp.set L (some (.loop lp)) = hq at hb1 hbL ⊢
  clear hlp
  have kR : ∀ j, (j < nx ∧ ¬ M j) → hq.get j = hp.get j := fun j hj => hb1 j fun e => hj.2 (e ▸ j5)
  have ha1 := ha.keep (hp' := hq) kR
  have hs1 := hs.keep (hp' := hq) kR
  have hs1' := hs1.mono (q := Bl nx) fun j hj => hj.1
  obtain ⟨dU, rU, nU, lU⟩ := hs1.atN (show 0 < [u, v].length by simp)
  obtain ⟨dV, rV, nV, lV⟩ := hs1.atN (show 1 < [u, v].length by simp)
  have rU' : RL rVal hq (Bl nx) dU u := rU.mono fun j hj => hj.1
  have rV' : RL rVal hq (Bl nx) dV v := rV.mono fun j hj => hj.1
  have hbo : hq.get bo = some (.row T [z]) := (hb1 bo (Ne.symm j7)).trans j2
  simp only [bSa, ↓bSb, reduceCtorEq, hs1.iaN0 (by simp), hs1.iaN1 (by simp), lU, lV, hs1'.rox (Nat.le_refl _), hs1'.roaN (Nat.le_refl _), rU'.rox (Nat.le_refl _), rV'.rox (Nat.le_refl _)]
  refine Aa4 rfl (Aa7 ?_)
  simp only [bR, reduceCtorEq, List.map_cons, List.map_nil]
  refine Cl3 (k + 1 - 1) nx _ _ _ dU dV u v (by omega) rU' rV' hu fun nx6 hle6 => ?_
  have hrow : (W ++ [(p, [u, v])]).flatMap btw1 = btw W ++ btw1 (p, [u, v]) := by rw [List.flatMap_append]; simp [btw]
  by_cases c1 : u = v
  · have hrow' : btw (W ++ [(p, [u, v])]) = btw W := by
      show (W ++ [(p, [u, v])]).flatMap btw1 = _
      rw [hrow]; unfold btw1; simp only; rw [if_pos c1, List.append_nil]
    simp only [bSa, ↓bSb, decide_eq_true c1, hle6]
    refine ⟨lp, hbL, fin hq nx6 M z (by omega) hbL hbo ?_ j4 j5 j6 (fun j hj => by have := j8 j hj; omega) (fun j _ hm => hb1 j fun e => hm (e ▸ j5)) fun j hj => .inl hj⟩
    rw [hrow']
    exact j3.keep fun j hj => hb1 j (hj.elim (fun h => h.2.1) fun h => (j4 j h).2.1)
  · have hrow' : btw (W ++ [(p, [u, v])]) = btw W ++ [⟨p, v⟩] := by
      show (W ++ [(p, [u, v])]).flatMap btw1 = _
      rw [hrow]; unfold btw1; simp only; rw [if_neg c1]
    have ha1' := ha1.mono (q := Bl nx) fun j hj => hj.1
    have hLn := j8 L j5
    have hbn := j8 bo j6
    simp only [bSa, ↓bSb, reduceCtorEq, decide_eq_false c1, hle6, hz5, Bp0 hbo, Aa5 (n0 := nx6) (m := 11) hbo (show bo < nx6 by have := j8 bo j6; omega), ha1'.rox (show nx ≤ nx6 by omega)]
    refine Aa4 rfl (Aa7 ?_)
    simp only [bR, List.map_cons, List.map_nil]
    refine Br3 k nx _ _ _ a p (by omega) ha1' (.inl hp0) (by omega) fun hp7 nx7 a' hal7 ho7 hr7 _ => ?_
    have hle7 := hal7.le
    have hs7 := hs1'.ka (nx := nx6 + 11) (by omega) hal7
    have rV7 := rV'.ka (nx := nx6 + 11) (by omega) hal7
    have rA7 := ho7.rlF hr7
    have hbo7 : hp7.get bo = some (.row T [z]) := (hal7.same bo (by omega)).trans hbo
    obtain ⟨dV7, rV7, nV7, lV7⟩ := hs7.atN (show 1 < [u, v].length by simp)
    have rV7 : RL rVal hp7 (Bl nx) dV7 v := rV7
    simp only [bSa, ↓bSb, reduceCtorEq, hle7, hs7.iaN1 (by simp), lV7, hs7.rox (show nx ≤ nx6 by omega), hs7.roaN (show nx ≤ nx6 by omega), rV7.rox (show nx ≤ nx6 by omega)]
    refine Aa4 rfl (Aa7 ?_)
    simp only [bR, List.map_cons, List.map_nil]
    refine Br4 k nx _ _ _ dV7 v (by omega) rV7 nV7 (by omega) fun hp8 nx8 v' hal8 ho8 hr8 _ => ?_
    have hle8 := hal8.le
    have rB8 := ho8.rlF hr8
    have rA8 := rA7.keep (hp' := hp8) fun j hj => hal8.same j hj.2
    have roA : ∀ an, Aa2 a' (fun id => okRef nx6 11 an hp8 id) := fun an => rA8.ro' (n := nx6) (m := 11) fun j hj => .inr hj.1
    have roB : ∀ an, Aa2 v' (fun id => okRef nx6 11 an hp8 id) := fun an => rB8.ro' (n := nx6) (m := 11) fun j hj => .inr (by have := hj.1; omega)
    have roAB : ∀ an, Aa2 (.agg [a', v']) (fun id => okRef nx6 11 an hp8 id) := fun an => ro_pr (roA an) (roB an)
    have hfb := B77 (z := .slice none 0 0) (w := .slice none 0 0) rA8.ok rB8.ok
    simp only [bSa, ↓bSb, bP, reduceCtorEq, hle8, Cm7, rA8.live, rB8.live, hfb, Option.map_some, iff_true_intro (roA _), iff_true_intro (roB _), iff_true_intro (roAB _)]
    refine Bw8 (fl := [a', v']) rfl (by simp only [List.map_cons, List.map_nil, n_ev, bR, bP, Bs0 rA8 rB8]; rfl) fun hp9 hg9 hk9 => ?_
    simp only [bR] at hg9 hk9
    have hk9' : ∀ j, j < nx6 → hp9.get j = hp8.get j := fun j hj => hk9 j (by omega)
    have hkq : ∀ j, j < nx6 → hp9.get j = hq.get j := fun j hj => by rw [hk9' j hj, hal8.same j (by omega), hal7.same j (by omega)]
    have rA9 := rA8.keep (hp' := hp9) fun j hj => hk9 j (by have := hj.1; omega)
    have rB9 := rB8.keep (hp' := hp9) fun j hj => hk9 j (by have := hj.1; omega)
    have j3q : OL rChange hq _ z (btw W) := j3.keep fun j hj => hb1 j (hj.elim (fun h => h.2.1) fun h => (j4 j h).2.1)
    have hzM : ∀ j, (M j ∧ j ≠ L ∧ j ≠ bo ∧ j ∉ z.refs) ∨ j ∈ z.refs → j < nx := fun j hj => hj.elim (fun h => j8 j h.1) fun h => j8 j (j4 j h).1
    have j39 : OL rChange hp9 _ z (btw W) := j3q.keep fun j hj => hkq j (by have := hzM j hj; omega)
    have roZ : ∀ an, Aa2 z (fun id => okRef nx6 11 an hp9 id) := fun an => j39.rl.ro' (n := nx6) (m := 11) fun j hj => .inl (by have := hzM j hj; omega)
    have hblen := Bs6 W
    simp only [bSa, ↓bSb, reduceCtorEq, iff_true_intro (roZ _)]
    refine ⟨Bo9 hg9 rfl, ?_⟩
    refine Aa4 rfl (Ad3 (R := rChange) (p := fun j => M j ∧ j ≠ L ∧ j ≠ bo ∧ j ∉ z.refs) (p2 := Bw (nx6 + 11) nx8) (d := z) (d2 := .ms (nx6 + 8) 0 1 2) (l := btw W) (m := [⟨p, v⟩]) (by simp only [bR, reduceCtorEq, bP]) j39 (by simp only [n_ev, bR, bP]; exact Ag2 hg9) (An7 (R := rChange) (x := ⟨p, v⟩) hg9 (rChange_rd.2 ⟨a', v', rfl, rA9.mono fun j hj => ⟨hj.1, by have := hj.2; omega⟩, rB9.mono fun j hj => ⟨by have := hj.1; omega, hj.2⟩⟩)) rfl rfl (by rw [List.length_singleton]; omega) (by decide) fun hp10 hk10 h10 => ?_)
    simp only [bR] at hk10 h10
    have hzn : ∀ j ∈ z.refs, j < nx := fun j hj => j8 j (j4 j hj).1
    have o10 := h10 (fun j => (M j ∨ (nx ≤ j ∧ j < nx8)) ∧ j ≠ L ∧ j ≠ bo ∧ j ∉ z.refs) (fun j hj => by
      rcases hj with hj | hj
      · exact ⟨⟨.inl hj.1, hj.2⟩, by have := j8 j hj.1; omega, hj.2.2.2⟩
      · have h1 := hj.1
        have h2 := hj.2
        exact ⟨⟨.inr ⟨by omega, h2⟩, by omega, by omega, fun h => by have := hzn j h; omega⟩, by omega, fun h => by have := hzn j h; omega⟩)
    have hbo9 : hp9.get bo = some (.row T [z]) := (hkq bo (by omega)).trans hbo
    have hbo10 : hp10.get bo = some (.row T [z]) := (hk10 bo (by omega) fun h => (j4 bo h).2.2 rfl).trans hbo9
    obtain ⟨_, _, flN, hgN, _⟩ := o10.get
    have roN : ∀ an, okRef nx6 11 an hp10 nx8 = true := fun an => (Ac9 hp10 nx8).2 ⟨by rw [hgN]; rfl, .inr (.inl (by omega))⟩
    simp only [bSa, ↓bSb, reduceCtorEq, hz5, Aa5 (n0 := nx6) (m := 11) hbo10 (show bo < nx6 by omega), roN _, Nat.le_succ]
    refine Aa4 rfl (Bo8 (id := bo) (off := 0) (by simp only [bR, reduceCtorEq, hz5]) hbo10 (by simp only [evt, bR]; exact Ag2 hgN) (ok_ms _ _ _ _) (by simp) fun hp11 hg11 hk11 => ?_)
    simp only [bR] at hg11 hk11
    simp only [bSa, ↓bSb]
    have w7 : ∀ j, j < nx → ¬ M j → hp7.get j = hq.get j := fun j hj _ => hal7.same j (by omega)
    have w8 : ∀ j, j < nx → ¬ M j → hp8.get j = hq.get j := fun j hj hm => by rw [hal8.same j (by omega), w7 j hj hm]
    have w9 : ∀ j, j < nx → ¬ M j → hp9.get j = hq.get j := fun j hj hm => hkq j (by omega)
    have w10 : ∀ j, j < nx → ¬ M j → hp10.get j = hq.get j := fun j hj hm => by rw [hk10 j (by omega) (fun h => hm (j4 j h).1), w9 j hj hm]
    have w11 : ∀ j, j < nx → ¬ M j → hp11.get j = hq.get j := fun j hj hm => by rw [hk11 j (fun e => hm (e ▸ j6)), w10 j hj hm]
    have hps : ∀ q ∈ [(⟨10, [9, 0, 1, 2, 3, 4, 5, 6, 7, 8], hp10, hp11⟩ : Past), ⟨9, [0, 8, 6, 7, 2, 1, 5, 4, 3], hp9, hp10⟩, ⟨6, [5, 2, 4, 3, 1], hp7, hp8⟩, ⟨2, [1], hq, hp7⟩], (∀ j, (j < nx ∧ ¬ M j) → q.a.get j = hq.get j) ∧ ∀ j, (j < nx ∧ ¬ M j) → q.b.get j = hq.get j := by
      intro q hq'
      simp only [List.mem_cons, List.not_mem_nil, or_false] at hq'
      rcases hq' with rfl | rfl | rfl | rfl
      · exact ⟨fun j hj => w10 j hj.1 hj.2, fun j hj => w11 j hj.1 hj.2⟩
      · exact ⟨fun j hj => w9 j hj.1 hj.2, fun j hj => w10 j hj.1 hj.2⟩
      · exact ⟨fun j hj => w7 j hj.1 hj.2, fun j hj => w8 j hj.1 hj.2⟩
      · exact ⟨fun j hj => rfl, fun j hj => w7 j hj.1 hj.2⟩
    have hsz : ∀ c ∈ [z], Ab7 6 c c = true := fun c hc => by rw [List.mem_singleton.1 hc]; exact j39.rl.same (by decide)
    have hbo8 : hp8.get bo = some (.row T [z]) := (hal8.same bo (by omega)).trans hbo7
    refine ⟨Ag4 hs1 (fun j hj => by have := hj.1; omega) hps (Ai1 _ _ _) (Ag4 hs1 (fun j hj => by have := hj.1; omega) hps (fun _ h => h) (Ag4 hs1 (fun j hj => by have := hj.1; omega) hps (fun _ h => h) (As5 (fun j hj => ?_) (A10 _ _ _)))), lp, ?_, ?_⟩
    · have hj : j = bo := by simpa [DV.refs] using hj
      subst hj
      refine ⟨by omega, fun q hq' => ?_⟩
      simp only [List.mem_cons, List.not_mem_nil, or_false] at hq'
      rcases hq' with rfl | rfl | rfl | rfl
      · exact .inl rfl
      · exact .inl rfl
      · exact .inr (.inr (by rw [if_pos rfl]; exact Ak0 hbo7 (hbo8.trans hbo7.symm) hsz))
      · exact .inr (.inr (by rw [if_pos rfl]; exact Ak0 hbo (hbo7.trans hbo.symm) hsz))
    · rw [hk11 L j7, hk10 L (by omega) (fun h => (j4 L h).2.1 rfl), hkq L (by omega)]
      exact hbL
    · refine fin hp11 (nx8 + 1) (fun j => M j ∨ (nx ≤ j ∧ j < nx8 + 1)) (.ms nx8 0 (btw W ++ [(⟨p, v⟩ : PCell)]).length 2) (by omega) ?_ ?_ ?_ ?_ (.inl j5) (.inl j6) ?_ ?_ ?_
      · rw [hk11 L j7, hk10 L (by omega) (fun h => (j4 L h).2.1 rfl), hkq L (by omega)]
        exact hbL
      · exact hg11
      · rw [hrow']
        have o11 := o10.keep (hp' := hp11) fun j hj => hk11 j (by
          rcases hj with hj | hj
          · exact hj.2.2.1
          · have : j = nx8 := by simpa [DV.refs] using hj
            omega)
        refine OL.mono o11 fun j hj => ?_
        refine ⟨hj.1.imp id (fun h => And.intro h.1 (Nat.lt_succ_of_lt h.2)), hj.2.1, hj.2.2.1, fun h => ?_⟩
        have h : j = nx8 := by simpa [DV.refs] using h
        rcases hj.1 with h2 | h2
        · have := j8 j h2; omega
        · have := h2.2; omega
      · intro j hj
        have : j = nx8 := by simpa [DV.refs] using hj
        exact ⟨.inr ⟨by omega, by omega⟩, by omega, by omega⟩
      · intro j hj
        rcases hj with h | h
        · have := j8 j h; omega
        · exact h.2
      · intro j hj hm
        rw [w11 j hj hm]
        exact hb1 j fun e => hm (e ▸ j5)
      · exact fun j hj => hj.imp id fun h => h.1
end Go.DD

/- Contracts: the program's Delta. Conditions: those that each theorem states. -/
namespace Go.DD
set_option linter.unusedSectionVars false
open Go Go.Proofs
theorem Rows.two {R : Rep (List PCell)} {hp : Tr DObj} {p : Nat → Prop} {a b : DV} {x y : List PCell} (h1 : R.rd hp p [a] x) (h2 : R.rd hp p [b] y) : Rows R hp p [a, b] [x, y] := ⟨[a], [b], rfl, h1, [b], [], rfl, h2, rfl⟩
theorem Cm8 {z : Value} {a b : DV} (h1 : a.okC = true ∧ a.cells = [a]) (h2 : b.okC = true ∧ b.cells = [b]) : fillD (List.replicate 2 ([z].map DV.v)).flatten [(0, 1, a), (1, 1, b)] = some [a, b] := by
  simp [fillD, h1.1, h1.2, h2.1, h2.2]
theorem Ax9 {x : PArr} (h : Ab3 x = 0) : ∀ c ∈ x.cells, c.vals ≠ [] := fun c hc he => by
  have h1 := (Ah4 h).2.1 c hc
  have h2 := (Ah4 h).2.2
  have h3 : c.vals.length = x.attrs.length := by
    unfold cellE at h1
    split at h1
    · cases h1
    · rename_i h3; omega
  have h4 : x.attrs.length = 0 := by rw [← h3, he]; rfl
  unfold Af2 at h2
  split at h2
  · rename_i h5; exact h5 h2
  · rw [if_pos (Or.inl (show x.attrs.length < 1 by omega))] at h2; cases h2
def An1 (x y : PArr) : List PCell := if Ab3 x ≠ 0 ∨ Ab3 y ≠ 0 then [] else if A57 x y = false then [] else btw (walkL [x.cells, y.cells])
section
variable (k n0 : Nat) (hp : Tr DObj) (nx : Nat) (K : DV → Tr DObj → Nat → Prop)
theorem Ce0 (d : DV) (hd : d.okC = true ∧ d.cells = [d]) (hl : liveE hp d = d) (hK : ∀ hp', hp'.get nx = some (.row 201 [d]) → (∀ j, j ≠ nx → hp'.get j = hp.get j) → K (.fn (.func 138) [.tup [], .pt nx 0]) hp' (nx + 1)) : KW (kN (k + 1)) (.fn 68) [d] hp nx K := by
  refine kn_1 (Aa0 (by decide)) t68 (Nat.le_of_ble_eq_true rfl) fun es e1 e2 he => ?_
  have a0 : rawE es (.t .o) = d := he 0 _ rfl
  unfold r68
  subst e1 e2
  simp only [↓bSb]
  refine Ck2 (v := d) (by simp only [evt, a0, hl]) hd fun hp1 hg1 hk1 => ?_
  simp only [bR] at hg1 hk1
  simp only [bSa, ↓bSb, bP, reduceCtorEq]
  have e1 : liveE hp1 (.pt es.nx 0) = .pt es.nx 0 := Ak5 fun id hid => by
    have : id = es.nx := by simpa [DV.refs] using hid
    rw [this, hg1]; rfl
  rw [e1]
  have e2 : liveE hp1 (.fn (.func 138) [.tup [], .pt es.nx 0]) = .fn (.func 138) [.tup [], .pt es.nx 0] := Ak5 fun id hid => by
    have : id = es.nx := by simpa [DV.refs, DV.refsL] using hid
    rw [this, hg1]; rfl
  rw [e2]
  exact hK _ hg1 hk1
theorem Cm9 {es1 : ES} {Q : Exit → ES → Prop} (bo : Nat) (l m : List PCell) (hn : n0 ≤ bo) (hb : es1.nx = bo + 3) (hrow : RL rCells es1.hp (fun j => j < n0 ∨ j = bo + 1) (.ms (bo + 1) 0 2 1) [l, m]) (hl : l.length + m.length ≤ 128)
    (hc : ∀ c, c ∈ l ∨ c ∈ m → c.pos ≠ [] ∧ c.pos.length < 900000 ∧ c.vals ≠ [] ∧ c.vals.length < 900000)
    (hgb : es1.hp.get bo = some (.row 109 [nilS])) (hg3 : es1.hp.get (bo + 1 + 1) = some (.row 201 [.ms (bo + 1) 0 2 1])) (b5 : rawE es1 (.t (.l (.r .o))) = .pt bo 0) (b11 : rawE es1 (.t (.l (.l (.r .o)))) = .fn (.func 138) [.tup [], .pt (bo + 1 + 1) 0])
    (hQ : ∀ hp' nx' z T, es1.nx ≤ nx' → (∀ j, j < bo → hp'.get j = es1.hp.get j) → hp'.get bo = some (.row T [z]) → RL rChange hp' (Bl nx') z (btw (walkL [l, m])) → Q .normal ⟨es1.sl, hp', nx'⟩) :
    EW (cR 33 false (.t (.l (.l (.r .o)))) [12, 13] Ax0 Ax1) (kN (k + 5)) es1 Q := by
  have htl : tot [l, m] = l.length + m.length := by simp [tot]
  have hwin := fun w (hw : w ∈ walkL [l, m]) => Bg0 (n := tot [l, m]) (hs := [l, m]) w hw
  have hwl : (walkL [l, m]).length ≤ 128 := Nat.le_trans A58 (by omega)
  have hcell : ∀ h ∈ [l, m], ∀ c ∈ h, c ∈ l ∨ c ∈ m := fun h hh c hch => by
    simp only [List.mem_cons, List.not_mem_nil, or_false] at hh
    rcases hh with rfl | rfl
    · exact .inl hch
    · exact .inr hch
  have hset : ∀ (x : Option DObj) j, j ≠ bo + 3 → (es1.hp.set (bo + 3) x).get j = es1.hp.get j := fun x j hj => by rw [Tr.get_set, if_neg (Ne.symm hj)]
  refine Cj9 (f := 138) (cs := [.pt (bo + 1 + 1) 0]) ?_ ?_
  · rw [evt, b11]
    exact Ak5 fun id hid => by
      have : id = bo + 1 + 1 := by simpa [DV.refs, DV.refsL] using hid
      rw [this, hg3]; rfl
  · rw [hb]
    refine Bz3 k (bo + 3) (bo + 1 + 1) 201 (.ms (bo + 1) 0 2 1) [l, m] (fun j => j < n0 ∨ j = bo + 1) (BJ es1.sl (bo + 3) bo) (fun _ _ _ _ => False) (fun j => j = bo + 3 ∨ j = bo) _ _ _ ((hset _ _ (by omega)).trans hg3) (hrow.keep fun j hj => hset _ j (by rcases hj with h | h <;> omega)) (fun j hj => by rcases hj with h | h <;> exact ⟨by omega, by omega⟩) (by simp) (by simp) (fun h hh c hc' => by obtain ⟨h1, h2, h3, h4⟩ := hc c (hcell h hh c hc'); exact ⟨h1, h2, h3⟩) (by omega) ?_ ?_ ?_ ?_ ?_ ?_ ?_
    · exact ⟨nilS, 109, by rw [Tr.get_set, if_pos rfl], by rw [hset _ _ (by omega)]; exact hgb, .nil, fun j hj => by (cases hj), .inl rfl, .inr rfl, by omega, fun j hj => by rcases hj with h | h <;> omega, b5⟩
    · exact fun W M hp nx ⟨z, T, h1, h2, h3, h4, h5, h6, h7, h8, h9⟩ => h8
    · exact fun W M hp nx ⟨z, T, h1, h2, h3, h4, h5, h6, h7, h8, h9⟩ => ⟨h5, _, h1⟩
    · exact fun W M hp nx hp' nx' h hn hk => h.keep hn hk
    · intro W M hp nx a s p sts K hJ hpre ha hs hKt _
      have hmem : (p, sts) ∈ walkL [l, m] := hpre.subset (by simp)
      obtain ⟨g1, ⟨h, hh, c, hc', g2⟩, g3⟩ := hwin _ hmem
      obtain ⟨u, v, rfl⟩ : ∃ u v, sts = [u, v] := by
        match sts, g1 with
        | [u, v], _ => exact ⟨u, v, rfl⟩
      have g2 : c.pos = p := g2
      have hpc := hc c (hcell h hh c hc')
      have hval : ∀ x ∈ [u, v], x.length < 900000 := fun x hx => by
        rcases g3 x hx with rfl | ⟨h, hh, c, hc', rfl⟩
        · simp
        · exact (hc c (hcell h hh c hc')).2.2.2
      refine Bs7 (k + 2) hp nx K _ _ _ W M a s p u v hJ ha hs (by rw [← g2]; exact hpc.1) (by rw [← g2]; exact hpc.2.1) (hval u (by simp)) (hval v (by simp)) ?_ hKt
      have := hpre.length_le
      rw [List.length_append] at this
      omega
    · intro hp' nx' M' hnx' hfr' hM' ⟨z, T, g1, g2, g3, g4, g5, g6, g7, g8, g9⟩
      have hs4 : ∀ j, j ≠ bo + 3 → (hp'.set (bo + 3) none).get j = hp'.get j := fun j hj => by rw [Tr.get_set, if_neg (Ne.symm hj)]
      refine ⟨_, g1, by simp, .inl ⟨rfl, ?_⟩⟩
      have gb : (hp'.set (bo + 3) none).get bo = some (.row T [z]) := (hs4 _ (by omega)).trans g2
      have o' := g3.keep (hp' := hp'.set (bo + 3) none) fun j hj => hs4 j (hj.elim (fun h => h.2.1) fun h => (g4 j h).2.1)
      have r' : RL rChange (hp'.set (bo + 3) none) (Bl nx') z (btw (walkL [l, m])) := o'.rl.mono fun j hj => g8 j (hj.elim (fun h => h.1) fun h => (g4 j h).1)
      refine hQ _ _ z T (by omega) (fun j hj => ?_) gb r'
      rw [hs4 j (by omega), hfr' j (by omega) (by omega), hset _ j (by omega)]
    · exact fun _ _ _ _ _ _ _ h => h.elim
theorem Bi3 (d1 d2 : DV) (l m : List PCell) (hn : n0 ≤ nx) (h1 : RL rCell hp (Bl n0) d1 l) (h2 : RL rCell hp (Bl n0) d2 m) (hl : l.length + m.length ≤ 128)
    (hc : ∀ c, c ∈ l ∨ c ∈ m → c.pos ≠ [] ∧ c.pos.length < 900000 ∧ c.vals ≠ [] ∧ c.vals.length < 900000)
    (hK : ∀ hp' nx' d', Al hp nx hp' nx' → RL rChange hp' (Bl nx') d' (btw (walkL [l, m])) → K d' hp' nx') : KW (kN (k + 6)) (.fn 81) [d1, d2] hp nx K := by
  refine kn_1 (Aa0 (by decide)) t81 (Nat.le_of_ble_eq_true rfl) fun es e1 e2 he => ?_
  have a0 : rawE es (.t .o) = d1 := he 0 _ rfl
  have a1 : rawE es (.t (.l .o)) = d2 := he 1 _ rfl
  unfold r81
  subst e1 e2
  simp only [bSa, ↓bSb]
  refine A48 fun hp1 hg1 hk1 => ?_
  simp only [bR] at hg1 hk1
  have q1 := h1.keep fun j (hj : j < n0) => hk1 j (by omega)
  have q2 := h2.keep fun j (hj : j < n0) => hk1 j (by omega)
  simp only [bSa, ↓bSb, reduceCtorEq, a0, a1]
  refine Af1 (fl := [d1, d2]) rfl (by simp only [List.map_cons, List.map_nil, n_ev, bR, reduceCtorEq, bP, q1.live, q2.live]; exact Cm8 q1.ok q2.ok) fun hp2 hg2 hk2 => ?_
  simp only [bR] at hg2 hk2
  have q1' := q1.keep fun j (hj : j < n0) => hk2 j (by omega)
  have q2' := q2.keep fun j (hj : j < n0) => hk2 j (by omega)
  have hrow : RL rCells hp2 (fun j => j < n0 ∨ j = es.nx + 1) (.ms (es.nx + 1) 0 2 1) [l, m] := (OL.ms (R := rCells) (p := Bl n0) (es.nx + 1) _ [l, m] hg2 (Rows.two ⟨_, rfl, q1'⟩ ⟨_, rfl, q2'⟩)).rl.mono fun j hj => hj.imp id fun h => by simpa [DV.refs] using h
  simp only [bSa, ↓bSb]
  refine kws (Ce0 (k + 4) _ _ _ _ ⟨rfl, rfl⟩ hrow.live fun hp3 hg3 hk3 => ?_)
  have hbo3 : hp3.get es.nx = some (.row 109 [nilS]) := by rw [hk3 _ (by omega), hk2 _ (by omega)]; exact hg1
  have hrow3 := hrow.keep (hp' := hp3) fun j hj => hk3 j (by rcases hj with h | h <;> omega)
  simp only [bSa, ↓bSb]
  refine Cm9 k n0 es.nx l m hn rfl hrow3 hl hc hbo3 hg3 (by simp only [bR, reduceCtorEq]) (by simp only [bR]) fun hp4 nx4 z T hnx4 hfr4 hgb4 hr4 => ?_
  simp only [bSa, ↓bSb, bP, reduceCtorEq, Bp0 hgb4, hr4.live]
  refine hK _ _ z ⟨by simp only [] at hnx4; omega, fun j hj => ?_⟩ hr4
  rw [hfr4 j hj]
  simp only []
  rw [hk3 j (by omega), hk2 j (by omega), hk1 j (by omega)]
theorem Bz4 (d1 d2 : DV) (x y : PArr) (hn : n0 ≤ nx) (h1 : AR hp (Bl n0) d1 x) (h2 : AR hp (Bl n0) d2 y) (hx : AOK x) (hy : AOK y) (hc : x.cells.length + y.cells.length ≤ 128)
    (hK : ∀ hp' nx' d', Al hp nx hp' nx' → RL rChange hp' (Bl nx') d' (An1 x y) → K (.tup [d', iv (Ai5 x y)]) hp' nx') : KW (kN (k + 13)) (.fn 32) [d1, d2] hp nx K := by
  obtain ⟨d, a, c, rfl, r1, r2, r3⟩ := h1
  obtain ⟨d', a', c', rfl, s1, s2, s3⟩ := h2
  refine kn_2 (Aa0 (by decide)) t32 (Nat.le_of_ble_eq_true rfl) fun es e1 e2 he => ?_
  have a0 : rawE es (.t .o) = .agg [d, a, c] := he 0 _ rfl
  have a1 : rawE es (.t (.l .o)) = .agg [d', a', c'] := he 1 _ rfl
  unfold r32
  subst e1 e2
  simp only [↓bSb]
  refine Ab9 (cs := [d, a, c]) (by rw [evt, a0]; exact AR.live r1 r2 r3) fun hp1 hg1 hk1 => ?_
  simp only [bR] at hg1 hk1
  have hal1 : Al es.hp es.nx hp1 (es.nx + 1) := ⟨by omega, fun j hj => hk1 j (by omega)⟩
  simp only [bSa, ↓bSb]
  refine Ab9 (cs := [d', a', c']) (by simp only [evt, bR, reduceCtorEq, a1]; exact AR.live (s1.ka hn hal1) (s2.ka hn hal1) (s3.ka hn hal1)) fun hp2 hg2 hk2 => ?_
  simp only [bR] at hg2 hk2
  have hal2 : Al es.hp es.nx hp2 (es.nx + 2) := ⟨by omega, fun j hj => by rw [hk2 j (by omega), hk1 j (by omega)]⟩
  have hg1' := (hk2 es.nx (by omega)).trans hg1
  obtain ⟨_, _, _, _, lA⟩ := Aa1 hg1'
  have hrA : ∀ {hp' nx'}, Al es.hp es.nx hp' nx' → AR hp' (Bl n0) (.agg [d, a, c]) x := fun h => ⟨d, a, c, rfl, r1.ka hn h, r2.ka hn h, r3.ka hn h⟩
  have hrB : ∀ {hp' nx'}, Al es.hp es.nx hp' nx' → AR hp' (Bl n0) (.agg [d', a', c']) y := fun h => ⟨d', a', c', rfl, s1.ka hn h, s2.ka hn h, s3.ka hn h⟩
  simp only [bSa, ↓bSb, reduceCtorEq, lA]
  refine kws (Bf5 (k := k + 5) n0 _ _ _ _ x (by omega) (hrA hal2) hx fun hp3 nx3 hal3 => ?_)
  have hle3 := hal3.le
  have ha3 := hal2.trans hal3
  have hgB3 := (hal3.same (es.nx + 1) (by omega)).trans hg2
  have hgA3 := (hal3.same es.nx (by omega)).trans hg1'
  obtain ⟨_, _, _, _, lB3⟩ := Aa1 hgB3
  by_cases c1 : Ab3 x = 0
  · simp only [bSa, ↓bSb, reduceCtorEq, show decide (¬ Ab3 x = 0) = false by simp [c1], lB3]
    refine kws (Bf5 (k := k + 5) n0 _ _ _ _ y (by omega) (hrB ha3) hy fun hp4 nx4 hal4 => ?_)
    have hle4 := hal4.le
    have ha4 := ha3.trans hal4
    have hgB4 := (hal4.same (es.nx + 1) (by omega)).trans hgB3
    have hgA4 := (hal4.same es.nx (by omega)).trans hgA3
    obtain ⟨_, _, _, _, lB4⟩ := Aa1 hgB4
    obtain ⟨_, _, _, _, lA4⟩ := Aa1 hgA4
    by_cases c2 : Ab3 y = 0
    · simp only [bSa, ↓bSb, reduceCtorEq, show decide (¬ Ab3 y = 0) = false by simp [c2], lA4, lB4]
      refine kws (By7 (k := k + 10) n0 _ _ _ _ _ x y (by omega) (hrA ha4) (hrB ha4) hx fun hp5 nx5 hal5 => ?_)
      have hle5 := hal5.le
      have ha5 := ha4.trans hal5
      have hgB5 := (hal5.same (es.nx + 1) (by omega)).trans hgB4
      have hgA5 := (hal5.same es.nx (by omega)).trans hgA4
      obtain ⟨_, _, _, _, lB5⟩ := Aa1 hgB5
      obtain ⟨_, _, _, _, lA5⟩ := Aa1 hgA5
      unfold An1 Ai5 at hK
      have hcc : ¬ (Ab3 x ≠ 0 ∨ Ab3 y ≠ 0) := by simp [c1, c2]
      rw [if_neg hcc, if_neg hcc] at hK
      unfold A57 at hK
      cases c3 : decide (x.dims = y.dims) && decide (x.attrs = y.attrs) with
      | false =>
        rw [c3, if_pos rfl, if_pos rfl] at hK
        simp only [bSa, ↓bSb, bP, reduceCtorEq]
        exact hK _ _ _ ha5 .nil
      | true =>
        rw [c3, if_neg (by simp), if_neg (by simp)] at hK
        obtain ⟨⟨_, _, fA⟩, _, _, lA2, _⟩ := Aa1 hgA5
        obtain ⟨⟨_, _, fB⟩, _, _, lB2, _⟩ := Aa1 hgB5
        simp only [bSa, ↓bSb, reduceCtorEq, fA, fB, lA2, lB2]
        refine kws (Bi3 (k + 6) n0 _ _ _ c c' x.cells y.cells (by omega) (r3.ka hn ha5) (s3.ka hn ha5) hc (fun e he => ?_) fun hp6 nx6 d6 hal6 hr6 => ?_)
        · rcases he with he | he
          · exact ⟨A56 c1 e he, (hx.e e he).1, Ax9 c1 e he, (hx.e e he).2.1⟩
          · exact ⟨A56 c2 e he, (hy.e e he).1, Ax9 c2 e he, (hy.e e he).2.1⟩
        simp only [bSa, ↓bSb, bP, reduceCtorEq, hr6.live]
        exact hK _ _ _ (ha5.trans hal6) hr6
    · unfold An1 Ai5 at hK
      rw [if_pos (Or.inr c2), if_pos (Or.inr c2)] at hK
      simp only [bSa, ↓bSb, bP, reduceCtorEq, show decide (¬ Ab3 y = 0) = true by simp [c2]]
      exact hK _ _ _ ha4 .nil
  · unfold An1 Ai5 at hK
    rw [if_pos (Or.inl c1), if_pos (Or.inl c1)] at hK
    simp only [bSa, ↓bSb, bP, reduceCtorEq, show decide (¬ Ab3 x = 0) = true by simp [c1]]
    exact hK _ _ _ ha3 .nil
end
end Go.DD

/- The program's difference and the reference's are the same, in plain Lean. -/
namespace Go.DD
set_option linter.unusedSectionVars false
open Go Go.Proofs
def Srt (l : List PCell) : Prop := l.Pairwise (fun x y => cmpL x.pos y.pos = -1)
theorem A59 {hs : List (List PCell)} : ∀ {a : Option (List Int)}, minF a hs = none → a = none ∧ ∀ h ∈ hs, h = [] := by
  induction hs with
  | nil => intro a h; exact ⟨h, fun h hh => by cases hh⟩
  | cons h hs ih =>
    intro a e
    cases h with
    | nil =>
      have e' : minF a hs = none := by cases a <;> exact e
      obtain ⟨h1, h2⟩ := ih e'
      exact ⟨h1, fun h hh => (List.mem_cons.1 hh).elim (fun h => h) (h2 h)⟩
    | cons c t =>
      cases a with
      | none => exact absurd (ih e).1 (by simp)
      | some q =>
        unfold minF at e
        split at e
        · exact absurd (ih e).1 (by simp)
        · exact absurd (ih e).1 (by simp)
theorem Bs8 (p : List Int) : cmpL p p = 0 := cmpL_0.2 rfl
theorem Bz5 {hs : List (List PCell)} : ∀ {a : Option (List Int)} {p : List Int}, minF a hs = some p → (∀ q, a = some q → q = p ∨ cmpL p q = -1) ∧ ∀ c t, (c :: t) ∈ hs → c.pos = p ∨ cmpL p c.pos = -1 := by
  induction hs with
  | nil => intro a p h; exact ⟨fun q hq => .inl (by rw [show a = some p from h] at hq; exact (Option.some.inj hq).symm), fun c t h => by cases h⟩
  | cons h hs ih =>
    intro a p e
    cases h with
    | nil =>
      have e' : minF a hs = some p := by cases a <;> exact e
      obtain ⟨h1, h2⟩ := ih e'
      exact ⟨h1, fun c t hh => (List.mem_cons.1 hh).elim (fun h => by cases h) (h2 c t)⟩
    | cons c t =>
      cases a with
      | none =>
        obtain ⟨h1, h2⟩ := ih (show minF (some c.pos) hs = some p from e)
        refine ⟨fun q hq => by (cases hq), fun c' t' hh => ?_⟩
        rcases List.mem_cons.1 hh with h | h
        · cases h; exact h1 _ rfl
        · exact h2 c' t' h
      | some q =>
        unfold minF at e
        split at e
        · rename_i hlt
          obtain ⟨h1, h2⟩ := ih e
          have h3 := h1 _ rfl
          refine ⟨fun q' hq => ?_, fun c' t' hh => ?_⟩
          · cases hq
            rcases h3 with h3 | h3
            · rw [← h3]; exact .inr hlt
            · exact .inr (Ac8 h3 hlt)
          · rcases List.mem_cons.1 hh with h | h
            · cases h; exact h3
            · exact h2 c' t' h
        · rename_i hlt
          obtain ⟨h1, h2⟩ := ih e
          have h3 := h1 _ rfl
          refine ⟨fun q' hq => by cases hq; exact h3, fun c' t' hh => ?_⟩
          rcases List.mem_cons.1 hh with h | h
          · cases h
            rcases Ad1 c.pos q with h4 | h4 | h4
            · exact absurd h4 hlt
            · rw [cmpL_0.1 h4]; exact h3
            · have h5 : cmpL q c.pos = -1 := by rw [A13]; omega
              rcases h3 with h3 | h3
              · rw [← h3]; exact .inr h5
              · exact .inr (Ac8 h3 h5)
          · exact h2 c' t' h
theorem Srt.tail {c : PCell} {t : List PCell} (h : Srt (c :: t)) : Srt t := (List.pairwise_cons.1 h).2
theorem Srt.rs {p : List Int} {h : List PCell} (hs : Srt h) : Srt (rsA p h) := by
  cases h with
  | nil => exact hs
  | cons c t =>
    rw [rsA_c]
    split
    · exact hs.tail
    · exact hs
theorem Bi4 {l : List PCell} {p : List Int} (h : ∀ c ∈ l, c.pos ≠ p) : Aa6 l p = [] := Ax5 fun j hj => h _ (List.getElem_mem hj)
theorem A60 (c : PCell) (t : List PCell) (p : List Int) : Aa6 (c :: t) p = if c.pos = p then c.vals else Aa6 t p := by
  unfold Aa6
  rw [List.find?_cons]
  by_cases h : c.pos = p
  · rw [if_pos h, decide_eq_true h]
  · rw [if_neg h, decide_eq_false h]
theorem lt_ne {p q : List Int} (h : cmpL p q = -1) : p ≠ q := fun e => by rw [e, Bs8] at h; cases h
theorem B79 {p : List Int} {h : List PCell} (hs : Srt h) (hm : ∀ c t, h = c :: t → c.pos = p ∨ cmpL p c.pos = -1) : ∀ c ∈ rsA p h, cmpL p c.pos = -1 := by
  cases h with
  | nil => intro c hc; cases hc
  | cons a t =>
    intro c hc
    obtain ⟨h1, h2⟩ := List.pairwise_cons.1 hs
    rw [rsA_c] at hc
    rcases hm a t rfl with h3 | h3
    · rw [if_pos h3] at hc
      rw [← h3]; exact h1 c hc
    · rw [if_neg fun e => lt_ne h3 e.symm] at hc
      rcases List.mem_cons.1 hc with rfl | hc
      · exact h3
      · exact Ac8 h3 (h1 c hc)
theorem Bs9 {p : List Int} {h : List PCell} (hs : Srt h) (hm : ∀ c t, h = c :: t → c.pos = p ∨ cmpL p c.pos = -1) : stA p h = Aa6 h p := by
  have hg := B79 hs hm
  cases h with
  | nil => rfl
  | cons a t =>
    rw [stA_c, A60]
    by_cases e : a.pos = p
    · rw [if_pos e, if_pos e]
    · rw [if_neg e, if_neg e]
      rw [rsA_c, if_neg e] at hg
      exact (Bi4 fun c hc => (lt_ne (hg c (List.mem_cons_of_mem _ hc))).symm).symm
theorem Bt0 {p q : List Int} (h : List PCell) (hq : q ≠ p) : Aa6 (rsA p h) q = Aa6 h q := by
  cases h with
  | nil => rfl
  | cons a t =>
    rw [rsA_c]
    by_cases e : a.pos = p
    · rw [if_pos e, A60, if_neg fun e2 => hq (by rw [← e2, e])]
    · rw [if_neg e]
theorem Bi5 {n : Nat} : ∀ {hs : List (List PCell)}, (∀ h ∈ hs, Srt h) → tot hs ≤ n → (walkF n hs).Pairwise (fun a b => cmpL a.1 b.1 = -1) ∧ (∀ p, (∃ w ∈ walkF n hs, w.1 = p) ↔ ∃ h ∈ hs, ∃ c ∈ h, c.pos = p) ∧ ∀ w ∈ walkF n hs, w.2 = hs.map fun h => Aa6 h w.1 := by
  induction n with
  | zero =>
    intro hs hS ht
    cases e : minF none hs with
    | none =>
      rw [A23 e]
      refine ⟨.nil, fun p => ⟨fun ⟨w, h, _⟩ => (by cases h), fun ⟨h, hh, c, hc, _⟩ => ?_⟩, fun w h => by cases h⟩
      rw [(A59 e).2 h hh] at hc; cases hc
    | some p => obtain ⟨m, h, _⟩ := A83 ht e; omega
  | succ n ih =>
    intro hs hS ht
    cases e : minF none hs with
    | none =>
      rw [A23 e]
      refine ⟨.nil, fun p => ⟨fun ⟨w, h, _⟩ => (by cases h), fun ⟨h, hh, c, hc, _⟩ => ?_⟩, fun w h => by cases h⟩
      rw [(A59 e).2 h hh] at hc; cases hc
    | some p =>
      obtain ⟨m, hm, ht', hw⟩ := A83 ht e
      obtain rfl : m = n := by omega
      have hmin := (Bz5 e).2
      have hmh : ∀ h ∈ hs, ∀ c t, h = c :: t → c.pos = p ∨ cmpL p c.pos = -1 := fun h hh c t he => hmin c t (he ▸ hh)
      have hS' : ∀ h ∈ hs.map (rsA p), Srt h := fun h hh => by
        obtain ⟨h', hh', rfl⟩ := List.mem_map.1 hh
        exact (hS h' hh').rs
      obtain ⟨i1, i2, i3⟩ := ih hS' ht'
      have hgt : ∀ w ∈ walkF m (hs.map (rsA p)), cmpL p w.1 = -1 := fun w hwm => by
        obtain ⟨h, hh, c, hc, h2⟩ := (i2 w.1).1 ⟨w, hwm, rfl⟩
        obtain ⟨h', hh', rfl⟩ := List.mem_map.1 hh
        rw [← h2]
        exact B79 (hS h' hh') (hmh h' hh') c hc
      rw [hw]
      refine ⟨.cons hgt i1, fun q => ⟨fun ⟨w, hwm, hq⟩ => ?_, fun ⟨h, hh, c, hc, hq⟩ => ?_⟩, fun w hwm => ?_⟩
      · rcases List.mem_cons.1 hwm with rfl | hwm
        · obtain ⟨c, t, h1, h2⟩ := (A21 e).elim (fun h => by cases h) id
          exact ⟨_, h1, c, by simp, h2.trans hq⟩
        · obtain ⟨h, hh, c, hc, h2⟩ := (i2 q).1 ⟨w, hwm, hq⟩
          obtain ⟨h', hh', rfl⟩ := List.mem_map.1 hh
          exact ⟨h', hh', c, A22 hc, h2⟩
      · by_cases hp : q = p
        · exact ⟨_, List.mem_cons_self, hp.symm⟩
        · have hc' : c ∈ rsA p h := by
            cases h with
            | nil => cases hc
            | cons a t =>
              rw [rsA_c]
              split
              · rename_i ha
                rcases List.mem_cons.1 hc with rfl | hc
                · exact absurd (hq.symm.trans ha) hp
                · exact hc
              · exact hc
          obtain ⟨w, h1, h2⟩ := (i2 q).2 ⟨_, List.mem_map.2 ⟨h, hh, rfl⟩, c, hc', hq⟩
          exact ⟨w, List.mem_cons_of_mem _ h1, h2⟩
      · rcases List.mem_cons.1 hwm with rfl | hwm
        · exact List.map_congr_left fun h hh => Bs9 (hS h hh) (hmh h hh)
        · rw [i3 w hwm, List.map_map]
          exact List.map_congr_left fun h hh => Bt0 h fun e => lt_ne (hgt w hwm) e.symm
def Wk (l : List PCell) : Prop := l.Pairwise (fun x y => cmpL x.pos y.pos ≠ 1)
theorem A61 {a b c : List Int} (h1 : cmpL a b ≠ 1) (h2 : cmpL b c ≠ 1) : cmpL a c ≠ 1 := by
  rcases Ad1 a b with h | h | h
  · rcases Ad1 b c with g | g | g
    · rw [Ac8 h g]; decide
    · rw [← cmpL_0.1 g, h]; decide
    · exact absurd g h2
  · rw [cmpL_0.1 h]; exact h2
  · exact absurd h h1
theorem Aw0 : ∀ (l m : List PCell), Wk l → Wk m → Wk (Ad7 l m)
  | [], m, _, h => by rw [Ad7]; exact h
  | a :: l, [], h, _ => by rw [Bf7]; exact h
  | a :: l, b :: m, h1, h2 => by
    rw [As9]
    obtain ⟨p1, p2⟩ := List.pairwise_cons.1 h1
    obtain ⟨q1, q2⟩ := List.pairwise_cons.1 h2
    split
    · rename_i hlt
      refine .cons (fun c hc => ?_) (Aw0 (a :: l) m h1 q2)
      rcases (Aj3 _ _ _).1 hc with h | h
      · have h3 : cmpL b.pos a.pos ≠ 1 := by rw [hlt]; decide
        rcases List.mem_cons.1 h with rfl | h
        · exact h3
        · exact A61 h3 (p1 c h)
      · exact q1 c h
    · rename_i hlt
      have h3 : cmpL a.pos b.pos ≠ 1 := by rw [A13]; intro h; exact hlt (by omega)
      refine .cons (fun c hc => ?_) (Aw0 l (b :: m) p2 h2)
      rcases (Aj3 _ _ _).1 hc with h | h
      · exact p1 c h
      · rcases List.mem_cons.1 h with rfl | h
        · exact h3
        · exact A61 h3 (q1 c h)
termination_by l m => l.length + m.length
theorem Bz6 (l : List PCell) : Wk (sortC l) := by
  induction h : l.length using Nat.strongRecOn generalizing l with
  | _ n ih =>
    unfold sortC
    split
    · match l with
      | [] => exact .nil
      | [a] => exact List.pairwise_singleton _ _
      | a :: b :: l => simp at *; omega
    · exact Aw0 _ _ (ih _ (by rw [List.length_take]; omega) _ rfl) (ih _ (by rw [List.length_drop]; omega) _ rfl)
theorem Cn0 (p : List Int) (c : PCell) (l : List PCell) : dedF (some p) (c :: l) = if p = c.pos then dedF (some c.pos) l else c.pos :: dedF (some c.pos) l := rfl
theorem Bt1 {l : List PCell} : ∀ {p : List Int}, Wk l → (∀ c ∈ l, cmpL p c.pos ≠ 1) → (dedF (some p) l).Pairwise (fun a b => cmpL a b = -1) ∧ (∀ q ∈ dedF (some p) l, cmpL p q = -1) ∧ ∀ q, q ∈ dedF (some p) l ↔ (∃ c ∈ l, c.pos = q) ∧ q ≠ p := by
  induction l with
  | nil => intro p _ _; exact ⟨.nil, fun q hq => (by cases hq), fun q => ⟨fun hq => (by cases hq), fun ⟨⟨c, hc, _⟩, _⟩ => (by cases hc)⟩⟩
  | cons c l ih =>
    intro p hw hp
    obtain ⟨w1, w2⟩ := List.pairwise_cons.1 hw
    obtain ⟨i1, i2, i3⟩ := ih w2 w1
    rw [Cn0]
    by_cases e : p = c.pos
    · subst e
      rw [if_pos rfl]
      refine ⟨i1, i2, fun q => ?_⟩
      rw [i3]
      refine ⟨fun ⟨⟨a, h1, h2⟩, h3⟩ => ⟨⟨a, List.mem_cons_of_mem _ h1, h2⟩, h3⟩, fun ⟨⟨a, h1, h2⟩, h3⟩ => ⟨⟨a, ?_, h2⟩, h3⟩⟩
      rcases List.mem_cons.1 h1 with rfl | h1
      · exact absurd h2.symm h3
      · exact h1
    · rw [if_neg e]
      have hlt : cmpL p c.pos = -1 := by
        rcases Ad1 p c.pos with h | h | h
        · exact h
        · exact absurd (cmpL_0.1 h) e
        · exact absurd h (hp c (by simp))
      refine ⟨.cons i2 i1, fun q hq => ?_, fun q => ?_⟩
      · rcases List.mem_cons.1 hq with rfl | hq
        · exact hlt
        · exact Ac8 hlt (i2 q hq)
      · rw [List.mem_cons, i3]
        constructor
        · rintro (rfl | ⟨⟨a, h1, h2⟩, h3⟩)
          · exact ⟨⟨c, by simp, rfl⟩, fun h => e h.symm⟩
          · refine ⟨⟨a, List.mem_cons_of_mem _ h1, h2⟩, fun h => ?_⟩
            have := i2 q ((i3 q).2 ⟨⟨a, h1, h2⟩, h3⟩)
            exact lt_ne (Ac8 hlt this) h.symm
        · rintro ⟨⟨a, h1, h2⟩, h3⟩
          by_cases hq : q = c.pos
          · exact .inl hq
          · refine .inr ⟨⟨a, ?_, h2⟩, hq⟩
            rcases List.mem_cons.1 h1 with rfl | h1
            · exact absurd h2.symm hq
            · exact h1
theorem Bt2 {l : List PCell} (hw : Wk l) : (dedF none l).Pairwise (fun a b => cmpL a b = -1) ∧ ∀ q, q ∈ dedF none l ↔ ∃ c ∈ l, c.pos = q := by
  cases l with
  | nil => exact ⟨.nil, fun q => ⟨fun hq => (by cases hq), fun ⟨c, hc, _⟩ => (by cases hc)⟩⟩
  | cons c l =>
    obtain ⟨w1, w2⟩ := List.pairwise_cons.1 hw
    obtain ⟨i1, i2, i3⟩ := Bt1 w2 w1
    have e : dedF none (c :: l) = c.pos :: dedF (some c.pos) l := rfl
    rw [e]
    refine ⟨.cons i2 i1, fun q => ?_⟩
    rw [List.mem_cons, i3]
    constructor
    · rintro (rfl | ⟨⟨a, h1, h2⟩, h3⟩)
      · exact ⟨c, by simp, rfl⟩
      · exact ⟨a, List.mem_cons_of_mem _ h1, h2⟩
    · rintro ⟨a, h1, h2⟩
      by_cases hq : q = c.pos
      · exact .inl hq
      · refine .inr ⟨⟨a, ?_, h2⟩, hq⟩
        rcases List.mem_cons.1 h1 with rfl | h1
        · exact absurd h2.symm hq
        · exact h1
theorem Bt3 : ∀ {l m : List (List Int)}, l.Pairwise (fun a b => cmpL a b = -1) → m.Pairwise (fun a b => cmpL a b = -1) → (∀ q, q ∈ l ↔ q ∈ m) → l = m
  | [], [], _, _, _ => rfl
  | [], b :: m, _, _, h => absurd ((h b).2 (by simp)) (by simp)
  | a :: l, [], _, _, h => absurd ((h a).1 (by simp)) (by simp)
  | a :: l, b :: m, h1, h2, h => by
    obtain ⟨p1, p2⟩ := List.pairwise_cons.1 h1
    obtain ⟨q1, q2⟩ := List.pairwise_cons.1 h2
    have hab : a = b := by
      rcases List.mem_cons.1 ((h a).1 (by simp)) with h3 | h3
      · exact h3
      · rcases List.mem_cons.1 ((h b).2 (by simp)) with h4 | h4
        · exact h4.symm
        · have := Ac8 (q1 a h3) (p1 b h4)
          exact absurd rfl (lt_ne this)
    subst hab
    rw [Bt3 p2 q2 fun q => ?_]
    constructor
    · intro hq
      rcases List.mem_cons.1 ((h q).1 (List.mem_cons_of_mem _ hq)) with h3 | h3
      · exact absurd h3.symm (lt_ne (p1 q hq))
      · exact h3
    · intro hq
      rcases List.mem_cons.1 ((h q).2 (List.mem_cons_of_mem _ hq)) with h3 | h3
      · exact absurd h3.symm (lt_ne (q1 q hq))
      · exact h3
theorem Ce1 (x y : PArr) (hx : Ab3 x = 0) (hy : Ab3 y = 0) : btw (walkL [x.cells, y.cells]) = diffR x y := by
  have hS : ∀ h ∈ [x.cells, y.cells], Srt h := fun h hh => by
    simp only [List.mem_cons, List.not_mem_nil, or_false] at hh
    rcases hh with rfl | rfl
    · exact (Ah4 hx).1
    · exact (Ah4 hy).1
  obtain ⟨w1, w2, w3⟩ := Bi5 (n := tot [x.cells, y.cells]) hS (Nat.le_refl _)
  obtain ⟨d1, d2⟩ := Bt2 (Bz6 ([x, y].flatMap PArr.cells))
  have e : (walkL [x.cells, y.cells]).map Prod.fst = Am0 [x, y] := by
    refine Bt3 (List.pairwise_map.2 w1) d1 fun q => ?_
    have w2' : ∀ p, (∃ w ∈ walkL [x.cells, y.cells], w.1 = p) ↔ ∃ h ∈ [x.cells, y.cells], ∃ c ∈ h, c.pos = p := w2
    rw [show Am0 [x, y] = dedF none (sortC ([x, y].flatMap PArr.cells)) from rfl, d2 q, List.mem_map, w2' q]
    constructor
    · rintro ⟨h, hh, c, hc, h2⟩
      refine ⟨c, (Al9 _ _).2 ?_, h2⟩
      simp only [List.mem_cons, List.not_mem_nil, or_false] at hh
      rcases hh with rfl | rfl <;> simp [hc]
    · rintro ⟨c, hc, h2⟩
      have hc := (Al9 _ _).1 hc
      simp only [List.flatMap_cons, List.flatMap_nil, List.append_nil, List.mem_append] at hc
      rcases hc with hc | hc
      · exact ⟨x.cells, by simp, c, hc, h2⟩
      · exact ⟨y.cells, by simp, c, hc, h2⟩
  unfold diffR btw
  rw [← e, List.flatMap_map]
  have hc : ∀ W : List (List Int × List (List PVal)), (∀ w ∈ W, w.2 = [x.cells, y.cells].map fun h => Aa6 h w.1) → W.flatMap btw1 = W.flatMap fun w => diff1 x.cells y.cells w.1 := by
    intro W hW
    induction W with
    | nil => rfl
    | cons w W ih =>
      rw [List.flatMap_cons, List.flatMap_cons, ih fun w' h => hW w' (List.mem_cons_of_mem _ h)]
      congr 1
      unfold btw1 diff1
      rw [hW w (by simp)]
      rfl
  exact hc _ w3
theorem Bz7 (x y : PArr) : An1 x y = Ax8 x y := by
  unfold An1 Ax8
  by_cases h : Ab3 x ≠ 0 ∨ Ab3 y ≠ 0
  · rw [if_pos h, if_pos h]
  · rw [if_neg h, if_neg h]
    have hx : Ab3 x = 0 := Classical.byContradiction fun h1 => h (.inl h1)
    have hy : Ab3 y = 0 := Classical.byContradiction fun h1 => h (.inr h1)
    rw [Ce1 x y hx hy]
end Go.DD

/- VersionDeltas returns true: as a contract. Conditions: none. -/
namespace Go.DD
set_option linter.unusedSectionVars false
open Go Go.Proofs
def dArr (x : PArr) : DV := .agg [.sl (x.dims.flatMap rDim.cells) x.dims.length, .sl (x.attrs.flatMap rAttr.cells) x.attrs.length, .sl (x.cells.flatMap rCell.cells) x.cells.length]
theorem A62 {x : PArr} {most : Nat} (h : fewA x most = true) : x.cells.length ≤ most := by
  unfold fewA fewC at h
  simp only [Bool.and_eq_true, decide_eq_true_eq] at h
  exact h.2.1
theorem Cn1 {W : List (List Int × List (List PVal))} {c : PCell} (h : c ∈ btw W) : ∃ w ∈ W, c.pos = w.1 ∧ c.vals ∈ w.2 := by
  obtain ⟨w, hw, hc⟩ := List.mem_flatMap.1 h
  refine ⟨w, hw, ?_⟩
  unfold btw1 at hc
  split at hc
  · rename_i u v e
    split at hc
    · cases hc
    · obtain rfl := List.mem_singleton.1 hc
      exact ⟨rfl, by rw [e]; simp⟩
  · cases hc
theorem Bt4 {x y : PArr} (hx : AOK x) (hy : AOK y) (hc1 : x.cells.length ≤ 40) (hc2 : y.cells.length ≤ 40) : (An1 x y).length < 900000 ∧ ∀ c ∈ An1 x y, c.pos.length < 900000 ∧ c.vals.length < 900000 := by
  have hcell : ∀ h ∈ [x.cells, y.cells], ∀ c ∈ h, c.pos.length < 900000 ∧ c.vals.length < 900000 := fun h hh c hc => by
    simp only [List.mem_cons, List.not_mem_nil, or_false] at hh
    rcases hh with rfl | rfl
    · exact ⟨(hx.e c hc).1, (hx.e c hc).2.1⟩
    · exact ⟨(hy.e c hc).1, (hy.e c hc).2.1⟩
  unfold An1
  split
  · exact ⟨by simp, fun c h => by cases h⟩
  · split
    · exact ⟨by simp, fun c h => by cases h⟩
    · have h1 := Bs6 (walkL [x.cells, y.cells])
      have h2 : (walkL [x.cells, y.cells]).length ≤ tot [x.cells, y.cells] := A58
      have h3 : tot [x.cells, y.cells] = x.cells.length + y.cells.length := by simp [tot]
      refine ⟨by omega, fun c hc => ?_⟩
      obtain ⟨w, hw, e1, e2⟩ := Cn1 hc
      obtain ⟨_, ⟨h, hh, b, hb, e3⟩, g3⟩ := Bg0 w hw
      refine ⟨by rw [e1, ← e3]; exact (hcell h hh b hb).1, ?_⟩
      rcases g3 _ e2 with e | ⟨h, hh, b, hb, e⟩
      · rw [e]; simp
      · rw [e]; exact (hcell h hh b hb).2
theorem Bi6 (x y : PArr) : Known Tryz.prog 7 [dArr x, dArr y] (.v (.bool true)) := by
  refine Known.run1 mixed te_ok (Bd1 (n := 1000000) mixed te_ok Cc1 13) t7 (Nat.le_of_ble_eq_true rfl) (fun x hx => ?_) rfl (fun _ => Ca7 rfl) fun es he => ?_
  · simp only [List.mem_cons, List.mem_nil_iff, or_false] at hx
    rcases hx with rfl | rfl <;> rfl
  have a0 : rawE es (.t .o) = dArr x := he 0 _ rfl
  have a1 : rawE es (.t (.l .o)) = dArr y := he 1 _ rfl
  have ar : ∀ (z : PArr) (hp : Tr DObj), ∃ a b c, dArr z = .agg [a, b, c] ∧ RL rDim hp (Bl 0) a z.dims ∧ RL rAttr hp (Bl 0) b z.attrs ∧ RL rCell hp (Bl 0) c z.cells := fun z hp => ⟨_, _, _, rfl, .sl _, .sl _, .sl _⟩
  obtain ⟨d, a, c, e1, r1, r2, r3⟩ := ar x es.hp
  obtain ⟨d', a', c', e2, s1, s2, s3⟩ := ar y es.hp
  rw [e1] at a0
  rw [e2] at a1
  unfold r7
  have hn : 0 ≤ es.nx := Nat.zero_le _
  simp only [↓bSb]
  refine Ab9 (cs := [d, a, c]) (by rw [evt, a0]; exact AR.live r1 r2 r3) fun hp1 hg1 hk1 => ?_
  simp only [bR] at hg1 hk1
  have hal1 : Al es.hp es.nx hp1 (es.nx + 1) := ⟨by omega, fun j hj => hk1 j (by omega)⟩
  simp only [bSa, ↓bSb]
  refine Ab9 (cs := [d', a', c']) (by simp only [evt, bR, reduceCtorEq, a1]; exact AR.live (s1.ka hn hal1) (s2.ka hn hal1) (s3.ka hn hal1)) fun hp2 hg2 hk2 => ?_
  simp only [bR] at hg2 hk2
  have hal2 : Al es.hp es.nx hp2 (es.nx + 2) := ⟨by omega, fun j hj => by rw [hk2 j (by omega), hk1 j (by omega)]⟩
  have hg1' := (hk2 es.nx (by omega)).trans hg1
  obtain ⟨_, _, _, _, lA⟩ := Aa1 hg1'
  have hrA : ∀ {hp' nx'}, Al es.hp es.nx hp' nx' → AR hp' (Bl 0) (.agg [d, a, c]) x := fun h => ⟨d, a, c, rfl, r1.ka hn h, r2.ka hn h, r3.ka hn h⟩
  have hrB : ∀ {hp' nx'}, Al es.hp es.nx hp' nx' → AR hp' (Bl 0) (.agg [d', a', c']) y := fun h => ⟨d', a', c', rfl, s1.ka hn h, s2.ka hn h, s3.ka hn h⟩
  simp only [bSa, ↓bSb, reduceCtorEq, lA]
  refine kws (B73 10 _ _ _ _ x 40 0 (by omega) (hrA hal2) (by omega) fun hp3 nx3 hal3 => ?_)
  have hle3 := hal3.le
  have ha3 := hal2.trans hal3
  have hgB3 := (hal3.same (es.nx + 1) (by omega)).trans hg2
  have hgA3 := (hal3.same es.nx (by omega)).trans hg1'
  obtain ⟨_, _, _, _, lB3⟩ := Aa1 hgB3
  cases c1 : fewA x 40 with
  | false =>
    simp only [bSa, ↓bSb, reduceCtorEq]
    refine kws (A14 12 _ _ _ ?_)
    simp only [bSa, ↓bSb, bP, reduceCtorEq]
  | true =>
    simp only [bSa, ↓bSb, reduceCtorEq, lB3]
    refine kws (B73 10 _ _ _ _ y 40 0 (by omega) (hrB ha3) (by omega) fun hp4 nx4 hal4 => ?_)
    have hle4 := hal4.le
    have ha4 := ha3.trans hal4
    have hgB4 := (hal4.same (es.nx + 1) (by omega)).trans hgB3
    have hgA4 := (hal4.same es.nx (by omega)).trans hgA3
    obtain ⟨_, _, _, _, lB4⟩ := Aa1 hgB4
    obtain ⟨_, _, _, _, lA4⟩ := Aa1 hgA4
    cases c2 : fewA y 40 with
    | false =>
      simp only [bSa, ↓bSb, reduceCtorEq]
      refine kws (A14 12 _ _ _ ?_)
      simp only [bSa, ↓bSb, bP, reduceCtorEq]
    | true =>
      have hx := Br2 c1 (by omega)
      have hy := Br2 c2 (by omega)
      have hc1 := A62 c1
      have hc2 := A62 c2
      simp only [bSa, ↓bSb, reduceCtorEq, lA4, lB4]
      refine kws (Bz4 0 0 _ _ _ _ _ x y (by omega) (hrA ha4) (hrB ha4) hx hy (by omega) fun hp5 nx5 u hal5 hu => ?_)
      have hle5 := hal5.le
      have ha5 := ha4.trans hal5
      have hgB5 := (hal5.same (es.nx + 1) (by omega)).trans hgB4
      have hgA5 := (hal5.same es.nx (by omega)).trans hgA4
      obtain ⟨_, _, _, _, lB5⟩ := Aa1 hgB5
      obtain ⟨_, _, _, _, lA5⟩ := Aa1 hgA5
      have x0 : extD hp5 (.tup [u, iv (Ai5 x y)]) 0 = some u := by
        exact A12 fun id hid => (hu.refs id (by simpa [DV.refsL, DV.refs] using hid)).2
      have x1 : extD hp5 (.tup [u, iv (Ai5 x y)]) 1 = some (iv (Ai5 x y)) := ext21
      simp only [bSa, ↓bSb, reduceCtorEq, x0, x1, lA5, lB5]
      refine kws (Bs2 0 0 _ _ _ _ _ x y (by omega) (hrA ha5) (hrB ha5) hx hy (by omega) fun hp6 nx6 v hal6 hv => ?_)
      have hle6 := hal6.le
      have hu6 : RL rChange hp6 (Bl nx6) u (An1 x y) := (hu.ka (Nat.le_refl _) hal6).bl (show nx5 ≤ nx6 by omega)
      have y0 : extD hp6 (.tup [v, iv (Ai5 x y)]) 0 = some v := A12 fun id hid => (hv.refs id (by simpa [DV.refsL, DV.refs] using hid)).2
      have y1 : extD hp6 (.tup [v, iv (Ai5 x y)]) 1 = some (iv (Ai5 x y)) := ext21
      obtain ⟨hl, hle⟩ := Bt4 hx hy hc1 hc2
      simp only [bSa, ↓bSb, reduceCtorEq, y0, y1]
      refine kws (Bs1 11 nx6 _ _ _ u v _ _ (Nat.le_refl _) hu6 hv hl hle fun nx7 hle7 => ?_)
      rw [decide_eq_true (Bz7 x y)]
      simp only [bSa, ↓bSb, reduceCtorEq]
      refine kws (A14 12 _ _ _ ?_)
      simp only [bSa, ↓bSb, bP, reduceCtorEq]
end Go.DD

/- What the model's memory reads as: structs, slices of structs, nested. Conditions: those that each theorem states. -/
namespace Go.DD
set_option linter.unusedSectionVars false
open Go Go.ChangeShapes Go.WideShapes Go.ChangeAt Go.RowKit
theorem lt_of_cell {W : World} {a : Addr} {v : Value} (h : W.cell? a = some v) : a.block < W.heap.size := by
  rcases Nat.lt_or_ge a.block W.heap.size with h' | h'
  · exact h'
  · simp [World.cell?, Array.getElem?_eq_none h'] at h
structure RC (W : World) (us : List Value) (ds : List DV) : Prop where
  len : us.length = ds.length
  one : ∀ u ∈ us, u.oneCell' = true
  rel : ∀ (j : Nat) (u : Value) (d : DV), us[j]? = some u → ds[j]? = some d → RelI W (fun b => b < W.heap.size) u d
theorem RC.nil (W : World) : RC W [] [] := ⟨rfl, fun u h => by (cases h), fun j u d h => by simp at h⟩
theorem RC.app {W : World} {us vs : List Value} {ds es : List DV} (h1 : RC W us ds) (h2 : RC W vs es) : RC W (us ++ vs) (ds ++ es) := by
  refine ⟨by rw [List.length_append, List.length_append, h1.len, h2.len], fun u hu => ?_, fun j u d hu hd => ?_⟩
  · rcases List.mem_append.1 hu with h | h
    · exact h1.one u h
    · exact h2.one u h
  · rcases Nat.lt_or_ge j us.length with h | h
    · rw [List.getElem?_append_left h] at hu
      rw [List.getElem?_append_left (by rw [← h1.len]; exact h)] at hd
      exact h1.rel j u d hu hd
    · rw [List.getElem?_append_right h] at hu
      rw [List.getElem?_append_right (by rw [← h1.len]; exact h), ← h1.len] at hd
      exact h2.rel _ u d hu hd
theorem RC.one1 {W : World} {u : Value} {d : DV} (h1 : u.oneCell' = true) (h : RelI W (fun b => b < W.heap.size) u d) : RC W [u] [d] := by
  refine ⟨rfl, fun v hv => by rw [List.mem_singleton.1 hv]; exact h1, fun j v e hv he => ?_⟩
  cases j with
  | zero => cases hv; cases he; exact h
  | succ j => simp at hv
section
variable {H : Type} (enc : TypeId × Value → H) (P : Program) (W : World)
def Rd {α : Type} (t : TypeId) (F : α → List DV) : Prop := ∀ (n : Nat) (cs : List Value) (x : DataW H × List MemPlace), DataW.trod enc P W 0 (fun _ => true) true n t cs = some x → ∃ a : α, RC W cs (F a)
variable {enc P W}
theorem Rd.len {α : Type} {t : TypeId} {F : α → List DV} (h : Rd enc P W t F) {n : Nat} {cs : List Value} {x : DataW H × List MemPlace} (hx : DataW.trod enc P W 0 (fun _ => true) true n t cs = some x) : ∃ a : α, RC W cs (F a) := h n cs x hx
theorem Aw1 {t : TypeId} (ht : P.underlying t = some (.int .i64)) : Rd enc P W t (fun n : Int => [iv n]) := fun n cs x h => by
  obtain ⟨z, rfl, _, _⟩ := DataW.trod_int ht h
  exact ⟨z, .one1 rfl (.v _)⟩
theorem Bt5 {t : TypeId} (ht : P.underlying t = some .string) : Rd enc P W t (fun s : ByteArray => [sv s]) := fun n cs x h => by
  obtain ⟨s, rfl, _, _⟩ := DataW.trod_string ht h
  exact ⟨s, .one1 rfl (.v _)⟩
theorem Ag6 {t : TypeId} {fs : Array Field} (ht : P.underlying t = some (.struct fs)) {n : Nat} {cs : List Value} {x : DataW H × List MemPlace} (h : DataW.trod enc P W 0 (fun _ => true) true n t cs = some x) (i : Nat) {ti oi : Nat} (hi : (fs.toList.map fun f => (f.type, f.offset))[i]? = some (ti, oi)) :
    cs.length = P.cellsOf t ∧ ∃ m y, DataW.trod enc P W 0 (fun _ => true) true m ti ((cs.drop oi).take (P.cellsOf ti)) = some y := by
  obtain ⟨xs, m, _, _, hl, hlen, hf⟩ := DataW.trod_struct ht h
  rw [List.getElem?_map] at hi
  obtain ⟨f, hf1, hf2⟩ := Option.map_eq_some_iff.1 hi
  cases hf2
  have hf1' : fs[i]? = some f := by rw [← hf1]; exact (Array.getElem?_toList).symm
  have hlt : i < fs.size := by
    rcases Nat.lt_or_ge i fs.size with h | h
    · exact h
    · rw [Array.getElem?_eq_none h] at hf1'; cases hf1'
  have h2 := hf i f hf1'
  rw [List.getElem?_eq_getElem (by omega)] at h2
  exact ⟨hl, m, _, h2⟩
theorem Ay0 {α β : Type} {t t0 t1 k0 k1 : Nat} {fs : Array Field} {F0 : α → List DV} {F1 : β → List DV} (ht : P.underlying t = some (.struct fs)) (hfs : fs.toList.map (fun f => (f.type, f.offset)) = [(t0, 0), (t1, k0)]) (h0 : P.cellsOf t0 = k0) (h1 : P.cellsOf t1 = k1) (hC : P.cellsOf t = k0 + k1) (r0 : Rd enc P W t0 F0) (r1 : Rd enc P W t1 F1) : Rd enc P W t (fun p : α × β => F0 p.1 ++ F1 p.2) := fun n cs x h => by
  obtain ⟨hl, _, _, g0⟩ := Ag6 ht h 0 (by rw [hfs]; rfl)
  obtain ⟨_, _, _, g1⟩ := Ag6 ht h 1 (by rw [hfs]; rfl)
  obtain ⟨a, ha⟩ := r0 _ _ _ g0
  obtain ⟨b, hb⟩ := r1 _ _ _ g1
  rw [h0] at ha
  rw [h1, List.take_of_length_le (by rw [List.length_drop]; omega)] at hb
  refine ⟨(a, b), ?_⟩
  have := ha.app hb
  rw [List.drop_zero, List.take_append_drop] at this
  exact this
theorem Ay1 {α β γ : Type} {t t0 t1 t2 k0 k1 k2 : Nat} {fs : Array Field} {F0 : α → List DV} {F1 : β → List DV} {F2 : γ → List DV} (ht : P.underlying t = some (.struct fs)) (hfs : fs.toList.map (fun f => (f.type, f.offset)) = [(t0, 0), (t1, k0), (t2, k0 + k1)]) (h0 : P.cellsOf t0 = k0) (h1 : P.cellsOf t1 = k1) (h2 : P.cellsOf t2 = k2) (hC : P.cellsOf t = k0 + k1 + k2) (r0 : Rd enc P W t0 F0) (r1 : Rd enc P W t1 F1) (r2 : Rd enc P W t2 F2) : Rd enc P W t (fun p : α × β × γ => F0 p.1 ++ (F1 p.2.1 ++ F2 p.2.2)) := fun n cs x h => by
  obtain ⟨hl, _, _, g0⟩ := Ag6 ht h 0 (by rw [hfs]; rfl)
  obtain ⟨_, _, _, g1⟩ := Ag6 ht h 1 (by rw [hfs]; rfl)
  obtain ⟨_, _, _, g2⟩ := Ag6 ht h 2 (by rw [hfs]; rfl)
  obtain ⟨a, ha⟩ := r0 _ _ _ g0
  obtain ⟨b, hb⟩ := r1 _ _ _ g1
  obtain ⟨c, hc⟩ := r2 _ _ _ g2
  rw [h0] at ha
  rw [h1] at hb
  rw [h2, List.take_of_length_le (by rw [List.length_drop]; omega)] at hc
  refine ⟨(a, b, c), ?_⟩
  have h12 := hb.app hc
  rw [← List.drop_drop, List.take_append_drop] at h12
  have := ha.app h12
  rw [List.drop_zero, List.take_append_drop] at this
  exact this
theorem Bi7 {α β γ δ : Type} {t t0 t1 t2 t3 k0 k1 k2 k3 : Nat} {fs : Array Field} {F0 : α → List DV} {F1 : β → List DV} {F2 : γ → List DV} {F3 : δ → List DV} (ht : P.underlying t = some (.struct fs)) (hfs : fs.toList.map (fun f => (f.type, f.offset)) = [(t0, 0), (t1, k0), (t2, k0 + k1), (t3, k0 + k1 + k2)]) (h0 : P.cellsOf t0 = k0) (h1 : P.cellsOf t1 = k1) (h2 : P.cellsOf t2 = k2) (h3 : P.cellsOf t3 = k3) (hC : P.cellsOf t = k0 + k1 + k2 + k3) (r0 : Rd enc P W t0 F0) (r1 : Rd enc P W t1 F1) (r2 : Rd enc P W t2 F2) (r3 : Rd enc P W t3 F3) : Rd enc P W t (fun p : α × β × γ × δ => F0 p.1 ++ (F1 p.2.1 ++ (F2 p.2.2.1 ++ F3 p.2.2.2))) := fun n cs x h => by
  obtain ⟨hl, _, _, g0⟩ := Ag6 ht h 0 (by rw [hfs]; rfl)
  obtain ⟨_, _, _, g1⟩ := Ag6 ht h 1 (by rw [hfs]; rfl)
  obtain ⟨_, _, _, g2⟩ := Ag6 ht h 2 (by rw [hfs]; rfl)
  obtain ⟨_, _, _, g3⟩ := Ag6 ht h 3 (by rw [hfs]; rfl)
  obtain ⟨a, ha⟩ := r0 _ _ _ g0
  obtain ⟨b, hb⟩ := r1 _ _ _ g1
  obtain ⟨c, hc⟩ := r2 _ _ _ g2
  obtain ⟨e, he⟩ := r3 _ _ _ g3
  rw [h0] at ha
  rw [h1] at hb
  rw [h2] at hc
  rw [h3, List.take_of_length_le (by rw [List.length_drop]; omega)] at he
  refine ⟨(a, b, c, e), ?_⟩
  have x1 : cs.drop (k0 + k1) = (cs.drop k0).drop k1 := by rw [List.drop_drop]
  have x2 : cs.drop (k0 + k1 + k2) = (cs.drop (k0 + k1)).drop k2 := by rw [List.drop_drop]
  have h23 := hc.app he
  rw [x2, List.take_append_drop] at h23
  have h12 := hb.app h23
  rw [x1, List.take_append_drop] at h12
  have := ha.app h12
  rw [List.drop_zero, List.take_append_drop] at this
  exact this
theorem A63 {α β : Type} {t : TypeId} {F : α → List DV} {G : β → List DV} (h : Rd enc P W t F) (f : α → β) (hf : ∀ a, F a = G (f a)) : Rd enc P W t G := fun n cs x hx => by
  obtain ⟨a, ha⟩ := h n cs x hx
  exact ⟨f a, by rw [← hf]; exact ha⟩
theorem Ap6 {α : Type} {t e ce : Nat} {F : α → List DV} (ht : P.underlying t = some (.slice e)) (hce : P.cellsOf e = ce) (hpos : 0 < ce) (r : Rd enc P W e F) : Rd enc P W t (fun l : List α => [.sl (l.flatMap F) l.length]) := fun n cs x h => by
  rcases DataW.trod_slice ht h with ⟨rfl, _⟩ | ⟨a, len, cap, elems, rest, m, _, rfl, _, _, hle, _, hel, hget, _, _⟩
  · exact ⟨[], .one1 rfl (.sl0 _ _)⟩
  · rw [hce] at hget
    have key : ∀ k, k ≤ len → ∃ (l : List α) (us : List Value), l.length = k ∧ RC W us (l.flatMap F) ∧ us.length = k * ce ∧ ∀ (j : Nat) (u : Value), us[j]? = some u → W.cell? (a.add j) = some u := by
      intro k
      induction k with
      | zero => intro _; exact ⟨[], [], rfl, RC.nil W, by simp, fun j u h => by simp at h⟩
      | succ k ih =>
        intro hk
        obtain ⟨l, us, h1, h2, h3, h4⟩ := ih (by omega)
        have hg := hget k (by omega)
        rw [List.getElem?_eq_getElem (by omega)] at hg
        obtain ⟨cs, hcs, htr⟩ := Option.bind_eq_some_iff.1 hg
        obtain ⟨b, hb⟩ := r _ _ _ htr
        obtain ⟨_, hcl, hcc⟩ := World.cells?_some hcs
        refine ⟨l ++ [b], us ++ cs, by simp [h1], ?_, by rw [List.length_append, h3, hcl, Nat.add_mul, Nat.one_mul], fun j u hu => ?_⟩
        · rw [List.flatMap_append]
          have : [b].flatMap F = F b := by simp
          rw [this]
          exact h2.app hb
        · rcases Nat.lt_or_ge j us.length with hj | hj
          · rw [List.getElem?_append_left hj] at hu
            exact h4 j u hu
          · rw [List.getElem?_append_right hj] at hu
            have hlt : j - us.length < cs.length := (List.getElem?_eq_some_iff.1 hu).1
            have := hcc (j - us.length) (by omega)
            rw [add_add, hu] at this
            rw [← this]
            congr 2
            omega
    obtain ⟨l, us, h1, h2, h3, h4⟩ := key len (Nat.le_refl _)
    refine ⟨l, .one1 rfl ?_⟩
    by_cases h0 : len = 0
    · subst h0
      obtain rfl : l = [] := List.length_eq_zero_iff.1 h1
      exact .sl0 _ _
    · rw [h1]
      refine .sl a len cap us _ h2.len hle ?_ h2.one h4 h2.rel
      have hlt : 0 < us.length := by rw [h3]; exact Nat.mul_pos (by omega) hpos
      have := lt_of_cell (h4 0 _ (List.getElem?_eq_getElem hlt))
      rwa [Go.DD.block_add] at this
end
end Go.DD

/- From a contract to a law's statement: a law that answers true and of what was there turns nothing. Conditions: none beyond those that each theorem states. -/
namespace Go.DD
open Go Go.RowKit Go.ChangeShapes
theorem A24 {H : Type} {enc : TypeId × Value → H} {P : Program} {f : Func} {s : ChangeSpec} {apart fresh handsOn again : Bool} {W W' : World} {args : Array Value} {v : Value} {ds gs : List (DataW H)} {before pa pv : List MemPlace}
    (hW : DataW.Whole enc P f.params.toList s.vars apart W args.toList ds gs before)
    (hres : ∀ (b : Nat) (sp : Nat → Bool) (hd : Bool), DataW.TrodAll enc P W' b sp hd f.resultTypes.toList (v.resultList f.resultTypes.size) (s.fn H (ds ++ gs)).results [])
    (hargs : ∀ sp : Nat → Bool, (∀ p ∈ before, sp p.block = true) → DataW.TrodAll enc P W' 0 sp true f.params.toList args.toList (s.fn H (ds ++ gs)).args pa)
    (hvars : ∀ sp : Nat → Bool, (∀ p ∈ before, sp p.block = true) → DataW.TrodVars enc P W' sp s.vars (s.fn H (ds ++ gs)).vars pv)
    (hps : before = pa ++ pv) (hk : Below W.heap.size W W')
    (hok : ∀ (j : Nat) (t : TypeId) (r : Value), f.resultTypes[j]? = some t → (v.resultList f.resultTypes.size)[j]? = some r → Value.okWide P W' .any 0 t r) :
    s.post enc P f apart fresh handsOn again W args v W' := by
  have hold : ∀ p ∈ before, (fun b => decide (b < W.heap.size)) p.block = true := fun p hp => by simpa using hW.lt p hp
  have hlt := hW.lt
  refine ⟨ds, gs, before, [], pa, pv, hW, hres _ _ _, hargs _ hold, hvars _ hold, hk.frame _, fun _ => ?_⟩
  obtain ⟨_, _, _, _, _, hz, hn⟩ := hW
  refine ⟨hok, _, _, ([] ++ pa) ++ pv, ⟨[] ++ pa, pv, trodAll_append (hargs _ (fun _ _ => rfl)) (hres _ _ _), hvars _ (fun _ _ => rfl), rfl, ?_, ?_⟩, ?_⟩
  · intro b off hp
    have hp' : MemPlace.cell b off ∈ before := by rw [hps]; simpa using hp
    rw [hk.frozen (hlt _ hp')]
    exact hz b off hp'
  · intro ha
    have := hn ha
    rw [hps] at this
    simpa using this
  · intro p hp _
    rw [hps]
    simpa using hp
theorem DCall.law {P : Program} {f : FuncId} {args : List DV} (h : DCall P f args fun d => d = .v (.bool true)) (w : World) {vs : List Value} (hl : vs.length = args.length)
    (hr : ∀ (j : Nat) (v : Value) (d : DV), vs[j]? = some v → args[j]? = some d → RelI w (fun b => b < w.heap.size) v d) (hg : ∀ x d, GLV x d → RelI w (fun b => b < w.heap.size) x d) :
    Calls P f vs.toArray w fun e w' => e = .returned (.bool true) ∧ Below w.heap.size w w' :=
  (h w (fun b => b < w.heap.size) vs (fun _ h => h) hl hr hg).mono fun _ _ ⟨v, r, he, hr, hb, hv⟩ => by
    subst hr
    cases hv
    exact ⟨he, hb⟩
end Go.DD
