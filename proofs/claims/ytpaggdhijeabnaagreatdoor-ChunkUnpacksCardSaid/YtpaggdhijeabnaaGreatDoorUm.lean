/- Chapter 03: the items of Rle. Conditions: those that each theorem states. -/
import Derived.Test.YtpaggdhijeabnaaGreatDoorUl
import Derived.Test.YtpaggdhijeabnaaGreatDoorUh
namespace Go.DD
open Go Go.Proofs

theorem same_self {b : List Nat} {i : Nat} (h : i < b.length) : same b i i 1 = 1 := by
  unfold same sameN sameN
  rw [if_pos ⟨h, rfl⟩]
theorem b_geq3 (k : IntKind) (a : Nat) : binD .geq (.v (.int k (a : Int))) (.v (.int k 3)) = some (.v (.bool (decide (3 ≤ a)))) := by
  rw [b_geq]
  congr 3
  by_cases h : 3 ≤ a
  · simp [h, show (3 : Int) ≤ a by omega]
  · simp [h, show ¬ (3 : Int) ≤ a by omega]
theorem b_add128 {a : Nat} (h : a < 4000000000000000000) : binD .add (.v (.int .i64 (a : Int))) (.v (.int .i64 128)) = some (.v (.int .i64 ((a + 128 : Nat) : Int))) := b_addL 128 h (by omega)
theorem b_sub3 {a : Nat} (h : a < 4000000000000000000) : binD .sub (.v (.int .i64 ((a + 128 : Nat) : Int))) (.v (.int .i64 3)) = some (.v (.int .i64 ((a + 125 : Nat) : Int))) := by
  have := b_subN (a := a + 128) (b := 3) (by omega) (by omega)
  rwa [show a + 128 - 3 = a + 125 by omega] at this

theorem step_len (s : PS) (x : List Nat) (hx : 1 ≤ x.length) : (s.step x).out.length ≤ s.out.length + x.length + 1 := by
  unfold PS.step
  split
  · simp only [List.length_append]; omega
  · split
    · split
      · simp only [List.length_append, List.length_set, List.length_singleton]; omega
      · simp only [List.length_append, List.length_cons, List.length_nil]; omega
    · simp only [List.length_append, List.length_cons, List.length_nil]; omega
theorem kn_runs1 (k : Nat) (hp : Tr DObj) (nx : Nat) (K : DV → Tr DObj → Nat → Prop) (sl : Tr DV) (L bo bh bb : Nat) (d db : DV) (b : List Nat) (hJ : PJ sl L bo bh ⟨[], none⟩ d hp nx) (hbb : hp.get bb = some (.row 22 [db])) (hs : Src hp db b)
    (hb1 : bb < nx ∧ ¬ Mine L bo bh d bb) (hb2 : ∀ id ∈ db.refs, id < nx ∧ ¬ Mine L bo bh d id) (hl : b.length < 400000)
    (hK : ∀ hp' nx' d', nx ≤ nx' → PJ sl L bo bh (packAt itemR b 0 ⟨[], none⟩) d' hp' nx' → (∀ j, j < nx → ¬ Mine L bo bh d j → hp'.get j = hp.get j) → (∀ j, Mine L bo bh d' j → Mine L bo bh d j ∨ nx ≤ j) → K (.tup []) hp' nx') :
    KW (kN (k + 2)) (.fn 64) [.yl L, .pt bb 0] hp nx K := by
  refine kn_0 (relW_n (by decide)) t64 (Nat.le_of_ble_eq_true rfl) fun es e1 e2 he => ?_
  have a0 : rawE es (.t .o) = .yl L := he 0 _ rfl
  have a1 : rawE es (.t (.l .o)) = .pt bb 0 := he 1 _ rfl
  unfold r64
  simp only [↓ew_s, ↓ew_n, ↓ew_b, ↓sw_q, ↓sw_m1, ↓sw_z, ↓then_n, xw_some, mk1_eq, n_c, ↓z_l]
  refine EW.l (I := fun m es1 => ∃ i s1 d1, m = b.length + 131 - i ∧ i ≤ b.length + 130 ∧ rawE es1 (.t .o) = .yl L ∧ rawE es1 (.t (.l .o)) = .pt bb 0 ∧ rawE es1 (.t (.l (.l .o))) = iv (i : Nat) ∧ nx ≤ es1.nx ∧ PJ sl L bo bh s1 d1 es1.hp es1.nx ∧ (∀ j, j < nx → ¬ Mine L bo bh d j → es1.hp.get j = hp.get j) ∧ (∀ j, Mine L bo bh d1 j → Mine L bo bh d j ∨ nx ≤ j) ∧ s1.out.length ≤ 4 * i ∧ packAt itemR b i s1 = packAt itemR b 0 ⟨[], none⟩) ?_ (b.length + 131) 1000000 _ ?_ (by omega)
  · rintro m es1 ⟨i, s1, d1, rfl, hib, b0, b1, b3, hnx, hJ1, hfr, hmi, hlen, hst⟩
    unfold l64_1
    have c1 : es1.hp.get bb = some (.row 22 [db]) := by rw [hfr bb hb1.1 hb1.2]; exact hbb
    have c2 : Src es1.hp db b := hs.keep fun id hid => hfr id (hb2 id hid).1 (hb2 id hid).2
    have c3 : Old es1.nx db := fun id hid => Nat.lt_of_lt_of_le (hb2 id hid).1 hnx
    have c4 : bb < es1.nx := by omega
    by_cases h1 : i < b.length
    · rw [packAt_step (itemR_1 b) h1] at hst
      simp only [eq_self, ↓ew_s, ↓ew_n, ↓ew_e, ↓ew_c', ↓ew_b, ↓sw_q, ↓sw_m1, ↓sw_z, ↓sw_x, ↓then_n, xw_some, cw_t, mk1_eq, x_len, x_ld, rw_put, rw_other, n_mk, hp_put, nx_put, sl_put, x_bin, ne_eq, reduceCtorEq, not_false_eq_true, true_and, and_self, decide_true, Pa.l.injEq, ↓sw_reg, ↓tw_q, ↓tw_chk, ↓tw_read, ↓z_main, ↓chk_nil, ↓chk_cons, ro_v, ro_pt, look_f, ↓refsL_cons, ↓refs_nil, look_nil, refs_v, List.append_nil, b1, b3, iv, h1, ld_box c1, c2.len, b_lssN, okRef_old c1 c4, c2.ro c3]
      refine tws_main rfl (sws_call ?_)
      simp only [List.map_cons, List.map_nil, rw_put, rw_other, n_c, n_mk, nx_put, sl_put, ne_eq, reduceCtorEq, not_false_eq_true, Pa.l.injEq]
      refine kn_same k _ _ _ db b i i 1 c2 (c3.mono (by omega)) (Nat.le_refl _) (by omega) (by omega) fun nx1 hnx1 => ?_
      rw [same_self h1]
      simp only [eq_self, xw_some, x_ia, x_ld, rw_put, rw_other, n_mk, sl_put, ne_eq, reduceCtorEq, not_false_eq_true, and_true, true_and, and_self, Pa.l.injEq, ↓tw_q, ↓tw_chk, ↓tw_read, ↓z_lay, ↓chk_nil, ↓chk_cons, ro_v, ro_pt, ↓refsL_cons, ↓refs_nil, look_nil, refs_v, List.append_nil, b1, b3, iv, ld_box c1, c2.ia h1, c2.ld h1, okRef_old c1 c4, c2.ro c3, c2.roa c3, ub]
      refine ⟨hnx1, ?_⟩
      refine tws_bsl (l := [b.getD i 0]) rfl rfl (by simp only [List.map_cons, List.map_nil, n_ev, rw_put, n_mk, p18]; exact fill1 _ _) fun hp2 hg2 hk2 => ?_
      simp only [ne_eq] at hg2 hk2
      have d1' : hp2.get bb = some (.row 22 [db]) := by rw [hk2 bb (by omega)]; exact c1
      have d2 : Src hp2 db b := c2.keep fun id hid => hk2 id (by have := c3 id hid; omega)
      have hle := same_le b i (i + 1) 129
      simp only [eq_self, ↓ew_s, ↓ew_n, ↓sw_q, ↓sw_m1, ↓sw_x, ↓then_n, xw_some, mk1_eq, x_ld, List.map_cons, List.map_nil, rw_put, rw_other, n_c, n_mk, sl_put, x_bin, ne_eq, reduceCtorEq, not_false_eq_true, true_and, and_self, Pa.l.injEq, Pa.r.injEq, ↓z_call, ↓tw_q, ↓tw_z, ↓tw_chk, ↓tw_read, ↓chk_nil, ↓chk_cons, ro_v, ro_ms, look_f, ↓refsL_cons, ↓refs_nil, look_nil, refs_v, List.append_nil, b1, b3, iv, b_add1 (show i < _ by omega), ld_box d1', (okRef_iff (m := 11) (n0 := es1.nx) (an := [8, 9, 0, 1, 2, 3, 4, 5, 6, 7]) hp2 (es1.nx + 8)).2 ⟨by rw [hg2]; rfl, .inr (.inr (by rw [Nat.add_sub_cancel_left]; rfl))⟩]
      refine ⟨okl_look (fun id hid => ⟨by have := c3 id (adr_refs db i id hid); omega, fun p hp => ?_⟩) (okl_look (fun id hid => ⟨c3 id hid, fun p hp => ?_⟩) (okl_look (fun id hid => ?_) (okl_nil _ _ _))), ?_⟩
      · simp only [List.mem_singleton] at hp
        subst hp
        exact .inr (.inr (sameAt_src c2 id (adr_refs db i id hid)))
      · simp only [List.mem_singleton] at hp
        subst hp
        exact .inr (.inr (bothAt_refl _ _))
      · simp only [DV.refs, List.mem_singleton] at hid
        subst hid
        refine ⟨c4, fun p hp => ?_⟩
        simp only [List.mem_singleton] at hp
        subst hp
        exact .inr (.inr (sameAt_row c1 fun c hc => by rw [List.mem_singleton] at hc; rw [hc]; exact same_src c2))
      refine kws (kn_same k _ _ _ db b i (i + 1) 129 d2 (c3.mono (by omega)) (by omega) (by omega) (by omega) fun nx2 hnx2 => ?_)
      have yL : ∀ hp' : Tr DObj, (∀ j, j < es1.nx → hp'.get j = es1.hp.get j) → hp'.get L = some (.loop ⟨46, .t sl, [7], da36_1, db36_1, .ready, none⟩) := fun hp' h => by rw [h L hJ1.lt.1]; exact hJ1.loop
      have PJk : ∀ (hp' : Tr DObj) (nx' : Nat), es1.nx ≤ nx' → (∀ j, j < es1.nx → hp'.get j = es1.hp.get j) → PJ sl L bo bh s1 d1 hp' nx' := fun hp' nx' h1 h2 => by
        obtain ⟨j1, j2, j3, j4, ⟨l1, l2, l3, l4⟩, hne, s3, s4, jok⟩ := hJ1
        exact ⟨by rw [h2 _ l1]; exact j1, by rw [h2 _ l2]; exact j2, by rw [h2 _ l3]; exact j3, j4.keep fun id hid => h2 id (l4 id hid), ⟨by omega, by omega, by omega, fun id hid => by have := l4 id hid; omega⟩, hne, s3, s4, jok⟩
      have Mlt : ∀ j, Mine L bo bh d1 j → j < es1.nx := by
        obtain ⟨l1, l2, l3, l4⟩ := hJ1.lt
        rintro j (h | h | h | h)
        · omega
        · omega
        · omega
        · exact l4 j h
      unfold itemR at hst
      generalize same b i (i + 1) 129 = m at hle hst ⊢
      by_cases h3 : 3 ≤ m + 1
      · rw [if_pos h3] at hst
        simp only [eq_self, ↓ew_s, ↓ew_n, ↓ew_c', ↓sw_q, ↓sw_m1, ↓sw_z, ↓sw_x, ↓then_n, xw_some, cw_t, mk1_eq, x_ia, x_ld, rw_put, rw_other, n_c, n_mk, sl_put, x_bin, live_v, ne_eq, reduceCtorEq, not_false_eq_true, and_true, true_and, and_self, decide_true, Pa.l.injEq, Pa.r.injEq, xk_cvi, ↓sw_reg, ↓tw_q, ↓tw_chk, ↓tw_read, ↓z_lay, ↓chk_nil, ↓chk_cons, ro_v, ro_pt, look_f, ↓refsL_cons, ↓refs_nil, look_nil, refs_v, List.append_nil, n_ev, p31, b1, b3, iv, h3, b_add1 (show m < _ by omega), b_geq3, b_add128 (show m + 1 < _ by omega), b_sub3 (show m + 1 < _ by omega), cvi_u8 (show m + 1 + 125 < 256 by omega), ld_box d1', d2.ia h1, d2.ld h1, okRef_old d1' (show bb < nx2 by omega), d2.ro (c3.mono (show es1.nx ≤ nx2 by omega)), d2.roa (c3.mono (show es1.nx ≤ nx2 by omega)), ub]
        refine tws_bsl (l := [m + 1 + 125, b.getD i 0]) rfl rfl (by simp only [List.map_cons, List.map_nil, n_ev, rw_put, rw_other, n_mk, ne_eq, reduceCtorEq, not_false_eq_true, Pa.l.injEq, Pa.r.injEq, p32, p36]; exact fill2 _ _ _) fun hp3 hg3 hk3 => ?_
        simp only [ne_eq] at hg3 hk3
        simp only [eq_self, ↓ew_s, ↓ew_n, ↓sw_q, ↓sw_m1, ↓then_n, xw_some, mk1_eq, rw_put, rw_other, n_mk, sl_put, ne_eq, reduceCtorEq, not_false_eq_true, true_and, and_self, Pa.l.injEq, Pa.r.injEq, ↓z_cv, ↓tw_q, ↓tw_z, ↓tw_chk, ↓tw_read, ↓chk_nil, ↓chk_cons, ro_v, ro_ms, okl_nops, look_f, ↓refsL_cons, ↓refs_nil, look_nil, refs_v, List.append_nil, b0, iv, (okRef_iff (m := 12) (n0 := nx2) (an := [9, 10, 0, 1, 2, 3, 4, 5, 6, 7, 8]) hp3 (nx2 + 9)).2 ⟨by rw [hg3]; rfl, .inr (.inr (by rw [Nat.add_sub_cancel_left]; rfl))⟩]
        refine sws_y (L := L) (by simp only [rw_put, rw_other, n_mk, ne_eq, reduceCtorEq, not_false_eq_true]) (yL hp3 fun j hj => by rw [hk3 j (by omega), hk2 j (by omega)]) ?_
        simp only [List.map_cons, List.map_nil, rw_put, n_mk, sl_put]
        refine kn_round k _ _ _ sl L bo bh s1 d1 (.ms (nx2 + 9) 0 2 1) [m + 1 + 125, b.getD i 0] (PJk hp3 _ (by omega) fun j hj => by rw [hk3 j (by omega), hk2 j (by omega)]) (Own.ms _ [m + 1 + 125, b.getD i 0] hg3).src (fun id hid => ?_) (by simp) (by simp; omega) fun hp4 nx4 d4 hnx4 hJ4 hfr4 hmi4 => ?_
        · have hid' : id = (nx2 + 9) := by simpa [DV.refs] using hid
          exact ⟨fun hm => by have := Mlt id hm; omega, by omega⟩
        simp only [eq_self, ↓ew_n, ↓ew_e, ↓ew_c', ↓sw_q, ↓sw_m1, ↓sw_z, ↓sw_x, ↓then_n, ↓blk_n, xw_some, cw_f, mk1_eq, rw_put, rw_other, n_mk, sl_put, x_bin, x_un, n_not, ne_eq, reduceCtorEq, not_false_eq_true, true_and, Bool.not_true, Pa.l.injEq, Pa.r.injEq, b0, b1, b3, iv, n_not, b_addN (show i + (m + 1) < _ by omega)]
        refine ⟨b.length + 131 - (i + (m + 1)), by omega, i + (m + 1), _, d4, rfl, by omega, rfl, by omega, hJ4, fun j hj hm => ?_, fun j hj => ?_, ?_, hst⟩
        · have hm1 : ¬ Mine L bo bh d1 j := fun h => (hmi j h).elim hm (by omega)
          rw [hfr4 j (by omega) hm1]
          refine Eq.trans ?_ (hfr j hj hm)
          have hj : j < es1.nx := by omega
          exact by rw [hk3 j (by omega), hk2 j (by omega)]
        · rcases hmi4 j hj with h | h
          · exact hmi j h
          · exact .inr (by omega)
        · refine Nat.le_trans (step_len s1 _ (by simp)) ?_
          simp; omega
      · rw [if_neg h3] at hst
        simp only [↓ew_s, ↓ew_n, ↓ew_e, ↓ew_c', ↓sw_q, ↓sw_m1, ↓sw_z, ↓sw_x, ↓then_n, xw_some, cw_f, mk1_eq, rw_put, rw_other, n_c, n_mk, sl_put, x_bin, ne_eq, reduceCtorEq, not_false_eq_true, decide_false, Pa.l.injEq, Pa.r.injEq, ↓z_cv, b0, iv, h3, b_add1 (show m < _ by omega), b_geq3]
        refine sws_y (L := L) (by simp only [rw_put, rw_other, n_mk, ne_eq, reduceCtorEq, not_false_eq_true]) (yL hp2 fun j hj => by rw [hk2 j (by omega)]) ?_
        simp only [List.map_cons, List.map_nil, rw_put, n_mk, sl_put]
        refine kn_round k _ _ _ sl L bo bh s1 d1 (.ms (es1.nx + 8) 0 1 1) [b.getD i 0] (PJk hp2 _ (by omega) fun j hj => by rw [hk2 j (by omega)]) (Own.ms _ [b.getD i 0] hg2).src (fun id hid => ?_) (by simp) (by simp; omega) fun hp4 nx4 d4 hnx4 hJ4 hfr4 hmi4 => ?_
        · have hid' : id = (es1.nx + 8) := by simpa [DV.refs] using hid
          exact ⟨fun hm => by have := Mlt id hm; omega, by omega⟩
        simp only [eq_self, ↓ew_n, ↓ew_e, ↓ew_c', ↓sw_q, ↓sw_m1, ↓sw_z, ↓sw_x, ↓then_n, ↓blk_n, xw_some, cw_f, mk1_eq, rw_put, rw_other, n_mk, sl_put, x_bin, x_un, n_not, ne_eq, reduceCtorEq, not_false_eq_true, true_and, Bool.not_true, Pa.l.injEq, Pa.r.injEq, b0, b1, b3, iv, n_not, b_addN (show i + 1 < _ by omega)]
        refine ⟨b.length + 131 - (i + 1), by omega, i + 1, _, d4, rfl, by omega, rfl, by omega, hJ4, fun j hj hm => ?_, fun j hj => ?_, ?_, hst⟩
        · have hm1 : ¬ Mine L bo bh d1 j := fun h => (hmi j h).elim hm (by omega)
          rw [hfr4 j (by omega) hm1]
          refine Eq.trans ?_ (hfr j hj hm)
          have hj : j < es1.nx := by omega
          exact by rw [hk2 j (by omega)]
        · rcases hmi4 j hj with h | h
          · exact hmi j h
          · exact .inr (by omega)
        · refine Nat.le_trans (step_len s1 _ (by simp)) ?_
          simp; omega
    · rw [packAt_end (by omega)] at hst
      simp only [eq_self, ↓ew_s, ↓ew_n, ↓ew_e, ↓ew_c', ↓sw_q, ↓sw_m1, ↓sw_z, ↓sw_x, ↓then_n, ↓then_x, ↓blk_x, xw_some, cw_f, mk1_eq, x_len, x_ld, rw_put, rw_other, hp_put, nx_put, x_bin, ne_eq, reduceCtorEq, not_false_eq_true, true_and, true_or, decide_false, Pa.l.injEq, b1, b3, iv, h1, ld_box c1, c2.len, b_lssN]
      rw [← hst] at hK
      exact hK _ _ d1 hnx hJ1 hfr hmi
  · simp only [eq_self, rw_put, rw_other, hp_put, nx_put, ne_eq, reduceCtorEq, not_false_eq_true, true_and, Pa.l.injEq, a0, a1]
    exact ⟨0, _, d, rfl, by omega, rfl, by omega, by rw [e1, e2]; exact hJ, fun j _ _ => by rw [e1], fun j h => .inl h, by simp, rfl⟩
end Go.DD

/- Chapter 03: items are packed. Conditions: those that each theorem states. -/
namespace Go.DD
open Go Go.Proofs

theorem kn_ppack (k itr : Nat) (cs : List DV) (item : List Nat → Nat → Nat × List Nat) (b : List Nat) (Wr Rd : Nat → Prop) (hp0 : Tr DObj) (nx0 : Nat) (K : DV → Tr DObj → Nat → Prop)
    (hcs : ∀ id ∈ DV.refsL cs, (hp0.get id).isSome = true) (hW : ∀ j, Wr j ∨ Rd j → j < nx0) (hWR : ∀ id ∈ DV.refsL cs, Wr id ∨ Rd id)
    (hit : ∀ hp nx (K : DV → Tr DObj → Nat → Prop) sl L bo bh d, nx0 ≤ nx → PJ sl L bo bh ⟨[], none⟩ d hp nx → (∀ j, Wr j ∨ Rd j → ¬ Mine L bo bh d j ∧ hp.get j = hp0.get j) → (∀ hp' nx' d', nx ≤ nx' → PJ sl L bo bh (packAt item b 0 ⟨[], none⟩) d' hp' nx' → (∀ j, j < nx → ¬ Mine L bo bh d j → ¬ Wr j → hp'.get j = hp.get j) → (∀ j, Mine L bo bh d' j → Mine L bo bh d j ∨ nx ≤ j) → K (.tup []) hp' nx') → KW (kN k) (.fn itr) (.yl L :: cs) hp nx K)
    (hK : ∀ hp' nx' d', nx0 ≤ nx' → (∀ j, j < nx0 → ¬ Wr j → hp'.get j = hp0.get j) → Own hp' d' (pack item b) → Rng nx0 nx' d' → K d' hp' nx') :
    KW (kN (k + 1)) (.fn 36) [.fn (.func itr) (.tup [] :: cs)] hp0 nx0 K := by
  refine kn_1 (relW_n (by decide)) t36 (Nat.le_of_ble_eq_true rfl) fun es e1 e2 he => ?_
  have a0 : rawE es (.t .o) = .fn (.func itr) (.tup [] :: cs) := he 0 _ rfl
  unfold r36
  simp only [↓ew_s, ↓ew_n, ↓sw_q, ↓sw_m1, ↓sw_z, ↓then_n, xw_some, mk1_eq, n_c, ↓z_al]
  refine sws_al fun hp1 hg1 hk1 => ?_
  simp only [hp_put, nx_put, ne_eq, e1, e2] at hg1 hk1
  simp only [↓ew_s, ↓ew_n, ↓sw_q, ↓sw_z, ↓then_n, nx_put, sl_put, ↓z_al]
  refine sws_al fun hp2 hg2 hk2 => ?_
  simp only [ne_eq, e2] at hg2 hk2
  simp only [↓sw_q, sl_put, ↓z_st]
  refine sw_sto (id := nx0 + 1) (off := 0) (v := iv (-1)) (by simp only [rw_put, n_mk, e2]) hg2 rfl (ok_i _ _) (by simp) fun hp3 hg3 hk3 => ?_
  simp only [ne_eq] at hg3 hk3
  simp only [put_n, ↓ew_s, ↓ew_n, ↓ew_b, ↓sw_q, ↓sw_m1, ↓sw_z, ↓then_n, xw_some, mk1_eq, rw_other, n_mk, sl_put, ne_eq, reduceCtorEq, not_false_eq_true, ↓z_r, a0, e2]
  have k3 : ∀ j, j < nx0 → hp3.get j = hp0.get j := fun j hj => by rw [hk3 j (by omega), hk2 j (by omega), hk1 j (by omega)]
  refine ew_rng (f := itr) (cs := cs) ?_ ?_
  · rw [evt]
    simp only [rw_put, n_mk]
    refine live_o fun id hid => ?_
    have hid' : id ∈ DV.refsL cs := by simpa [DV.refs, DV.refsL] using hid
    rw [k3 id (hW id (hWR id hid'))]
    exact hcs id hid'
  · simp only [ne_eq]
    refine hit _ _ _ _ (nx0 + 1 + 1) nx0 (nx0 + 1) nilS (by omega) ⟨by rw [Tr.get_set, if_pos rfl], by rw [Tr.get_set, if_neg (by omega), hk3 _ (by omega), hk2 _ (by omega)]; exact hg1, by rw [Tr.get_set, if_neg (by omega)]; exact hg3, .nil, ⟨by omega, by omega, by omega, fun _ h => by cases h⟩, ⟨by omega, by omega, by omega, fun _ h => by cases h⟩, by simp only [rw_put, rw_other, n_mk, ne_eq, reduceCtorEq, not_false_eq_true], by simp only [rw_put, rw_other, n_mk, ne_eq, reduceCtorEq, not_false_eq_true, Pa.r.injEq], fun _ h => by cases h⟩ (fun j hj => ⟨fun hm => ?_, ?_⟩) ?_
    · have := hW j hj
      rcases hm with h | h | h | h
      · omega
      · omega
      · omega
      · cases h
    · have := hW j hj
      rw [Tr.get_set, if_neg (by omega), k3 j this]
    · intro hp' nx' d' hnx' hJ' hfr hmi
      refine ⟨_, hJ'.loop, by simp, .inl ⟨rfl, ?_⟩⟩
      have g1 : ∀ j, j ≠ nx0 + 1 + 1 → (hp'.set (nx0 + 1 + 1) none).get j = hp'.get j := fun j hj => by rw [Tr.get_set, if_neg (Ne.symm hj)]
      have gbo : (hp'.set (nx0 + 1 + 1) none).get nx0 = some (.row 22 [d']) := by rw [g1 _ (by omega)]; exact hJ'.gbo
      have how : Own (hp'.set (nx0 + 1 + 1) none) d' (pack item b) := hJ'.own.keep fun id hid => g1 id (hJ'.ne.2.2.2 id hid).1
      simp only [eq_self, ↓ew_s, ↓ew_n, ↓ew_e, ↓sw_q, ↓sw_m1, ↓sw_z, ↓sw_x, ↓then_n, ↓blk_n, xw_some, mk1_eq, x_ld, rw_put, rw_other, n_mk, sl_put, ne_eq, reduceCtorEq, not_false_eq_true, true_and, or_true, p2, ld_box gbo, how.src.live]
      refine hK _ _ d' (by omega) (fun j hj hw => ?_) how fun id hid => ⟨?_, hJ'.lt.2.2.2 id hid⟩
      · rw [g1 j (by omega), hfr j (by omega) (fun hm => ?_) hw, Tr.get_set, if_neg (by omega), k3 j hj]
        rcases hm with h | h | h | h
        · omega
        · omega
        · omega
        · cases h
      · rcases hmi id (.inr (.inr (.inr hid))) with (h | h | h | h) | h
        · exact absurd h (hJ'.ne.2.2.2 id hid).1
        · exact absurd h (hJ'.ne.2.2.2 id hid).2.1
        · exact absurd h (hJ'.ne.2.2.2 id hid).2.2
        · cases h
        · omega
end Go.DD

/- Chapter 03: Rle packs. Conditions: those that each theorem states. -/
namespace Go.DD
open Go Go.Proofs

theorem kn_runs (k : Nat) (hp : Tr DObj) (nx : Nat) (K : DV → Tr DObj → Nat → Prop) (d : DV) (b : List Nat) (hs : Src hp d b) (_ho : Old nx d)
    (hK : ∀ hp', hp'.get nx = some (.row 22 [d]) → (∀ j, j ≠ nx → hp'.get j = hp.get j) → K (.fn (.func 64) [.tup [], .pt nx 0]) hp' (nx + 1)) : KW (kN (k + 1)) (.fn 37) [d] hp nx K := by
  refine kn_1 (relW_n (by decide)) t37 (Nat.le_of_ble_eq_true rfl) fun es e1 e2 he => ?_
  have a0 : rawE es (.t .o) = d := he 0 _ rfl
  have hs1 : Src es.hp d b := e1 ▸ hs
  unfold r37
  simp only [↓ew_s, ↓ew_n, ↓sw_q, ↓z_bx]
  refine sws_bx (v := d) (by rw [evt, a0]; exact hs1.live) (ok_s hs1) fun hp1 hg1 hk1 => ?_
  simp only [ne_eq, e1, e2] at hg1 hk1
  have hlf : liveE hp1 (.fn (.func 64) [.tup [], .pt nx 0]) = .fn (.func 64) [.tup [], .pt nx 0] := live_o fun id hid => by
    have : id = nx := by simpa [DV.refs, DV.refsL] using hid
    rw [this, hg1]; rfl
  simp only [eq_self, ↓ew_s, ↓ew_n, ↓ew_e, ↓sw_q, ↓sw_m1, ↓sw_z, ↓then_n, xw_some, mk1_eq, List.map_cons, List.map_nil, rw_put, rw_other, n_c, n_mk, sl_put, ne_eq, reduceCtorEq, not_false_eq_true, true_and, or_true, ↓sw_mkf, n_ev, p1, p2, e2, live_pt hg1, hlf]
  exact hK hp1 hg1 hk1

theorem kn_pr (k : Nat) (hp : Tr DObj) (nx : Nat) (K : DV → Tr DObj → Nat → Prop) (d : DV) (b : List Nat) (hs : Src hp d b) (ho : Old nx d) (hl : b.length < 400000)
    (hK : ∀ hp' nx' d', Al hp nx hp' nx' → Own hp' d' (pack itemR b) → Rng nx nx' d' → K d' hp' nx') : KW (kN (k + 4)) (.fn 35) [d] hp nx K := by
  refine kn_1 (relW_n (by decide)) t35 (Nat.le_of_ble_eq_true rfl) fun es e1 e2 he => ?_
  have a0 : rawE es (.t .o) = d := he 0 _ rfl
  unfold r35
  simp only [↓ew_s, ↓ew_n, ↓sw_q, ↓sw_m1, ↓sw_z, ↓then_n, xw_some, mk1_eq, List.map_cons, List.map_nil, rw_put, rw_other, n_c, hp_put, nx_put, ne_eq, reduceCtorEq, not_false_eq_true, ↓z_call, a0]
  refine kws (kn_runs _ _ _ _ d b (e1 ▸ hs) (e2 ▸ ho) fun hp1 hg1 hk1 => ?_)
  rw [e2] at hg1
  rw [e1, e2] at hk1
  simp only [↓sw_q, List.map_cons, List.map_nil, rw_put, n_mk, sl_put, ↓z_call, e2]
  refine kws (kn_ppack (k + 2) _ [.pt nx 0] itemR b (fun _ => False) (fun j => j = nx ∨ j ∈ d.refs) hp1 (nx + 1) _ (fun id hid => ?_) (fun j hj => ?_) (fun id hid => ?_) ?_ fun hp' nx' d' h1 h2 h3 h4 => ?_)
  · have : id = nx := by simpa [DV.refs, DV.refsL] using hid
    rw [this, hg1]; rfl
  · rcases hj with hj | hj | hj
    · exact absurd hj id
    · omega
    · have := ho j hj; omega
  · have : id = nx := by simpa [DV.refs, DV.refsL] using hid
    exact .inr (.inl this)
  · intro hp2 nx2 K2 sl L bo bh d2 hnx2 hJ hR hK2
    have hs2 : Src hp2 d b := hs.keep fun id hid => by
      have := ho id hid
      rw [(hR id (.inr (.inr hid))).2, hk1 id (by omega)]
    refine kn_runs1 k hp2 nx2 K2 sl L bo bh nx d2 d b hJ (by rw [(hR nx (.inr (.inl rfl))).2]; exact hg1) hs2 ⟨by omega, (hR nx (.inr (.inl rfl))).1⟩ (fun id hid => ⟨by have := ho id hid; omega, (hR id (.inr (.inr hid))).1⟩) hl fun hp' nx' d' h1 h2 h3 h4 => hK2 hp' nx' d' h1 h2 (fun j hj hm _ => h3 j hj hm) h4
  · simp only [eq_self, ↓ew_e, ↓sw_q, ↓sw_m1, ↓sw_z, ↓then_n, xw_some, mk1_eq, rw_put, n_mk, sl_put, reduceCtorEq, true_and, or_true, p2, h3.src.live]
    refine hK _ _ _ ⟨by omega, fun j hj => ?_⟩ h3 (h4.mono (by omega) (Nat.le_refl _))
    rw [h2 j (by omega) id, hk1 j (by omega)]
end Go.DD

/- Chapter 03: the keys of Lz. Conditions: those that each theorem states. -/
namespace Go.DD
open Go Go.Proofs

theorem kn_key (k : Nat) (hp : Tr DObj) (nx : Nat) (K : DV → Tr DObj → Nat → Prop) (bb : Nat) (db : DV) (b : List Nat) (i : Nat) (hbb : hp.get bb = some (.row 22 [db])) (hs : Src hp db b) (hb1 : bb < nx) (ho : Old nx db) (hb : ∀ x ∈ b, x < 256) (hi : i + 4 ≤ b.length) (hl : b.length < 900000)
    (hK : ∀ nx', nx ≤ nx' → K (.v (.int .u32 (keyOf b i : Nat))) hp nx') : KW (kN (k + 1)) (.fn 67) [iv i, .pt bb 0] hp nx K := by
  refine kn_1 (relW_n (by decide)) t67 (Nat.le_of_ble_eq_true rfl) fun es e1 e2 he => ?_
  have a0 : rawE es (.t .o) = iv i := he 0 _ rfl
  have a1 : rawE es (.t (.l .o)) = .pt bb 0 := he 1 _ rfl
  have c1 : es.hp.get bb = some (.row 22 [db]) := e1 ▸ hbb
  have c2 : Src es.hp db b := e1 ▸ hs
  have c3 : Old es.nx db := e2 ▸ ho
  have c4 : bb < es.nx := e2 ▸ hb1
  have f0 := byte_lt hb i
  have f1 := byte_lt hb (i + 1)
  have f2 := byte_lt hb (i + 2)
  have f3 := byte_lt hb (i + 3)
  have s0 := b_shlN (a := b.getD i 0) (c := 24) (r := b.getD i 0 * 16777216) rfl (by omega) (by omega)
  have s1 := b_shlN (a := b.getD (i + 1) 0) (c := 16) (r := b.getD (i + 1) 0 * 65536) rfl (by omega) (by omega)
  have s2 := b_shlN (a := b.getD (i + 2) 0) (c := 8) (r := b.getD (i + 2) 0 * 256) rfl (by omega) (by omega)
  have o1 := b_orN (a := b.getD i 0 * 16777216) (b := b.getD (i + 1) 0 * 65536) (r := b.getD i 0 * 16777216 + b.getD (i + 1) 0 * 65536) (or_add (c := b.getD i 0) (b := b.getD (i + 1) 0 * 65536) 24 (by omega)) (by omega) (by omega) (by omega)
  have o2 := b_orN (a := b.getD i 0 * 16777216 + b.getD (i + 1) 0 * 65536) (b := b.getD (i + 2) 0 * 256) (r := b.getD i 0 * 16777216 + b.getD (i + 1) 0 * 65536 + b.getD (i + 2) 0 * 256) (by
    have := or_add (c := b.getD i 0 * 256 + b.getD (i + 1) 0) (b := b.getD (i + 2) 0 * 256) 16 (by omega)
    rw [show (b.getD i 0 * 256 + b.getD (i + 1) 0) * 2 ^ 16 = b.getD i 0 * 16777216 + b.getD (i + 1) 0 * 65536 by omega] at this
    exact this) (by omega) (by omega) (by omega)
  have o3 := b_orN (a := b.getD i 0 * 16777216 + b.getD (i + 1) 0 * 65536 + b.getD (i + 2) 0 * 256) (b := b.getD (i + 3) 0) (r := keyOf b i) (by
    have := or_add (c := b.getD i 0 * 65536 + b.getD (i + 1) 0 * 256 + b.getD (i + 2) 0) (b := b.getD (i + 3) 0) 8 (by omega)
    rw [show (b.getD i 0 * 65536 + b.getD (i + 1) 0 * 256 + b.getD (i + 2) 0) * 2 ^ 8 = b.getD i 0 * 16777216 + b.getD (i + 1) 0 * 65536 + b.getD (i + 2) 0 * 256 by omega] at this
    exact this) (by omega) (by omega) (by unfold keyOf; omega)
  have i0 : i < b.length := by omega
  have i1 : i + 1 < b.length := by omega
  have i2 : i + 2 < b.length := by omega
  have i3 : i + 3 < b.length := by omega
  have g2 : binD .add (.v (.int .i64 (i : Int))) (.v (.int .i64 2)) = some (.v (.int .i64 ((i + 2 : Nat) : Int))) := b_addL 2 (by omega) (by omega)
  have g3 : binD .add (.v (.int .i64 (i : Int))) (.v (.int .i64 3)) = some (.v (.int .i64 ((i + 3 : Nat) : Int))) := b_addL 3 (by omega) (by omega)
  have t24 : (.v (.int .u64 24) : DV) = .v (.int .u64 ((24 : Nat) : Int)) := rfl
  have t16 : (.v (.int .u64 16) : DV) = .v (.int .u64 ((16 : Nat) : Int)) := rfl
  have t8 : (.v (.int .u64 8) : DV) = .v (.int .u64 ((8 : Nat) : Int)) := rfl
  unfold r67
  simp only [eq_self, ↓ew_s, ↓ew_n, ↓ew_e, ↓sw_q, ↓sw_m1, ↓sw_z, ↓then_n, xw_some, mk1_eq, x_ia, x_ld, rw_put, rw_other, n_c, n_mk, hp_put, nx_put, sl_put, x_bin, live_v, ne_eq, reduceCtorEq, not_false_eq_true, and_true, true_and, or_true, and_self, Pa.l.injEq, Pa.r.injEq, xk_cvi, ↓sw_reg, ↓tw_q, ↓tw_z, ↓tw_chk, ↓tw_read, ↓chk_nil, ↓chk_cons, ro_v, ro_pt, okl_nops, look_f, ↓refsL_cons, ↓refs_nil, look_nil, refs_v, List.append_nil, n_ev, p3, p7, p14, p22, p30, a0, a1, iv, ub, ld_box c1, okRef_old c1 c4, c2.ro c3, c2.roa c3, c2.ia i0, c2.ld i0, c2.ia i1, c2.ld i1, c2.ia i2, c2.ld i2, c2.ia i3, c2.ld i3, b_add1 (show i < _ by omega), g2, g3, cvi_u32 (show b.getD i 0 < _ by omega), cvi_u32 (show b.getD (i + 1) 0 < _ by omega), cvi_u32 (show b.getD (i + 2) 0 < _ by omega), cvi_u32 (show b.getD (i + 3) 0 < _ by omega), t24, t16, t8, s0, s1, s2, o1, o2, o3]
  rw [e1]
  exact hK _ (by omega)
end Go.DD

/- Chapter 03: the places of four bytes are kept. Conditions: those that each theorem states. -/
namespace Go.DD
open Go Go.Proofs

def PrivL (bn im : Nat) (es : List ME) (j : Nat) : Prop := j = bn ∨ j = im ∨ ∃ key, j ∈ (valM es key).refs
/-- What the items of Lz hold on to. -/
structure LI (bb bn bm bk im : Nat) (db : DV) (b : List Nat) (next : Nat) (es : List ME) (hp : Tr DObj) (nx : Nat) : Prop where
  gb : hp.get bb = some (.row 22 [db])
  src : Src hp db b
  gn : hp.get bn = some (.row 3 [ib next])
  gm : hp.get bm = some (.row 108 [.mp im])
  gk : hp.get bk = some (.row 109 [.fn (.func 67) [.tup [], .pt bb 0]])
  gi : ∃ ck, hp.get im = some (.mapo ck es)
  k32 : Keys32 es
  own : ∀ key, OwnI hp (valM es key) (places b key next)
  dis : ∀ k1 k2, k1 ≠ k2 → ∀ id ∈ (valM es k1).refs, id ∉ (valM es k2).refs
  lt : bb < nx ∧ bn < nx ∧ bm < nx ∧ bk < nx ∧ im < nx
  ltd : ∀ id ∈ db.refs, id < nx
  ltv : ∀ key, ∀ id ∈ (valM es key).refs, id < nx
  ne : ∀ j, PrivL bn im es j → j ≠ bb ∧ j ≠ bm ∧ j ≠ bk ∧ j ∉ db.refs
  ni : bn ≠ im
  nv : ∀ key, ∀ id ∈ (valM es key).refs, id ≠ bn ∧ id ≠ im
theorem LI.keep {bb bn bm bk im : Nat} {db : DV} {b : List Nat} {next : Nat} {es : List ME} {hp hp' : Tr DObj} {nx nx' : Nat} (h : LI bb bn bm bk im db b next es hp nx) (hn : nx ≤ nx') (hk : ∀ j, (j = bb ∨ j ∈ db.refs ∨ j = bm ∨ j = bk ∨ PrivL bn im es j) → hp'.get j = hp.get j) : LI bb bn bm bk im db b next es hp' nx' := by
  obtain ⟨g1, g2, g3, g4, g5, ⟨ck, g6⟩, g7, g8, g9, ⟨l1, l2, l3, l4, l5⟩, l6, l7, n1, n2, n3⟩ := h
  exact ⟨by rw [hk _ (.inl rfl)]; exact g1, g2.keep fun id hid => hk id (.inr (.inl hid)), by rw [hk _ (.inr (.inr (.inr (.inr (.inl rfl)))))]; exact g3, by rw [hk _ (.inr (.inr (.inl rfl)))]; exact g4, by rw [hk _ (.inr (.inr (.inr (.inl rfl))))]; exact g5,
    ⟨ck, by rw [hk _ (.inr (.inr (.inr (.inr (.inr (.inl rfl))))))]; exact g6⟩, g7, fun key => (g8 key).keep fun id hid => hk id (.inr (.inr (.inr (.inr (.inr (.inr ⟨key, hid⟩)))))), g9, ⟨by omega, by omega, by omega, by omega, by omega⟩, fun id hid => by have := l6 id hid; omega, fun key id hid => by have := l7 key id hid; omega, n1, n2, n3⟩
theorem places_len (b : List Nat) (key : Nat) : ∀ n, (places b key n).length ≤ n
  | 0 => by simp [places]
  | n + 1 => by
    have := places_len b key n
    unfold places
    split
    · simp; omega
    · omega

theorem kn_loopA (k : Nat) (es : ES) (Q : Exit → ES → Prop) (bb bn bm bk im bi : Nat) (db : DV) (b : List Nat) (next i : Nat) (me : List ME) (hb : ∀ x ∈ b, x < 256) (hl : b.length < 400000) (hLI : LI bb bn bm bk im db b next me es.hp es.nx)
    (s2 : rawE es (.t (.r .o)) = .pt bn 0) (s3 : rawE es (.t (.l (.l .o))) = .pt bm 0) (s4 : rawE es (.t (.r (.l .o))) = .pt bk 0) (s6 : rawE es (.t (.r (.r .o))) = .pt bi 0) (gi : es.hp.get bi = some (.row 3 [ib i])) (hbi : bi < es.nx) (hnb : ¬ PrivL bn im me bi) (hni : next ≤ i) (hi : i + 4 ≤ b.length)
    (hQ : ∀ es' me', LI bb bn bm bk im db b i me' es'.hp es'.nx → es.nx ≤ es'.nx → rawE es' (.t .o) = rawE es (.t .o) → rawE es' (.t (.l .o)) = rawE es (.t (.l .o)) → rawE es' (.t (.r .o)) = rawE es (.t (.r .o)) → rawE es' (.t (.l (.l .o))) = rawE es (.t (.l (.l .o))) → rawE es' (.t (.r (.l .o))) = rawE es (.t (.r (.l .o))) → rawE es' (.t (.r (.r .o))) = rawE es (.t (.r (.r .o))) → rawE es' (.t (.l (.l (.l .o)))) = rawE es (.t (.l (.l (.l .o)))) → rawE es' (.t (.r (.l (.l .o)))) = rawE es (.t (.r (.l (.l .o)))) →
      (∀ j, j < es.nx → ¬ PrivL bn im me j → es'.hp.get j = es.hp.get j) → (∀ j, PrivL bn im me' j → PrivL bn im me j ∨ es.nx ≤ j) → Q (.exit 2) es') :
    EW (cL 1000000 l68_1) (kN (k + 1)) es Q := by
  refine EW.l (I := fun m es1 => ∃ n me1, m = i - n ∧ n ≤ i ∧ LI bb bn bm bk im db b n me1 es1.hp es1.nx ∧ es.nx ≤ es1.nx ∧ rawE es1 (.t .o) = rawE es (.t .o) ∧ rawE es1 (.t (.l .o)) = rawE es (.t (.l .o)) ∧ rawE es1 (.t (.r .o)) = rawE es (.t (.r .o)) ∧ rawE es1 (.t (.l (.l .o))) = rawE es (.t (.l (.l .o))) ∧ rawE es1 (.t (.r (.l .o))) = rawE es (.t (.r (.l .o))) ∧ rawE es1 (.t (.r (.r .o))) = rawE es (.t (.r (.r .o))) ∧ rawE es1 (.t (.l (.l (.l .o)))) = rawE es (.t (.l (.l (.l .o)))) ∧ rawE es1 (.t (.r (.l (.l .o)))) = rawE es (.t (.r (.l (.l .o)))) ∧
      (∀ j, j < es.nx → ¬ PrivL bn im me j → es1.hp.get j = es.hp.get j) ∧ (∀ j, PrivL bn im me1 j → PrivL bn im me j ∨ es.nx ≤ j)) ?_ (i - next) 1000000 _ ⟨next, me, rfl, hni, hLI, Nat.le_refl _, rfl, rfl, rfl, rfl, rfl, rfl, rfl, rfl, fun _ _ _ => rfl, fun _ h => .inl h⟩ (by omega)
  rintro m es1 ⟨n, me1, rfl, hn, hI, hnx, r0, r1, r2, r3, r4, r6, r7, r8, hfr, hpr⟩
  unfold l68_1
  have gi1 : es1.hp.get bi = some (.row 3 [ib i]) := by rw [hfr bi hbi hnb]; exact gi
  have b2 := r2.trans s2
  have b3 := r3.trans s3
  have b4 := r4.trans s4
  have b6 := r6.trans s6
  obtain ⟨g1, g2, g3, g4, g5, ⟨ck, g6⟩, g7, g8, g9, ⟨l1, l2, l3, l4, l5⟩, l6, l7, n1, n2, n3⟩ := id hI
  by_cases h1 : n < i
  · have hbn : bn ≠ bb ∧ bn ≠ bm ∧ bn ≠ bk ∧ bn ∉ db.refs := n1 bn (.inl rfl)
    have him : im ≠ bb ∧ im ≠ bm ∧ im ≠ bk ∧ im ∉ db.refs := n1 im (.inr (.inl rfl))
    simp only [eq_self, ↓ew_s, ↓ew_n, ↓ew_e, ↓ew_c', ↓ew_b, ↓sw_q, ↓sw_z, ↓sw_x, ↓then_n, ↓then_x, xw_some, cw_t, x_ld, rw_put, rw_other, n_mk, hp_put, nx_put, sl_put, x_bin, ne_eq, reduceCtorEq, not_false_eq_true, and_true, true_and, and_self, decide_true, Pa.l.injEq, Pa.r.injEq, ro_fn, ↓sw_reg, ↓tw_q, ↓tw_chk, ↓tw_read, ↓z_main, ↓chk_nil, ↓chk_cons, ro_v, ro_pt, look_f, ↓refsL_cons, ↓refs_nil, List.append_nil, b2, b3, b4, b6, ib, h1, ld_box gi1, ld_box g3, ld_box g4, ld_box g5, b_lssN, okRef_old g3 l2, okRef_old g4 l3, okRef_old g5 l4, okRef_old g1 l1]
    refine tws_main rfl (sws_cf (f := 67) (fs := []) (cs := [.pt bb 0]) (by rw [evt]; simp only [rw_put, rw_other, n_mk, ne_eq, reduceCtorEq, not_false_eq_true]; exact live_fn1 g1) ?_)
    simp only [List.map_cons, List.map_nil, List.nil_append, List.cons_append, rw_put, n_mk, nx_put, sl_put]
    refine kn_key k _ _ _ bb db b n g1 g2 (by omega) (fun id hid => by have := l6 id hid; omega) hb (by omega) (by omega) fun nx1 hnx1 => ?_
    simp only [eq_self, xw_some, x_ld, rw_put, rw_other, n_mk, sl_put, ne_eq, reduceCtorEq, not_false_eq_true, and_true, true_and, and_self, Pa.l.injEq, Pa.r.injEq, ro_fn, ↓tw_q, ↓tw_chk, ↓tw_read, ↓z_main, ↓chk_nil, ↓chk_cons, ro_v, ro_pt, ↓refsL_cons, ↓refs_nil, List.append_nil, b2, b3, b4, ib, ld_box g3, ld_box g4, ld_box g5, okRef_old g3 l2, okRef_old g4 l3, okRef_old g5 l4, okRef_old g1 l1]
    refine ⟨hnx1, tws_main rfl (sws_cf (f := 67) (fs := []) (cs := [.pt bb 0]) (by rw [evt]; simp only [rw_put, rw_other, n_mk, ne_eq, reduceCtorEq, not_false_eq_true]; exact live_fn1 g1) ?_)⟩
    simp only [List.map_cons, List.map_nil, List.nil_append, List.cons_append, rw_put, n_mk, sl_put]
    refine kn_key k _ _ _ bb db b n g1 g2 (by omega) (fun id hid => by have := l6 id hid; omega) hb (by omega) (by omega) fun nx2 hnx2 => ?_
    have hov := g8 (keyOf b n)
    simp only [eq_self, xw_some, x_ld, rw_put, rw_other, n_mk, sl_put, live_v, ne_eq, reduceCtorEq, not_false_eq_true, and_true, true_and, and_self, Pa.l.injEq, Pa.r.injEq, xk_lkp, ↓tw_q, ↓tw_chk, ↓tw_read, ↓z_lay, ↓chk_nil, ↓chk_cons, ro_v, ro_pt, ro_mp, look_f, ↓refsL_cons, ↓refs_nil, refs_v, List.append_nil, n_ev, p31, p34, b2, ib, ld_box g3, okRef_old g3 l2, okRef_old g6 l5, live_mp g6, lk32 g6 g7]
    refine ⟨hnx2, tws_bsli (x := n) rfl (by simp only [List.map_cons, List.map_nil, n_ev, rw_put, n_mk, p36, live_v]; exact fill1i _ _) fun hp2 hg2 hk2 => ?_⟩
    simp only [ne_eq] at hg2 hk2
    simp only [rw_put, rw_other, n_mk, sl_put, ne_eq, reduceCtorEq, not_false_eq_true, and_true, Pa.l.injEq, ↓tw_q, ↓tw_chk, ↓z_main, ↓chk_nil, ↓chk_cons, ro_ms, ↓refsL_cons, ↓refs_nil, look_nil, refs_v, List.append_nil]
    have ov2 : OwnI hp2 (valM me1 (keyOf b n)) (places b (keyOf b n) n) := hov.keep fun id hid => hk2 id (by have := l7 _ id hid; omega)
    have hpl := places_len b (keyOf b n) n
    refine ⟨⟨fun id hid => (okRef_iff _ _).2 ⟨ov2.alive id hid, .inl (l7 _ id hid)⟩, okRef_new hg2 rfl⟩, tws_main rfl ?_⟩
    refine sw_appi (id := es1.nx + 10) (x := n) (d := valM me1 (keyOf b n)) (by simp only [rw_put, rw_other, n_mk, ne_eq, reduceCtorEq, not_false_eq_true, Pa.l.injEq, p35]) ov2 (by simp only [rw_put, n_mk, p37]) hg2 (by omega) (by decide) fun hp3 hg3 hk3 => ?_
    simp only [ne_eq] at hg3 hk3
    have q1 : ∀ j, j < es1.nx → j ∉ (valM me1 (keyOf b n)).refs → hp3.get j = es1.hp.get j := fun j hj h => by rw [hk3 j (by omega) h, hk2 j (by omega)]
    have nbn : bn ∉ (valM me1 (keyOf b n)).refs := fun h => (n3 _ bn h).1 rfl
    have nim : im ∉ (valM me1 (keyOf b n)).refs := fun h => (n3 _ im h).2 rfl
    have nP : ∀ j, j = bb ∨ j = bm ∨ j = bk ∨ j ∈ db.refs → j ∉ (valM me1 (keyOf b n)).refs := fun j hj h => by
      obtain ⟨h1, h2, h3, h4⟩ := n1 j (.inr (.inr ⟨_, h⟩))
      rcases hj with hj | hj | hj | hj
      · exact h1 hj
      · exact h2 hj
      · exact h3 hj
      · exact h4 hj
    have m6 : hp3.get im = some (.mapo ck me1) := by rw [q1 im l5 nim]; exact g6
    simp only [eq_self, rw_put, rw_other, n_mk, sl_put, ne_eq, reduceCtorEq, not_false_eq_true, and_true, true_and, Pa.l.injEq, Pa.r.injEq, ↓tw_q, ↓tw_chk, ↓z_main, ↓chk_nil, ↓chk_cons, ro_v, ro_ms, ro_mp, okRef_old m6 l5]
    refine ⟨by omega, ⟨(okRef_iff _ _).2 ⟨by rw [hg3]; rfl, .inr (.inl (by omega))⟩, tws_main rfl ?_⟩⟩
    refine sws_mup (im := im) (es' := me1) (key := keyOf b n) (d := .ms nx2 0 (places b (keyOf b n) n ++ [n]).length 1) (by simp only [n_ev, rw_put, rw_other, n_mk, ne_eq, reduceCtorEq, not_false_eq_true, Pa.l.injEq, Pa.r.injEq, p27]; exact live_mp m6) m6 g7 (by simp only [n_ev, rw_put, rw_other, n_mk, ne_eq, reduceCtorEq, not_false_eq_true, Pa.r.injEq, p30, live_v]) (by simp only [n_ev, rw_put, n_mk, p38]; exact live_ms hg3) fun hp4 ck' me2 hg4 hk2' hv hk4 => ?_
    simp only [ne_eq] at hk4
    have q2 : ∀ j, j < es1.nx → j ∉ (valM me1 (keyOf b n)).refs → j ≠ im → hp4.get j = es1.hp.get j := fun j hj h h' => by rw [hk4 j h', q1 j hj h]
    have m3 : hp4.get bn = some (.row 3 [ib n]) := by rw [q2 bn l2 nbn n2]; exact g3
    simp only [put_n, ↓ew_n, ↓sw_q, ↓sw_x, ↓then_n, ↓blk_n, xw_some, x_ld, rw_put, rw_other, n_c, n_mk, sl_put, x_bin, ne_eq, reduceCtorEq, not_false_eq_true, Pa.r.injEq, ↓z_st, ↓tw_z, b2, ld_box m3, ib, b_add1 (show n < _ by omega)]
    have sv : ∀ c ∈ [DV.v (.int .i64 (n : Int))], sameDV 6 c c = true := fun c hc => by rw [List.mem_singleton] at hc; rw [hc]; exact same_i _ _ _
    have sm : ∀ c ∈ [DV.mp im], sameDV 6 c c = true := fun c hc => by rw [List.mem_singleton] at hc; rw [hc]; simp [sameDV]
    have sk : ∀ c ∈ [DV.fn (.func 67) [.tup [], .pt bb 0]], sameDV 6 c c = true := fun c hc => by rw [List.mem_singleton] at hc; rw [hc]; simp [sameDV, sameFn, sameL]
    refine ⟨Nat.le_refl _, ?_, ?_⟩
    · refine okl_look (fun id hid => ?_) (okl_look (fun id hid => ?_) (okl_look (fun id hid => ?_) (okl_look (fun id hid => ?_) (okl_look (fun id hid => ?_) (okl_nil _ _ _)))))
      all_goals
        simp only [DV.refs, List.mem_singleton] at hid
        subst hid
        refine ⟨by assumption, fun p hp => ?_⟩
        simp only [List.mem_cons, List.mem_nil_iff, or_false] at hp
        rcases hp with rfl | rfl | rfl | rfl
      all_goals first
        | exact .inl rfl
        | exact .inr (.inl rfl)
        | exact .inr (.inr (sameAt_row g3 sv))
        | exact .inr (.inr (sameAt_row g4 sm))
        | exact .inr (.inr (sameAt_row g5 sk))
        | exact .inr (.inr (sameAt_row' (by rw [hk2 _ (by omega)]; exact g4) (by rw [hk3 _ (by omega) (nP _ (.inr (.inl rfl)))]) sm))
        | skip
    · refine sw_sto (id := bn) (off := 0) (v := ib (n + 1)) (by simp only [rw_other, n_mk, ne_eq, reduceCtorEq, not_false_eq_true, Pa.r.injEq, b2]) m3 (by simp only [evt, rw_put, n_mk]; exact live_v _ _) (ok_i _ _) (by simp) fun hp5 hg5 hk5 => ?_
      simp only [ne_eq] at hg5 hk5
      simp only [put_n, ↓sw_z, ↓then_n, rw_other, n_mk, ne_eq, reduceCtorEq, not_false_eq_true, Pa.l.injEq, Pa.r.injEq]
      have q3 : ∀ j, j < es1.nx → ¬ PrivL bn im me1 j → hp5.get j = es1.hp.get j := fun j hj h => by
        rw [hk5 j (fun e => h (.inl e)), q2 j hj (fun e => h (.inr (.inr ⟨_, e⟩))) (fun e => h (.inr (.inl e)))]
      have nb1 : ∀ j, j = bb ∨ j ∈ db.refs ∨ j = bm ∨ j = bk → ¬ PrivL bn im me1 j := fun j hj h => by
        obtain ⟨h1, h2, h3, h4⟩ := n1 j h
        rcases hj with hj | hj | hj | hj
        · exact h1 hj
        · exact h4 hj
        · exact h2 hj
        · exact h3 hj
      have hpl : ∀ key, places b key (n + 1) = if key = keyOf b n then places b key n ++ [n] else places b key n := fun key => by
        show (if keyOf b n = key then _ else _) = _
        by_cases h : key = keyOf b n
        · rw [if_pos h.symm, if_pos h]
        · rw [if_neg (fun e => h e.symm), if_neg h]
      have hrow : hp5.get nx2 = some (.row 3 ((places b (keyOf b n) n ++ [n]).map ib)) := by rw [hk5 nx2 (by omega), hk4 nx2 (by omega)]; exact hg3
      have hvk : valM me2 (keyOf b n) = .ms nx2 0 (places b (keyOf b n) n ++ [n]).length 1 := by rw [hv, if_pos rfl]
      have hvo : ∀ key, key ≠ keyOf b n → valM me2 key = valM me1 key := fun key h => by rw [hv, if_neg h]
      have hrefs : ∀ key, ∀ id ∈ (valM me2 key).refs, (key = keyOf b n ∧ id = nx2) ∨ (key ≠ keyOf b n ∧ id ∈ (valM me1 key).refs) := fun key id hid => by
        by_cases h : key = keyOf b n
        · subst h
          rw [hvk] at hid
          exact .inl ⟨rfl, by simpa [DV.refs] using hid⟩
        · rw [hvo key h] at hid
          exact .inr ⟨h, hid⟩
      have hpriv : ∀ j, PrivL bn im me2 j → PrivL bn im me1 j ∨ j = nx2 := by
        rintro j (h | h | ⟨key, h⟩)
        · exact .inl (.inl h)
        · exact .inl (.inr (.inl h))
        · rcases hrefs key j h with ⟨_, h⟩ | ⟨_, h⟩
          · exact .inr h
          · exact .inl (.inr (.inr ⟨key, h⟩))
      refine ⟨i - (n + 1), by omega, n + 1, me2, rfl, by omega, ⟨by rw [q3 bb l1 (nb1 bb (.inl rfl))]; exact g1, g2.keep fun id hid => q3 id (l6 id hid) (nb1 id (.inr (.inl hid))), hg5, by rw [q3 bm l3 (nb1 bm (.inr (.inr (.inl rfl))))]; exact g4, by rw [q3 bk l4 (nb1 bk (.inr (.inr (.inr rfl))))]; exact g5, ⟨ck', by rw [hk5 im (Ne.symm n2)]; exact hg4⟩, hk2', fun key => ?_, fun k1 k2 hne id h1' h2' => ?_, ⟨by omega, by omega, by omega, by omega, by omega⟩, fun id hid => by have := l6 id hid; omega, fun key id hid => ?_, fun j hj => ?_, n2, fun key id hid => ?_⟩, by omega, r0, r1, r2, r3, r4, r6, r7, r8, fun j hj hm => ?_, fun j hj => ?_⟩
      · by_cases h : key = keyOf b n
        · subst h
          rw [hvk, hpl, if_pos rfl]
          exact .ms nx2 _ hrow
        · rw [hvo key h, hpl, if_neg h]
          refine (g8 key).keep fun id hid => ?_
          have hlt := l7 key id hid
          rw [hk5 id (n3 key id hid).1, q2 id hlt (g9 key (keyOf b n) h id hid) (n3 key id hid).2]
      · rcases hrefs k1 id h1' with ⟨a1, a2⟩ | ⟨a1, a2⟩ <;> rcases hrefs k2 id h2' with ⟨c1, c2⟩ | ⟨c1, c2⟩
        · exact hne (a1.trans c1.symm)
        · have := l7 k2 id c2; omega
        · have := l7 k1 id a2; omega
        · exact g9 k1 k2 hne id a2 c2
      · rcases hrefs key id hid with ⟨_, h⟩ | ⟨_, h⟩
        · omega
        · have := l7 key id h; omega
      · rcases hpriv j hj with h | h
        · exact n1 j h
        · exact ⟨by omega, by omega, by omega, fun hd => by have := l6 j hd; omega⟩
      · rcases hrefs key id hid with ⟨_, h⟩ | ⟨_, h⟩
        · omega
        · exact n3 key id h
      · by_cases hp1 : PrivL bn im me1 j
        · rcases hpr j hp1 with h | h
          · exact absurd h hm
          · omega
        · rw [q3 j (by omega) hp1, hfr j hj hm]
      · rcases hpriv j hj with h | h
        · exact hpr j h
        · exact .inr (by omega)
  · obtain rfl : n = i := by omega
    simp only [↓ew_s, ↓ew_n, ↓ew_e, ↓ew_c', ↓ew_b, ↓sw_q, ↓sw_z, ↓sw_x, ↓then_n, ↓then_x, xw_some, cw_f, x_ld, rw_put, rw_other, n_c, hp_put, x_bin, ne_eq, reduceCtorEq, not_false_eq_true, decide_false, Pa.r.injEq, ↓z_st, b2, b6, ib, h1, ld_box gi1, ld_box g3, b_lssN]
    refine hQ _ me1 (by simpa only [put_n, rw_put, rw_other, n_c, n_mk, hp_put, nx_put, sl_put, lay_raw, lay_hp, lay_nx, ne_eq, reduceCtorEq, not_false_eq_true, Pa.l.injEq, Pa.r.injEq] using hI) (by simpa only [put_n, rw_put, rw_other, n_c, n_mk, hp_put, nx_put, sl_put, lay_raw, lay_hp, lay_nx, ne_eq, reduceCtorEq, not_false_eq_true, Pa.l.injEq, Pa.r.injEq] using hnx) ?_ ?_ ?_ ?_ ?_ ?_ ?_ ?_ (by simpa only [put_n, rw_put, rw_other, n_c, n_mk, hp_put, nx_put, sl_put, lay_raw, lay_hp, lay_nx, ne_eq, reduceCtorEq, not_false_eq_true, Pa.l.injEq, Pa.r.injEq] using hfr) hpr <;> simp only [rw_other, ne_eq, reduceCtorEq, not_false_eq_true, Pa.l.injEq, Pa.r.injEq] <;> assumption
end Go.DD

/- Chapter 03: the round of the search for copies. Conditions: those that each theorem states. -/
namespace Go.DD
open Go Go.Proofs

theorem b_gtrL {k : IntKind} {a : Nat} (c : Nat) {ci : Int} (h : ci = (c : Int)) : binD .gtr (.v (.int k (a : Int))) (.v (.int k ci)) = some (.v (.bool (decide (c < a)))) := by
  subst h; rw [b_gtr]
  congr 3
  by_cases h : c < a
  · simp [h, show (c : Int) < a by omega]
  · simp [h, show ¬ (c : Int) < a by omega]
theorem b_eqlL {k : IntKind} {a : Nat} (c : Nat) {ci : Int} (h : ci = (c : Int)) : binD .eql (.v (.int k (a : Int))) (.v (.int k ci)) = some (.v (.bool (decide (a = c)))) := by
  subst h; exact b_eqlN k a c
/-- What the search holds on to: its loop, the bytes, the place, how many bytes, how far. -/
structure BJ (sl : Tr DV) (L bb b6 b7 b8 : Nat) (db : DV) (b : List Nat) (i : Nat) (s : Nat × Nat) (lp : DLoop) (hp : Tr DObj) (nx : Nat) : Prop where
  loop : hp.get L = some (.loop lp)
  gb : hp.get bb = some (.row 22 [db])
  src : Src hp db b
  g6 : hp.get b6 = some (.row 3 [ib i])
  g7 : hp.get b7 = some (.row 3 [ib s.1])
  g8 : hp.get b8 = some (.row 3 [ib s.2])
  lt : L < nx ∧ bb < nx ∧ b6 < nx ∧ b7 < nx ∧ b8 < nx
  ltd : ∀ id ∈ db.refs, id < nx
  neL : L ≠ bb ∧ L ≠ b6 ∧ L ≠ b7 ∧ L ≠ b8 ∧ L ∉ db.refs
  ne7 : b7 ≠ bb ∧ b7 ≠ b6 ∧ b7 ≠ b8 ∧ b7 ∉ db.refs
  ne8 : b8 ≠ bb ∧ b8 ≠ b6 ∧ b8 ∉ db.refs
  s1 : rawE ⟨sl, hp, nx⟩ (.t (.l .o)) = .pt bb 0
  s6 : rawE ⟨sl, hp, nx⟩ (.t (.r (.r .o))) = .pt b6 0
  s7 : rawE ⟨sl, hp, nx⟩ (.t (.l (.l (.l .o)))) = .pt b7 0
  s8 : rawE ⟨sl, hp, nx⟩ (.t (.r (.l (.l .o)))) = .pt b8 0
noncomputable def lpS (sl : Tr DV) (st : LoopState) (pend : Option Code) : DLoop := ⟨91, .t sl, [45, 46], da68_1, db68_1, st, pend⟩
theorem kn_sround (k : Nat) (hp : Tr DObj) (nx : Nat) (K : DV → Tr DObj → Nat → Prop) (sl : Tr DV) (L bb b6 b7 b8 : Nat) (db : DV) (b : List Nat) (i j x : Nat) (s : Nat × Nat) (hJ : BJ sl L bb b6 b7 b8 db b i s (lpS sl .ready none) hp nx) (hji : j ≤ i) (hi : i < b.length) (hl : b.length < 400000)
    (hS : lzStop i s j → ∀ hp' nx', nx ≤ nx' → BJ sl L bb b6 b7 b8 db b i s (lpS sl .done (some (.exit 4))) hp' nx' → (∀ j, j ≠ L → j ≠ b7 → j ≠ b8 → hp'.get j = hp.get j) → K (.v (.bool false)) hp' nx')
    (hT : ¬ lzStop i s j → ∀ hp' nx', nx ≤ nx' → BJ sl L bb b6 b7 b8 db b i (lzTry b i s j) (lpS sl .ready none) hp' nx' → (∀ j, j ≠ L → j ≠ b7 → j ≠ b8 → hp'.get j = hp.get j) → K (.v (.bool true)) hp' nx') :
    KW (kN (k + 2)) (.yl L) [iv x, iv j] hp nx K := by
  obtain ⟨j1, j2, j3, j4, j5, j6, ⟨l1, l2, l3, l4, l5⟩, l6, ⟨n1, n2, n3, n4, n5⟩, ⟨m1, m2, m3, m4⟩, ⟨q1, q2, q3⟩, s1, s6, s7, s8⟩ := id hJ
  refine kn_yl (lp := lpS sl .ready none) j1 rfl rfl rfl rfl rfl ?_
  rw [show evalE 1000000 (lpS sl .ready none).nt true (lpS sl .ready none).asg = ca68_1 from ta68_1]
  unfold ca68_1
  have hz : ∀ hp nx, rawE ⟨zipT (lpS sl .ready none).ps [iv x, iv j] sl, hp, nx⟩ (.t (.r (.r (.r (.r (.l .o)))))) = iv j := fun _ _ => rw_put ⟨_, hp, nx⟩ _ (iv j)
  have ho : ∀ (p : Pa) (d : DV), (.l (.r (.r (.r (.l .o))))) ≠ p → (.r (.r (.r (.r (.l .o))))) ≠ p → rawE ⟨sl, hp, nx⟩ (.t p) = d → ∀ hp nx, rawE ⟨zipT (lpS sl .ready none).ps [iv x, iv j] sl, hp, nx⟩ (.t p) = d := fun p d h1 h2 h3 hp nx =>
    ((rw_other (q := (.r (.r (.r (.r (.l .o)))))) ⟨_, hp, nx⟩ (iv j) h2).trans (rw_other (q := (.l (.r (.r (.r (.l .o)))))) ⟨sl, hp, nx⟩ (iv x) h1)).trans h3
  have z1 := ho _ _ (by simp) (by simp) s1
  have z6 := ho _ _ (by simp) (by simp) s6
  have z7 := ho _ _ (by simp) (by simp) s7
  have z8 := ho _ _ (by simp) (by simp) s8
  clear ho
  generalize zipT (lpS sl .ready none).ps [iv x, iv j] sl = z at hz z1 z6 z7 z8
  simp only [eq_self, ↓ew_n, ↓sw_q, ↓sw_m1, ↓sw_z, xw_some, mk1_eq, hp_put, nx_put, true_and]
  refine ⟨_, j1, rfl, ?_⟩
  rw [show evalE 1000000 (lpS sl .ready none).nt true (lpS sl .ready none).body = cb68_1 from tb68_1]
  unfold cb68_1
  have elp : ({ lpS sl .ready none with st := .busy } : DLoop) = lpS sl .busy none := rfl
  rw [elp]
  have hb1 : ∀ j, j ≠ L → (hp.set L (some (.loop (lpS sl .busy none)))).get j = hp.get j := fun j hj => by rw [Tr.get_set, if_neg (Ne.symm hj)]
  have hbL : (hp.set L (some (.loop (lpS sl .busy none)))).get L = some (.loop (lpS sl .busy none)) := by rw [Tr.get_set, if_pos rfl]
  have fin : ∀ (hp2 : Tr DObj) nx2 (s' : Nat × Nat) (lp' : DLoop), nx ≤ nx2 → hp2.get b7 = some (.row 3 [ib s'.1]) → hp2.get b8 = some (.row 3 [ib s'.2]) → (∀ j, j ≠ L → j ≠ b7 → j ≠ b8 → hp2.get j = hp.get j) →
      BJ sl L bb b6 b7 b8 db b i s' lp' (hp2.set L (some (.loop lp'))) nx2 ∧ ∀ j, j ≠ L → j ≠ b7 → j ≠ b8 → (hp2.set L (some (.loop lp'))).get j = hp.get j := by
    intro hp2 nx2 s' lp' p1 p2 p3 p4
    have g1 : ∀ j, j ≠ L → (hp2.set L (some (.loop lp'))).get j = hp2.get j := fun j hj => by rw [Tr.get_set, if_neg (Ne.symm hj)]
    refine ⟨⟨by rw [Tr.get_set, if_pos rfl], by rw [g1 _ (Ne.symm n1), p4 _ (Ne.symm n1) (Ne.symm m1) (Ne.symm q1)]; exact j2, j3.keep fun id hid => by rw [g1 _ (fun e => n5 (e ▸ hid)), p4 _ (fun e => n5 (e ▸ hid)) (fun e => m4 (e ▸ hid)) (fun e => q3 (e ▸ hid))], by rw [g1 _ (Ne.symm n2), p4 _ (Ne.symm n2) (Ne.symm m2) (Ne.symm q2)]; exact j4, by rw [g1 _ (Ne.symm n3)]; exact p2, by rw [g1 _ (Ne.symm n4)]; exact p3, ⟨by omega, by omega, by omega, by omega, by omega⟩, fun id hid => by have := l6 id hid; omega, ⟨n1, n2, n3, n4, n5⟩, ⟨m1, m2, m3, m4⟩, ⟨q1, q2, q3⟩, s1, s6, s7, s8⟩, fun j h1 h2 h3 => by rw [g1 j h1, p4 j h1 h2 h3]⟩
  generalize hp.set L (some (.loop (lpS sl .busy none))) = hp1 at hb1 hbL ⊢
  have g2 : hp1.get bb = some (.row 22 [db]) := by rw [hb1 _ (Ne.symm n1)]; exact j2
  have g3 : Src hp1 db b := j3.keep fun id hid => hb1 id fun e => n5 (e ▸ hid)
  have g6 : hp1.get b6 = some (.row 3 [ib i]) := by rw [hb1 _ (Ne.symm n2)]; exact j4
  have g7 : hp1.get b7 = some (.row 3 [ib s.1]) := by rw [hb1 _ (Ne.symm n3)]; exact j5
  have g8 : hp1.get b8 = some (.row 3 [ib s.2]) := by rw [hb1 _ (Ne.symm n4)]; exact j6
  have e1 : binD .gtr (.v (.int .i64 ((i - j : Nat) : Int))) (.v (.int .i64 1024)) = some (.v (.bool (decide (1024 < i - j)))) := b_gtrL 1024 rfl
  have e2 : binD .eql (.v (.int .i64 (s.1 : Int))) (.v (.int .i64 131)) = some (.v (.bool (decide (s.1 = 131)))) := b_eqlL 131 rfl
  by_cases h1 : 1024 < i - j
  · simp only [eq_self, ↓ew_s, ↓ew_n, ↓ew_e, ↓ew_c', ↓ew_b, ↓sw_q, ↓sw_m1, ↓sw_z, ↓sw_x, ↓sw_g', gw_tf, ↓then_n, ↓then_x, xw_some, cw_t, mk1_eq, x_ld, List.map_cons, List.map_nil, rw_put, rw_other, n_c, n_mk, sl_put, x_bin, x_pick, pick_b, ne_eq, reduceCtorEq, not_false_eq_true, if_true, decide_true, Pa.l.injEq, Pa.r.injEq, ↓z_call, hz, z1, z6, z7, iv, ib, ld_box g6, ld_box g7, b_subN hji (show i < _ by omega), e1, h1]
    rw [blk_y (by decide)]
    have pp := fin hp1 nx s (lpS sl .done (some (.exit 4))) (Nat.le_refl _) g7 g8 fun j h _ _ => hb1 j h
    exact ⟨_, hbL, hS (.inl h1) _ _ (Nat.le_refl _) pp.1 pp.2⟩
  · by_cases h2 : s.1 = 131
    · rw [decide_eq_true h2] at e2
      simp only [↓ew_s, ↓ew_n, ↓ew_e, ↓ew_c', ↓ew_b, ↓sw_q, ↓sw_m1, ↓sw_z, ↓sw_x, ↓sw_g', gw_ff, ↓then_n, ↓then_x, xw_some, cw_t, mk1_eq, x_ld, List.map_cons, List.map_nil, rw_put, rw_other, n_c, n_mk, sl_put, x_bin, x_pick, pick_b, ne_eq, reduceCtorEq, not_false_eq_true, Bool.false_eq_true, if_false, decide_false, Pa.l.injEq, Pa.r.injEq, ↓z_call, hz, z1, z6, z7, iv, ib, ld_box g6, ld_box g7, b_subN hji (show i < _ by omega), e1, e2, h1]
      rw [blk_y (by decide)]
      have pp := fin hp1 nx s (lpS sl .done (some (.exit 4))) (Nat.le_refl _) g7 g8 fun j h _ _ => hb1 j h
      exact ⟨_, hbL, hS (.inr h2) _ _ (Nat.le_refl _) pp.1 pp.2⟩
    · simp only [↓ew_s, ↓ew_n, ↓ew_e, ↓ew_c', ↓ew_b, ↓sw_q, ↓sw_m1, ↓sw_z, ↓sw_x, ↓sw_g', gw_ff, ↓then_n, ↓then_x, xw_some, cw_f, mk1_eq, x_ld, List.map_cons, List.map_nil, rw_put, rw_other, n_c, n_mk, sl_put, x_bin, x_pick, pick_b, ne_eq, reduceCtorEq, not_false_eq_true, Bool.false_eq_true, if_false, decide_false, Pa.l.injEq, Pa.r.injEq, ↓z_call, hz, z1, z6, z7, iv, ib, ld_box g6, ld_box g7, ld_box g2, b_subN hji (show i < _ by omega), e1, e2, h1, h2]
      refine kws (kn_same k _ _ _ db b j i 131 g3 l6 hji (by omega) (by omega) fun nx1 hnx1 => ?_)
      have hns : ¬ lzStop i s j := fun h => h.elim h1 h2
      by_cases h3 : s.1 < same b j i 131
      · simp only [eq_self, ↓ew_s, ↓ew_n, ↓ew_e, ↓ew_c', ↓sw_q, ↓sw_m1, ↓sw_z, ↓sw_x, ↓then_n, ↓blk_n, xw_some, cw_t, mk1_eq, x_ld, rw_put, rw_other, n_mk, sl_put, x_bin, ne_eq, reduceCtorEq, not_false_eq_true, and_true, true_and, and_self, decide_true, Pa.l.injEq, Pa.r.injEq, ↓sw_reg, ↓tw_q, ↓tw_chk, ↓tw_read, ↓z_main, ↓chk_nil, ↓chk_cons, ro_v, ro_pt, ↓refsL_cons, ↓refs_nil, look_nil, refs_v, List.append_nil, hz, z6, z7, iv, ib, b_gtrN, h3, ld_box g6, ld_box g7, b_subN hji (show i < _ by omega), okRef_old g6 (show b6 < nx1 by omega), okRef_old g7 (show b7 < nx1 by omega)]
        refine tws_main rfl ?_
        refine sw_sto (id := b7) (off := 0) (v := ib (same b j i 131)) (by simp only [rw_other, n_mk, ne_eq, reduceCtorEq, not_false_eq_true, Pa.l.injEq, z7]) g7 (by simp only [evt, rw_put, rw_other, n_mk, ne_eq, reduceCtorEq, not_false_eq_true, Pa.r.injEq]; exact live_v _ _) (ok_i _ _) (by simp) fun hp2 hg2 hk2 => ?_
        simp only [ne_eq] at hg2 hk2
        have f8 : hp2.get b8 = some (.row 3 [ib s.2]) := by rw [hk2 b8 (Ne.symm m3)]; exact g8
        simp only [put_n, eq_self, rw_put, rw_other, n_mk, sl_put, ne_eq, reduceCtorEq, not_false_eq_true, true_and, and_self, Pa.l.injEq, Pa.r.injEq, ↓tw_q, ↓tw_chk, ↓z_main, ↓chk_nil, ↓chk_cons, ro_v, ro_pt, z8, okRef_old f8 (show b8 < nx1 by omega)]
        refine ⟨Nat.le_refl _, tws_main rfl ?_⟩
        refine sw_sto (id := b8) (off := 0) (v := ib (i - j)) (by simp only [rw_other, n_mk, ne_eq, reduceCtorEq, not_false_eq_true, Pa.l.injEq, Pa.r.injEq, z8]) f8 (by simp only [evt, rw_put, n_mk]; exact live_v _ _) (ok_i _ _) (by simp) fun hp3 hg3 hk3 => ?_
        simp only [ne_eq] at hg3 hk3
        simp only [put_n, ↓blk_n, sl_put, ↓tw_z]
        have sv : ∀ c ∈ [DV.v (.int .i64 (i : Int))], sameDV 6 c c = true := fun c hc => by rw [List.mem_singleton] at hc; rw [hc]; exact same_i _ _ _
        have e3 : lzTry b i s j = (same b j i 131, i - j) := by unfold lzTry; rw [if_pos h3]
        have pp := fin hp3 (nx1 + 6) (same b j i 131, i - j) (lpS sl .ready none) (by omega) (by rw [hk3 b7 m3]; exact hg2) hg3 fun j h h7 h8 => by rw [hk3 j h8, hk2 j h7, hb1 j h]
        refine ⟨Nat.le_refl _, okl_look (fun id hid => ?_) (okl_nil _ _ _), _, (by rw [hk3 L n4, hk2 L n3]; exact hbL), hT hns _ _ (show nx ≤ nx1 + 6 by omega) ?_ pp.2⟩
        · simp only [DV.refs, List.mem_singleton] at hid
          subst hid
          refine ⟨by omega, fun p hp => ?_⟩
          simp only [List.mem_cons, List.mem_nil_iff, or_false] at hp
          rcases hp with rfl | rfl
          · exact .inl rfl
          · exact .inr (.inr (sameAt_row' g6 (hk2 _ (Ne.symm m2)) sv))
        · rw [e3]
          exact pp.1
      · have e3 : lzTry b i s j = s := by unfold lzTry; rw [if_neg h3]
        simp only [↓ew_s, ↓ew_n, ↓ew_e, ↓ew_c', ↓sw_q, ↓sw_m1, ↓sw_z, ↓sw_x, ↓then_n, ↓blk_n, xw_some, cw_f, mk1_eq, x_ld, rw_put, rw_other, n_mk, sl_put, x_bin, ne_eq, reduceCtorEq, not_false_eq_true, and_true, true_and, and_self, decide_false, Pa.l.injEq, Pa.r.injEq, ↓sw_reg, ↓tw_q, ↓tw_chk, ↓tw_read, ↓z_main, ↓chk_nil, ↓chk_cons, ro_v, ro_pt, ↓refsL_cons, ↓refs_nil, look_nil, refs_v, List.append_nil, hz, z6, z7, iv, ib, b_gtrN, h3, ld_box g6, ld_box g7]
        have pp := fin hp1 nx1 s (lpS sl .ready none) hnx1 g7 g8 fun j h _ _ => hb1 j h
        refine ⟨_, hbL, hT hns _ _ hnx1 ?_ pp.2⟩
        rw [e3]
        exact pp.1
end Go.DD

/- Chapter 03: the search for copies, from the last place down. Conditions: those that each theorem states. -/
namespace Go.DD
open Go Go.Proofs

theorem lzBack_take {b : List Nat} {i m : Nat} {l : List Nat} (h : m < l.length) (s : Nat × Nat) : lzBack b i (l.take (m + 1)).reverse s = if lzStop i s (l.getD m 0) then s else lzBack b i (l.take m).reverse (lzTry b i s (l.getD m 0)) := by
  have e : l.take (m + 1) = l.take m ++ [l.getD m 0] := by
    rw [List.take_add_one, List.getElem?_eq_getElem h, List.getD, List.getElem?_eq_getElem h]; rfl
  rw [e, List.reverse_append, List.reverse_singleton, List.singleton_append]
  rfl
theorem b_subM1 {a : Nat} (h : a < 9000000000000000000) : binD .sub (.v (.int .i64 (a : Int))) (.v (.int .i64 1)) = some (.v (.int .i64 ((a : Int) - 1))) := by
  rw [b_sub, wrap_in (by omega)]
theorem b_geqm (m : Nat) : binD .geq (.v (.int .i64 ((m : Int) + 1 - 1))) (.v (.int .i64 0)) = some (.v (.bool true)) := by
  rw [b_geq, show (m : Int) + 1 - 1 = (m : Int) by omega, decide_eq_true (by omega)]
theorem kn_bk (k : Nat) (hp : Tr DObj) (nx : Nat) (K : DV → Tr DObj → Nat → Prop) (sl : Tr DV) (L bb b6 b7 b8 bs : Nat) (db dv : DV) (b lst : List Nat) (i : Nat) (s0 : Nat × Nat) (hJ : BJ sl L bb b6 b7 b8 db b i s0 (lpS sl .ready none) hp nx)
    (hgs : hp.get bs = some (.row 33 [dv])) (how : OwnI hp dv lst) (hbs : bs ≠ L ∧ bs ≠ b7 ∧ bs ≠ b8) (hdv : ∀ id ∈ dv.refs, id ≠ L ∧ id ≠ b7 ∧ id ≠ b8) (hlst : ∀ j ∈ lst, j ≤ i) (hi : i < b.length) (hl : b.length < 400000) (hll : lst.length < 900000)
    (hK : ∀ hp' nx' lp', nx ≤ nx' → BJ sl L bb b6 b7 b8 db b i (lzBack b i lst.reverse s0) lp' hp' nx' → lp' = lpS sl .ready none ∨ lp' = lpS sl .done (some (.exit 4)) → (∀ j, j ≠ L → j ≠ b7 → j ≠ b8 → hp'.get j = hp.get j) → K (.tup []) hp' nx') :
    KW (kN (k + 3)) (.fn 93) [.yl L, .pt bs 0] hp nx K := by
  refine kn_0 (relW_n (by decide)) t93 (Nat.le_of_ble_eq_true rfl) fun es e1 e2 he => ?_
  have a0 : rawE es (.t .o) = .yl L := he 0 _ rfl
  have a1 : rawE es (.t (.l .o)) = .pt bs 0 := he 1 _ rfl
  unfold r93
  simp only [↓ew_s, ↓ew_n, ↓ew_b, ↓sw_q, ↓sw_m1, ↓sw_z, ↓sw_x, ↓then_n, xw_some, mk1_eq, x_len, x_ld, rw_put, n_c, hp_put, x_bin, ↓z_l, a1, e1, ld_box hgs, how.len, b_subM1 (show lst.length < _ by omega)]
  refine EW.l (I := fun n es1 => ∃ m s1, n = m ∧ m ≤ lst.length ∧ rawE es1 (.t .o) = .yl L ∧ rawE es1 (.t (.l .o)) = .pt bs 0 ∧ rawE es1 (.t (.l (.l .o))) = iv ((m : Int) - 1) ∧ nx ≤ es1.nx ∧ BJ sl L bb b6 b7 b8 db b i s1 (lpS sl .ready none) es1.hp es1.nx ∧ (∀ j, j ≠ L → j ≠ b7 → j ≠ b8 → es1.hp.get j = hp.get j) ∧ lzBack b i (lst.take m).reverse s1 = lzBack b i lst.reverse s0) ?_ lst.length 1000000 _ ?_ (by omega)
  · rintro m es1 ⟨_, s1, rfl, hm, c0, c1, c3, hnx, hJ1, hfr, hst⟩
    unfold l93_1
    cases m with
    | zero =>
      have e0 : binD .geq (.v (.int .i64 (((0 : Nat) : Int) - 1))) (.v (.int .i64 0)) = some (.v (.bool false)) := by rw [b_geq]; rfl
      simp only [eq_self, ↓ew_s, ↓ew_n, ↓ew_e, ↓ew_c', ↓sw_q, ↓sw_m1, ↓sw_z, ↓sw_x, ↓then_n, ↓then_x, ↓blk_x, xw_some, cw_f, mk1_eq, rw_put, n_c, hp_put, nx_put, x_bin, reduceCtorEq, true_and, true_or, c3, iv, e0]
      rw [List.take_zero, List.reverse_nil] at hst
      have hst' : s1 = lzBack b i lst.reverse s0 := hst
      exact hK _ _ _ hnx (hst' ▸ hJ1) (.inl rfl) hfr
    | succ m =>
      have hm1 : m < lst.length := by omega
      have d1 : es1.hp.get bs = some (.row 33 [dv]) := by rw [hfr bs hbs.1 hbs.2.1 hbs.2.2]; exact hgs
      have d2 : OwnI es1.hp dv lst := how.keep fun id hid => hfr id (hdv id hid).1 (hdv id hid).2.1 (hdv id hid).2.2
      have ecast : (((m + 1 : Nat) : Int) - 1) = (m : Int) := by omega
      have e0 : binD .geq (.v (.int .i64 (m : Int))) (.v (.int .i64 0)) = some (.v (.bool true)) := by rw [b_geq, decide_eq_true (by omega)]
      have hmem : lst.getD m 0 ∈ lst := by
        rw [List.getD, List.getElem?_eq_getElem hm1]; exact List.getElem_mem hm1
      rw [lzBack_take hm1] at hst
      rw [ecast] at c3
      simp only [↓ew_s, ↓ew_n, ↓ew_e, ↓ew_c', ↓ew_b, ↓sw_q, ↓sw_m1, ↓sw_z, ↓sw_x, ↓then_n, xw_some, cw_t, mk1_eq, x_ia, x_ld, rw_put, rw_other, n_c, hp_put, x_bin, ne_eq, reduceCtorEq, not_false_eq_true, Pa.l.injEq, ↓z_cv, c0, c1, c3, iv, e0, ld_box d1, d2.ia hm1, d2.ld hm1]
      refine sws_y (L := L) (by simp only [rw_put, rw_other, ne_eq, reduceCtorEq, not_false_eq_true, Pa.l.injEq]) hJ1.loop ?_
      simp only [List.map_cons, List.map_nil, rw_put, rw_other, hp_put, nx_put, sl_put, ne_eq, reduceCtorEq, not_false_eq_true, Pa.l.injEq, Pa.r.injEq]
      refine kn_sround k _ _ _ sl L bb b6 b7 b8 db b i (lst.getD m 0) m s1 hJ1 (hlst _ hmem) hi hl (fun hS hp2 nx2 hnx2 hJ2 hfr2 => ?_) (fun hS hp2 nx2 hnx2 hJ2 hfr2 => ?_)
      · rw [if_pos hS] at hst
        simp only [eq_self, ↓ew_e, ↓ew_c', ↓sw_q, ↓sw_z, ↓sw_x, ↓then_n, ↓then_r, ↓blk_r, xw_some, cw_t, rw_put, n_mk, sl_put, x_un, n_not, reduceCtorEq, true_and, or_true, Bool.not_false, n_not]
        exact hK _ _ _ (by omega) (hst ▸ hJ2) (.inr rfl) fun j h1 h2 h3 => by rw [hfr2 j h1 h2 h3, hfr j h1 h2 h3]
      · rw [if_neg hS] at hst
        simp only [eq_self, ↓ew_n, ↓ew_e, ↓ew_c', ↓sw_q, ↓sw_m1, ↓sw_z, ↓sw_x, ↓then_n, ↓blk_n, xw_some, cw_f, mk1_eq, rw_put, rw_other, n_c, n_mk, sl_put, x_bin, x_un, n_not, ne_eq, reduceCtorEq, not_false_eq_true, true_and, Bool.not_true, Pa.l.injEq, c0, c1, c3, iv, n_not, b_subM1 (show m < _ by omega)]
        exact ⟨m, by omega, m, _, rfl, by omega, rfl, by omega, hJ2, fun j h1 h2 h3 => by rw [hfr2 j h1 h2 h3, hfr j h1 h2 h3], hst⟩
  · simp only [rw_put, rw_other, hp_put, nx_put, ne_eq, reduceCtorEq, not_false_eq_true, Pa.l.injEq, a0, a1, e1, e2]
    exact ⟨lst.length, s0, rfl, Nat.le_refl _, trivial, trivial, rfl, Nat.le_refl _, hJ, fun _ _ _ _ => trivial, by rw [List.take_length]⟩
end Go.DD

/- Chapter 03: what the items of Lz hold on to. Conditions: those that each theorem states. -/
namespace Go.DD
open Go Go.Proofs

theorem lzTo_fact (b : List Nat) (i : Nat) : ∀ d, (lzTo b i d).1 ≤ 131 ∧ 1 ≤ (lzTo b i d).1 ∧ (lzTo b i d).2 ≤ d ∧ ((lzTo b i d).2 = 0 → (lzTo b i d).1 = 1)
  | 0 => ⟨show 1 ≤ 131 by decide, show 1 ≤ 1 by decide, show 0 ≤ 0 by decide, fun _ => rfl⟩
  | d + 1 => by
    have ih := lzTo_fact b i d
    rw [lzTo_succ]
    unfold lzStep
    have := same_le b (i - (d + 1)) i 131
    split
    · rename_i h
      exact ⟨this, by show 1 ≤ same b (i - (d + 1)) i 131; omega, Nat.le_refl _, fun h => by simp at h⟩
    · exact ⟨ih.1, ih.2.1, by omega, ih.2.2.2⟩
theorem lz_fact (b : List Nat) (i : Nat) : (lz b i).1 ≤ 131 ∧ 1 ≤ (lz b i).1 ∧ (lz b i).2 ≤ 1024 ∧ ((lz b i).2 = 0 → (lz b i).1 = 1) := by
  have h : (lz b i).1 ≤ 131 ∧ 1 ≤ (lz b i).1 ∧ (lz b i).2 ≤ min 1024 i ∧ ((lz b i).2 = 0 → (lz b i).1 = 1) := lzTo_fact b i (min 1024 i)
  exact ⟨h.1, h.2.1, by omega, h.2.2.2⟩
theorem EW.seq {a c : CE} {call : CallT} {es : ES} {Q : Exit → ES → Prop} (R : ES → Prop) (h1 : EW a call es (thenE R Q)) (h2 : ∀ es1, R es1 → EW c call es1 Q) : EW (cS a c) call es Q :=
  ew_s.2 (h1.mono fun e es1 h => by cases e <;> first | exact h2 es1 h | exact h)

/-- What stays as it is while the items of Lz are made. -/
structure C68 where
  sl : Tr DV
  L : Nat
  bo : Nat
  bh : Nat
  bb : Nat
  bn : Nat
  bm : Nat
  bk : Nat
  im : Nat
  db : DV
  d0 : DV
  b : List Nat
  hp0 : Tr DObj
  nx0 : Nat
def C68.Pr (c : C68) (me : List ME) (j : Nat) : Prop := PrivL c.bn c.im me j
def C68.Mi (c : C68) (d : DV) (j : Nat) : Prop := Mine c.L c.bo c.bh d j
theorem PJ.keep {sl : Tr DV} {L bo bh : Nat} {s : PS} {d : DV} {hp hp' : Tr DObj} {nx nx' : Nat} (h : PJ sl L bo bh s d hp nx) (hn : nx ≤ nx') (hk : ∀ j, Mine L bo bh d j → hp'.get j = hp.get j) : PJ sl L bo bh s d hp' nx' := by
  obtain ⟨j1, j2, j3, j4, ⟨l1, l2, l3, l4⟩, hne, s3, s4, jok⟩ := h
  exact ⟨by rw [hk _ (.inl rfl)]; exact j1, by rw [hk _ (.inr (.inl rfl))]; exact j2, by rw [hk _ (.inr (.inr (.inl rfl)))]; exact j3, j4.keep fun id hid => hk id (.inr (.inr (.inr hid))), ⟨by omega, by omega, by omega, fun id hid => by have := l4 id hid; omega⟩, hne, s3, s4, jok⟩
theorem PJ.mlt {sl : Tr DV} {L bo bh : Nat} {s : PS} {d : DV} {hp : Tr DObj} {nx : Nat} (h : PJ sl L bo bh s d hp nx) {j : Nat} (hj : Mine L bo bh d j) : j < nx := by
  obtain ⟨l1, l2, l3, l4⟩ := h.lt
  rcases hj with h | h | h | h
  · omega
  · omega
  · omega
  · exact l4 j h
theorem LI.plt {bb bn bm bk im : Nat} {db : DV} {b : List Nat} {next : Nat} {es : List ME} {hp : Tr DObj} {nx : Nat} (h : LI bb bn bm bk im db b next es hp nx) {j : Nat} (hj : PrivL bn im es j) : j < nx := by
  obtain ⟨l1, l2, l3, l4, l5⟩ := h.lt
  rcases hj with h1 | h1 | ⟨key, h1⟩
  · omega
  · omega
  · exact h.ltv key j h1
/-- One round's state. -/
structure ZZ (c : C68) (i next : Nat) (me : List ME) (s : PS) (d : DV) (b6 : Nat) (hp : Tr DObj) (nx : Nat) : Prop where
  li : LI c.bb c.bn c.bm c.bk c.im c.db c.b next me hp nx
  pj : PJ c.sl c.L c.bo c.bh s d hp nx
  g6 : hp.get b6 = some (.row 3 [ib i])
  l6 : b6 < nx ∧ c.nx0 ≤ b6
  sp : ∀ j, c.Pr me j → ¬ c.Mi d j
  sm : ∀ j, c.Mi d j → j ≠ c.bb ∧ j ≠ c.bm ∧ j ≠ c.bk ∧ j ∉ c.db.refs
  s6 : ¬ c.Pr me b6 ∧ ¬ c.Mi d b6 ∧ b6 ≠ c.bb ∧ b6 ∉ c.db.refs ∧ b6 ≠ c.bm ∧ b6 ≠ c.bk
  fr : c.nx0 ≤ nx ∧ (∀ j, j < c.nx0 → ¬ c.Mi c.d0 j → ¬ c.Pr [] j → hp.get j = c.hp0.get j) ∧ (∀ j, c.Mi d j → c.Mi c.d0 j ∨ c.nx0 ≤ j) ∧ (∀ j, c.Pr me j → c.Pr [] j ∨ c.nx0 ≤ j)
theorem ZZ.step {c : C68} {i next : Nat} {me : List ME} {s : PS} {d : DV} {b6 : Nat} {hp : Tr DObj} {nx : Nat} (h : ZZ c i next me s d b6 hp nx) {i' next' : Nat} {me' : List ME} {s' : PS} {d' : DV} {hp' : Tr DObj} {nx' : Nat} (hn : nx ≤ nx')
    (li : LI c.bb c.bn c.bm c.bk c.im c.db c.b next' me' hp' nx') (pj : PJ c.sl c.L c.bo c.bh s' d' hp' nx') (g6 : hp'.get b6 = some (.row 3 [ib i']))
    (hf : ∀ j, j < c.nx0 → ¬ c.Mi d j → ¬ c.Pr me j → hp'.get j = hp.get j) (hm : ∀ j, c.Mi d' j → c.Mi d j ∨ nx ≤ j) (hp1 : ∀ j, c.Pr me' j → c.Pr me j ∨ nx ≤ j) (hx : ∀ j, nx ≤ j → c.Pr me' j → ¬ c.Mi d' j) : ZZ c i' next' me' s' d' b6 hp' nx' := by
  obtain ⟨a1, a2, a3, ⟨a4, a5⟩, a6, a7, ⟨a8, a9, a10, a11, a16, a17⟩, ⟨a12, a13, a14, a15⟩⟩ := h
  obtain ⟨l1, l2, l3, l4, l5⟩ := a1.lt
  refine ⟨li, pj, g6, ⟨by omega, a5⟩, fun j hj hj2 => ?_, fun j hj => ?_, ⟨fun hj => ?_, fun hj => ?_, a10, a11, a16, a17⟩, ⟨by omega, fun j hj h1 h2 => ?_, fun j hj => ?_, fun j hj => ?_⟩⟩
  · rcases hp1 j hj with h1 | h1
    · rcases hm j hj2 with h2 | h2
      · exact a6 j h1 h2
      · have := a1.plt h1; omega
    · exact hx j h1 hj hj2
  · rcases hm j hj with h2 | h2
    · exact a7 j h2
    · exact ⟨by omega, by omega, by omega, fun h => by have := a1.ltd j h; omega⟩
  · rcases hp1 b6 hj with h1 | h1
    · exact a8 h1
    · omega
  · rcases hm b6 hj with h1 | h1
    · exact a9 h1
    · omega
  · rw [hf j hj (fun h => (a14 j h).elim h1 (by omega)) (fun h => (a15 j h).elim h2 (by omega))]
    exact a13 j hj h1 h2
  · rcases hm j hj with h2 | h2
    · exact a14 j h2
    · exact .inr (by omega)
  · rcases hp1 j hj with h2 | h2
    · exact a15 j h2
    · exact .inr (by omega)
/-- New objects beside it. -/
theorem ZZ.new {c : C68} {i next : Nat} {me : List ME} {s : PS} {d : DV} {b6 : Nat} {hp : Tr DObj} {nx : Nat} (h : ZZ c i next me s d b6 hp nx) {hp' : Tr DObj} {nx' : Nat} (hn : nx ≤ nx') (hf : ∀ j, j < nx → hp'.get j = hp.get j) : ZZ c i next me s d b6 hp' nx' := by
  obtain ⟨l1, l2, l3, l4, l5⟩ := h.li.lt
  refine h.step hn (h.li.keep hn fun j hj => hf j ?_) (h.pj.keep hn fun j hj => hf j (h.pj.mlt hj)) (by rw [hf _ h.l6.1]; exact h.g6) (fun j hj _ _ => hf j (by have := h.fr.1; omega)) (fun j hj => .inl hj) (fun j hj => .inl hj) fun j hj hp _ => by have := h.li.plt hp; omega
  rcases hj with h1 | h1 | h1 | h1 | h1
  · omega
  · exact h.li.ltd j h1
  · omega
  · omega
  · exact h.li.plt h1
/-- An object that is away from it. -/
structure Aw (c : C68) (me : List ME) (d : DV) (b6 x : Nat) : Prop where
  l : c.nx0 ≤ x
  pr : ¬ c.Pr me x
  mi : ¬ c.Mi d x
  ob : x ≠ c.bb ∧ x ≠ c.bm ∧ x ≠ c.bk ∧ x ∉ c.db.refs ∧ x ≠ b6
theorem ZZ.aw {c : C68} {i next : Nat} {me : List ME} {s : PS} {d : DV} {b6 : Nat} {hp : Tr DObj} {nx : Nat} (h : ZZ c i next me s d b6 hp nx) {x : Nat} (hx : nx ≤ x) : Aw c me d b6 x := by
  obtain ⟨l1, l2, l3, l4, l5⟩ := h.li.lt
  have l6 := h.l6
  have l7 := h.fr.1
  exact ⟨by omega, fun hj => by have := h.li.plt hj; omega, fun hj => by have := h.pj.mlt hj; omega, by omega, by omega, by omega, fun hj => by have := h.li.ltd _ hj; omega, by omega⟩
theorem ZZ.away {c : C68} {i next : Nat} {me : List ME} {s : PS} {d : DV} {b6 b7 b8 : Nat} {hp : Tr DObj} {nx : Nat} (h : ZZ c i next me s d b6 hp nx) {hp' : Tr DObj} {nx' : Nat} (hn : nx ≤ nx') (h7 : Aw c me d b6 b7) (h8 : Aw c me d b6 b8) (hf : ∀ j, j < nx → j ≠ b7 → j ≠ b8 → hp'.get j = hp.get j) : ZZ c i next me s d b6 hp' nx' := by
  obtain ⟨l1, l2, l3, l4, l5⟩ := h.li.lt
  obtain ⟨p1, p2, p3, p4, p5, p6, p7, p8⟩ := h7
  obtain ⟨q1, q2, q3, q4, q5, q6, q7, q8⟩ := h8
  refine h.step hn (h.li.keep hn fun j hj => hf j ?_ ?_ ?_) (h.pj.keep hn fun j hj => hf j (h.pj.mlt hj) (fun e => p3 (e ▸ hj)) (fun e => q3 (e ▸ hj))) (by rw [hf _ h.l6.1 (Ne.symm p8) (Ne.symm q8)]; exact h.g6) (fun j hj _ _ => hf j (by have := h.fr.1; omega) (by omega) (by omega)) (fun j hj => .inl hj) (fun j hj => .inl hj) fun j hj hp _ => by have := h.li.plt hp; omega
  · rcases hj with h1 | h1 | h1 | h1 | h1
    · omega
    · exact h.li.ltd j h1
    · omega
    · omega
    · exact h.li.plt h1
  · rcases hj with h1 | h1 | h1 | h1 | h1
    · exact fun e => p4 (e.symm.trans h1)
    · exact fun e => p7 (e ▸ h1)
    · exact fun e => p5 (e.symm.trans h1)
    · exact fun e => p6 (e.symm.trans h1)
    · exact fun e => p2 (e ▸ h1)
  · rcases hj with h1 | h1 | h1 | h1 | h1
    · exact fun e => q4 (e.symm.trans h1)
    · exact fun e => q7 (e ▸ h1)
    · exact fun e => q5 (e.symm.trans h1)
    · exact fun e => q6 (e.symm.trans h1)
    · exact fun e => q2 (e ▸ h1)
/-- Another box for the place. -/
theorem ZZ.box {c : C68} {i next : Nat} {me : List ME} {s : PS} {d : DV} {b6 b6' : Nat} {hp : Tr DObj} {nx : Nat} (h : ZZ c i next me s d b6 hp nx) {hp' : Tr DObj} {nx' i' : Nat} (hb : nx ≤ b6' ∧ b6' < nx') (hf : ∀ j, j < nx → hp'.get j = hp.get j) (g6 : hp'.get b6' = some (.row 3 [ib i'])) : ZZ c i' next me s d b6' hp' nx' := by
  obtain ⟨a1, a2, a3, a4, a6, a7, a8, a9⟩ := h.new (hp' := hp') (nx' := nx') (by omega) hf
  obtain ⟨l1, l2, l3, l4, l5⟩ := h.li.lt
  exact ⟨a1, a2, g6, ⟨hb.2, by have := h.fr.1; omega⟩, a6, a7, ⟨fun hj => by have := h.li.plt hj; omega, fun hj => by have := h.pj.mlt hj; omega, by omega, fun hj => by have := h.li.ltd _ hj; omega, by omega, by omega⟩, a9⟩
/-- The slots. -/
structure S68 (c : C68) (b6 : Nat) (es : ES) : Prop where
  r0 : rawE es (.t .o) = .yl c.L
  r1 : rawE es (.t (.l .o)) = .pt c.bb 0
  r2 : rawE es (.t (.r .o)) = .pt c.bn 0
  r3 : rawE es (.t (.l (.l .o))) = .pt c.bm 0
  r4 : rawE es (.t (.r (.l .o))) = .pt c.bk 0
  r6 : rawE es (.t (.r (.r .o))) = .pt b6 0
theorem kn_backward (k : Nat) (hp : Tr DObj) (nx : Nat) (K : DV → Tr DObj → Nat → Prop) (dv : DV) (l : List Nat) (hs : OwnI hp dv l)
    (hK : ∀ hp', hp'.get nx = some (.row 33 [dv]) → (∀ j, j ≠ nx → hp'.get j = hp.get j) → K (.fn (.func 93) [.tup [], .pt nx 0]) hp' (nx + 1)) : KW (kN (k + 1)) (.fn 69) [dv] hp nx K := by
  refine kn_1 (relW_n (by decide)) t69 (Nat.le_of_ble_eq_true rfl) fun es e1 e2 he => ?_
  have a0 : rawE es (.t .o) = dv := he 0 _ rfl
  have hs1 : OwnI es.hp dv l := e1 ▸ hs
  unfold r69
  simp only [↓ew_s, ↓ew_n, ↓sw_q, ↓z_bx]
  refine sws_bx (v := dv) (by rw [evt, a0]; exact hs1.live) hs1.ok fun hp1 hg1 hk1 => ?_
  simp only [ne_eq, e1, e2] at hg1 hk1
  have hlf : liveE hp1 (.fn (.func 93) [.tup [], .pt nx 0]) = .fn (.func 93) [.tup [], .pt nx 0] := live_fn1 hg1
  simp only [eq_self, ↓ew_s, ↓ew_n, ↓ew_e, ↓sw_q, ↓sw_m1, ↓sw_z, ↓then_n, xw_some, mk1_eq, List.map_cons, List.map_nil, rw_put, rw_other, n_c, n_mk, sl_put, ne_eq, reduceCtorEq, not_false_eq_true, true_and, or_true, ↓sw_mkf, n_ev, p1, p2, e2, live_pt hg1, hlf]
  exact hK hp1 hg1 hk1
end Go.DD

/- Chapter 03: the items of Lz. Conditions: those that each theorem states. -/
namespace Go.DD
open Go Go.Proofs

/-- Two boxes: how many bytes, how far. -/
structure BX (c : C68) (me : List ME) (d : DV) (b6 b7 b8 : Nat) (f : Nat × Nat) (es : ES) : Prop where
  r7 : rawE es (.t (.l (.l (.l .o)))) = .pt b7 0
  r8 : rawE es (.t (.r (.l (.l .o)))) = .pt b8 0
  g7 : es.hp.get b7 = some (.row 3 [ib f.1])
  g8 : es.hp.get b8 = some (.row 3 [ib f.2])
  l7 : b7 < es.nx
  l8 : b8 < es.nx
  ne : b7 ≠ b8
  a7 : Aw c me d b6 b7
  a8 : Aw c me d b6 b8
theorem BX.new {c : C68} {me : List ME} {d : DV} {b6 b7 b8 : Nat} {f : Nat × Nat} {es es' : ES} (h : BX c me d b6 b7 b8 f es) (e7 : rawE es' (.t (.l (.l (.l .o)))) = rawE es (.t (.l (.l (.l .o))))) (e8 : rawE es' (.t (.r (.l (.l .o)))) = rawE es (.t (.r (.l (.l .o))))) (hn : es.nx ≤ es'.nx) (hf : ∀ j, j < es.nx → es'.hp.get j = es.hp.get j) : BX c me d b6 b7 b8 f es' :=
  ⟨e7.trans h.r7, e8.trans h.r8, by rw [hf _ h.l7]; exact h.g7, by rw [hf _ h.l8]; exact h.g8, Nat.lt_of_lt_of_le h.l7 hn, Nat.lt_of_lt_of_le h.l8 hn, h.ne, h.a7, h.a8⟩
theorem S68.new {c : C68} {b6 : Nat} {es es' : ES} (h : S68 c b6 es) (e : rawE es' (.t .o) = rawE es (.t .o) ∧ rawE es' (.t (.l .o)) = rawE es (.t (.l .o)) ∧ rawE es' (.t (.r .o)) = rawE es (.t (.r .o)) ∧ rawE es' (.t (.l (.l .o))) = rawE es (.t (.l (.l .o))) ∧ rawE es' (.t (.r (.l .o))) = rawE es (.t (.r (.l .o))) ∧ rawE es' (.t (.r (.r .o))) = rawE es (.t (.r (.r .o)))) : S68 c b6 es' :=
  ⟨e.1.trans h.r0, e.2.1.trans h.r1, e.2.2.1.trans h.r2, e.2.2.2.1.trans h.r3, e.2.2.2.2.1.trans h.r4, e.2.2.2.2.2.trans h.r6⟩
theorem itemL_n (b : List Nat) (i : Nat) : (itemL b i).1 = (lz b i).1 := by
  have h := (lz_fact b i).2.2.2
  unfold itemL
  split
  · rfl
  · rw [h (by omega)]
theorem b_sub4 {a : Nat} (h : a < 4000000000000000000) : binD .sub (.v (.int .i64 ((a + 128 : Nat) : Int))) (.v (.int .i64 4)) = some (.v (.int .i64 ((a + 124 : Nat) : Int))) := by
  have := b_subN (a := a + 128) (b := 4) (by omega) (by omega)
  rwa [show a + 128 - 4 = a + 124 by omega] at this
theorem kn_search (k : Nat) (c : C68) (i next : Nat) (me : List ME) (s : PS) (d : DV) (b6 b7 b8 bs : Nat) (dv : DV) (lst : List Nat) (es : ES) (Q : Exit → ES → Prop) (hz : ZZ c i next me s d b6 es.hp es.nx) (hs : S68 c b6 es) (hx : BX c me d b6 b7 b8 (1, 0) es) (hi : i < c.b.length) (hl : c.b.length < 400000)
    (hg : rawE es (.t (.r (.l (.r (.r (.l .o)))))) = .fn (.func 93) [.tup [], .pt bs 0]) (hbs : es.hp.get bs = some (.row 33 [dv])) (how : OwnI es.hp dv lst) (hbl : bs < es.nx ∧ bs ≠ b7 ∧ bs ≠ b8) (hdv : ∀ id ∈ dv.refs, id < es.nx ∧ id ≠ b7 ∧ id ≠ b8) (hlst : ∀ j ∈ lst, j ≤ i) (hll : lst.length < 900000)
    (hQ : ∀ es' e, e = .normal ∨ e = .exit 4 → ZZ c i next me s d b6 es'.hp es'.nx → S68 c b6 es' → BX c me d b6 b7 b8 (lzBack c.b i lst.reverse (1, 0)) es' → Q e es') :
    EW (cR 91 false (.t (.r (.l (.r (.r (.l .o)))))) [45, 46] da68_1 db68_1) (kN (k + 4)) es Q := by
  refine ew_rng (f := 93) (cs := [.pt bs 0]) (by rw [evt, hg]; exact live_fn1 hbs) ?_
  obtain ⟨r0, r1, r2, r3, r4, r6⟩ := id hs
  obtain ⟨x7, x8, y7, y8, z7, z8, zn, w7, w8⟩ := id hx
  obtain ⟨l1, l2, l3, l4, l5⟩ := hz.li.lt
  have hg1 : ∀ j, j ≠ es.nx → (es.hp.set es.nx (some (.loop (lpS es.sl .ready none)))).get j = es.hp.get j := fun j hj => by rw [Tr.get_set, if_neg (Ne.symm hj)]
  have hL : (es.hp.set es.nx (some (.loop (lpS es.sl .ready none)))).get es.nx = some (.loop (lpS es.sl .ready none)) := by rw [Tr.get_set, if_pos rfl]
  have hgo : ∀ j, j < es.nx → (es.hp.set es.nx (some (.loop (lpS es.sl .ready none)))).get j = es.hp.get j := fun j hj => hg1 j (by omega)
  show KW (kN (k + 4)) (.fn _) (.yl es.nx :: [.pt bs 0]) (es.hp.set es.nx (some (.loop (lpS es.sl .ready none)))) (es.nx + 1) _
  generalize es.hp.set es.nx (some (.loop (lpS es.sl .ready none))) = hp1 at hg1 hL hgo ⊢
  refine kn_bk (k + 1) _ _ _ es.sl es.nx c.bb b6 b7 b8 bs c.db dv c.b lst i (1, 0) ⟨hL, by rw [hgo _ l1]; exact hz.li.gb, hz.li.src.keep fun id hid => hgo id (hz.li.ltd id hid), by rw [hgo _ hz.l6.1]; exact hz.g6, by rw [hgo _ z7]; exact y7, by rw [hgo _ z8]; exact y8, ⟨by omega, by omega, by have := hz.l6.1; omega, by omega, by omega⟩, fun id hid => by have := hz.li.ltd id hid; omega, ⟨by omega, by have := hz.l6.1; omega, by omega, by omega, fun h => by have := hz.li.ltd _ h; omega⟩, ⟨w7.ob.1, w7.ob.2.2.2.2, zn, w7.ob.2.2.2.1⟩, ⟨w8.ob.1, w8.ob.2.2.2.2, w8.ob.2.2.2.1⟩, r1, r6, x7, x8⟩
    (by rw [hgo _ hbl.1]; exact hbs) (how.keep fun id hid => hgo id (hdv id hid).1) ⟨by omega, hbl.2.1, hbl.2.2⟩ (fun id hid => ⟨by have := (hdv id hid).1; omega, (hdv id hid).2.1, (hdv id hid).2.2⟩) hlst hi hl hll fun hp2 nx2 lp2 hnx2 hJ2 hlp2 hfr2 => ?_
  have hg2 : ∀ j, j ≠ es.nx → (hp2.set es.nx none).get j = hp2.get j := fun j hj => by rw [Tr.get_set, if_neg (Ne.symm hj)]
  have hzz : ZZ c i next me s d b6 (hp2.set es.nx none) nx2 := hz.away (by omega) w7 w8 fun j hj h7 h8 => by rw [hg2 j (by omega), hfr2 j (by omega) h7 h8, hgo j hj]
  have hbx : BX c me d b6 b7 b8 (lzBack c.b i lst.reverse (1, 0)) ⟨es.sl, hp2.set es.nx none, nx2⟩ := ⟨x7, x8, by show (hp2.set es.nx none).get b7 = _; rw [hg2 _ (by omega)]; exact hJ2.g7, by show (hp2.set es.nx none).get b8 = _; rw [hg2 _ (by omega)]; exact hJ2.g8, by show b7 < nx2; omega, by show b8 < nx2; omega, zn, w7, w8⟩
  have hss : S68 c b6 ⟨es.sl, hp2.set es.nx none, nx2⟩ := ⟨r0, r1, r2, r3, r4, r6⟩
  refine ⟨lp2, hJ2.loop, ?_, ?_⟩
  · rcases hlp2 with rfl | rfl <;> simp [lpS]
  · rcases hlp2 with rfl | rfl
    · exact .inl ⟨rfl, hQ _ _ (.inl rfl) hzz hss hbx⟩
    · exact .inr (.inr ⟨4, rfl, hQ _ _ (.inr rfl) hzz hss hbx⟩)
theorem kn_item (k : Nat) (c : C68) (i next : Nat) (me : List ME) (s : PS) (d : DV) (b6 : Nat) (es : ES) (Q : Exit → ES → Prop) (hb : ∀ x ∈ c.b, x < 256) (hl : c.b.length < 400000) (hz : ZZ c i next me s d b6 es.hp es.nx) (hs : S68 c b6 es) (hni : next ≤ i) (hlen : s.out.length ≤ 1900000000)
    (hE : c.b.length ≤ i → ∀ es', ZZ c i next me s d b6 es'.hp es'.nx → Q (.exit 0) es')
    (hN : i < c.b.length → ∀ es' me' next' d' b6', ZZ c (i + (itemL c.b i).1) next' me' (s.step (itemL c.b i).2) d' b6' es'.hp es'.nx → S68 c b6' es' → next' ≤ i → Q .normal es') :
    EW l68_2 (kN (k + 4)) es Q := by
  obtain ⟨r0, r1, r2, r3, r4, r6⟩ := id hs
  have g6 := hz.g6
  have gb := hz.li.gb
  have gs := hz.li.src
  unfold l68_2
  by_cases h1 : i < c.b.length
  · refine EW.seq (fun es' => ZZ c i next me s d b6 es'.hp es'.nx ∧ S68 c b6 es') ?_ fun es2 ⟨hz2, hs2⟩ => ?_
    · simp only [↓ew_s, ↓ew_n, ↓ew_e, ↓ew_c', ↓sw_q, ↓sw_z, ↓sw_x, ↓then_n, ↓then_x, xw_some, cw_t, x_len, x_ld, rw_put, rw_other, hp_put, nx_put, x_bin, ne_eq, reduceCtorEq, not_false_eq_true, decide_true, Pa.l.injEq, r1, r6, ib, ld_box g6, ld_box gb, gs.len, b_lssN, h1]
      refine ⟨hz, ⟨?_, ?_, ?_, ?_, ?_, ?_⟩⟩ <;> simp only [rw_other, ne_eq, reduceCtorEq, not_false_eq_true, Pa.l.injEq, Pa.r.injEq] <;> assumption
    · refine EW.seq (fun es' => ∃ me' next' d', next' ≤ i ∧ ZZ c (i + (itemL c.b i).1) next' me' (s.step (itemL c.b i).2) d' b6 es'.hp es'.nx ∧ S68 c b6 es') ?_ fun es3 ⟨me', next', d', hn', hz3, hs3⟩ => ?_
      · rw [ew_b]
        obtain ⟨t0, t1, t2, t3, t4, t6⟩ := id hs2
        refine EW.seq (fun es' => ZZ c i next me s d b6 es'.hp es'.nx ∧ S68 c b6 es' ∧ ∃ b7 b8, BX c me d b6 b7 b8 (1, 0) es') ?_ fun es3 ⟨hz3, hs3, b7, b8, hx3⟩ => ?_
        · simp only [↓ew_n, ↓sw_q, ↓z_al]
          refine sws_al fun hp1 hg1 hk1 => ?_
          simp only [ne_eq] at hg1 hk1
          simp only [↓sw_q, sl_put, ↓z_al]
          refine sws_al fun hp2 hg2 hk2 => ?_
          simp only [ne_eq] at hg2 hk2
          simp only [↓sw_q, sl_put, ↓z_st]
          refine sw_sto (id := es2.nx) (off := 0) (v := ib 1) (by simp only [rw_put, rw_other, n_mk, ne_eq, reduceCtorEq, not_false_eq_true]) (by rw [hk2 _ (by omega)]; exact hg1) rfl (ok_i _ _) (by simp) fun hp3 hg3 hk3 => ?_
          simp only [ne_eq] at hg3 hk3
          simp only [put_n, ↓sw_q, ↓z_st]
          refine sw_sto (id := es2.nx + 1) (off := 0) (v := ib 0) (by simp only [rw_put, n_mk]) (by rw [hk3 _ (by omega)]; exact hg2) rfl (ok_i _ _) (by simp) fun hp4 hg4 hk4 => ?_
          simp only [ne_eq] at hg4 hk4
          simp only [put_n, ↓sw_z, ↓then_n]
          refine ⟨hz2.new (by omega) fun j hj => by rw [hk4 j (by omega), hk3 j (by omega), hk2 j (by omega), hk1 j (by omega)], ⟨?_, ?_, ?_, ?_, ?_, ?_⟩, es2.nx, es2.nx + 1, ?_, ?_, ?_, ?_, ?_, ?_, by omega, hz2.aw (by omega), hz2.aw (by omega)⟩
          · simp only [rw_other, n_mk, ne_eq, reduceCtorEq, not_false_eq_true]; exact t0
          · simp only [rw_other, n_mk, ne_eq, reduceCtorEq, not_false_eq_true, Pa.l.injEq]; exact t1
          · simp only [rw_other, n_mk, ne_eq, reduceCtorEq, not_false_eq_true, Pa.r.injEq]; exact t2
          · simp only [rw_other, n_mk, ne_eq, reduceCtorEq, not_false_eq_true, Pa.l.injEq]; exact t3
          · simp only [rw_other, n_mk, ne_eq, reduceCtorEq, not_false_eq_true, Pa.l.injEq, Pa.r.injEq]; exact t4
          · simp only [rw_other, n_mk, ne_eq, reduceCtorEq, not_false_eq_true, Pa.r.injEq]; exact t6
          · simp only [rw_put, rw_other, n_mk, ne_eq, reduceCtorEq, not_false_eq_true]
          · simp only [rw_put, n_mk]
          · show hp4.get es2.nx = _
            rw [hk4 _ (by omega)]; exact hg3
          · exact hg4
          · show es2.nx < es2.nx + 1 + 1; omega
          · show es2.nx + 1 < es2.nx + 1 + 1; omega
        · obtain ⟨v0, v1, v2, v3, v4, v6⟩ := id hs3
          obtain ⟨x7, x8, y7, y8, z7, z8, zn, w7, w8⟩ := id hx3
          refine EW.seq (fun es' => ∃ me' next', next' ≤ i ∧ ZZ c i next' me' s d b6 es'.hp es'.nx ∧ S68 c b6 es' ∧ ∃ b7 b8, BX c me' d b6 b7 b8 (lz c.b i) es') ?_ fun es4 ⟨me4, next4, hn4, hz4, hs4, b7', b8', hx4⟩ => ?_
          · have g6' := hz3.g6
            have gb' := hz3.li.gb
            have gs' := hz3.li.src
            have e4 : binD .add (.v (.int .i64 (i : Int))) (.v (.int .i64 4)) = some (.v (.int .i64 ((i + 4 : Nat) : Int))) := b_addL 4 (by omega) (by omega)
            by_cases h4 : i + 4 ≤ c.b.length
            · simp only [↓ew_s, ↓ew_n, ↓ew_e, ↓ew_c', ↓ew_b, ↓sw_q, ↓sw_z, ↓sw_x, ↓then_n, xw_some, cw_t, x_len, x_ld, rw_put, rw_other, n_c, hp_put, nx_put, x_bin, ne_eq, reduceCtorEq, not_false_eq_true, decide_true, Pa.l.injEq, Pa.r.injEq, ↓z_l, v1, v6, ib, ld_box g6', ld_box gb', gs'.len, e4, b_leqN, h4]
              refine kn_loopA (k + 3) _ _ c.bb c.bn c.bm c.bk c.im b6 c.db c.b next i me hb hl (by simpa only [put_n, rw_put, rw_other, n_c, n_mk, hp_put, nx_put, sl_put, lay_raw, lay_hp, lay_nx, ne_eq, reduceCtorEq, not_false_eq_true, Pa.l.injEq, Pa.r.injEq] using hz3.li) (by simp only [rw_other, ne_eq, reduceCtorEq, not_false_eq_true, Pa.r.injEq]; exact v2) (by simp only [rw_other, ne_eq, reduceCtorEq, not_false_eq_true, Pa.l.injEq]; exact v3) (by simp only [rw_other, ne_eq, reduceCtorEq, not_false_eq_true, Pa.l.injEq, Pa.r.injEq]; exact v4) (by simp only [rw_other, ne_eq, reduceCtorEq, not_false_eq_true, Pa.r.injEq]; exact v6) (by simp only [hp_put]; exact g6') (by simp only [nx_put]; exact hz3.l6.1) hz3.s6.1 hni h4 fun es5 me5 hI5 hnx5 u0 u1 u2 u3 u4 u6 u7 u8 hfr5 hpr5 => ?_
              simp only [rw_other, hp_put, nx_put, ne_eq, reduceCtorEq, not_false_eq_true, Pa.l.injEq, Pa.r.injEq, v0, v1, v2, v3, v4, v6, x7, x8] at hnx5 u0 u1 u2 u3 u4 u6 u7 u8 hfr5 hpr5
              have hz5 : ZZ c i i me5 s d b6 es5.hp es5.nx := hz3.step hnx5 hI5 (hz3.pj.keep hnx5 fun j hj => hfr5 j (hz3.pj.mlt hj) (fun hp => hz3.sp j hp hj)) (by rw [hfr5 _ hz3.l6.1 hz3.s6.1]; exact hz3.g6) (fun j hj _ hp => hfr5 j (by have := hz3.fr.1; omega) hp) (fun j hj => .inl hj) hpr5 (fun j hj _ hm => by have := hz3.pj.mlt hm; omega)
              have y7' : es5.hp.get b7 = some (.row 3 [ib 1]) := by rw [hfr5 b7 z7 w7.pr]; exact y7
              have y8' : es5.hp.get b8 = some (.row 3 [ib 0]) := by rw [hfr5 b8 z8 w8.pr]; exact y8
              have w7' : Aw c me5 d b6 b7 := ⟨w7.l, fun h => (hpr5 b7 h).elim w7.pr (by omega), w7.mi, w7.ob⟩
              have w8' : Aw c me5 d b6 b8 := ⟨w8.l, fun h => (hpr5 b8 h).elim w8.pr (by omega), w8.mi, w8.ob⟩
              obtain ⟨k1, k2, k3, k4, k5, ⟨ck, k6⟩, k7, k8, k9, ⟨l1, l2, l3, l4, l5⟩, l6, l7, n1, n2, n3⟩ := id hI5
              have m6 := hz5.g6
              have lb6 := hz5.l6.1
              have hov := k8 (keyOf c.b i)
              have hlv := l7 (keyOf c.b i)
              simp only [eq_self, ↓ew_s, ↓ew_n, ↓then_n, ↓blk_x, xw_some, x_ld, rw_put, rw_other, n_mk, sl_put, ne_eq, reduceCtorEq, not_false_eq_true, and_true, true_and, and_self, Pa.r.injEq, ro_fn, ↓sw_reg, ↓tw_q, ↓tw_chk, ↓tw_read, ↓z_main, ↓chk_nil, ↓chk_cons, ro_v, ro_pt, look_f, ↓refsL_cons, ↓refs_nil, List.append_nil, u3, u4, u6, ib, ld_box m6, ld_box k4, ld_box k5, okRef_old m6 lb6, okRef_old k4 l3, okRef_old k5 l4, okRef_old k1 l1]
              refine tws_main rfl (sws_cf (f := 67) (fs := []) (cs := [.pt c.bb 0]) (by rw [evt]; simp only [rw_put, rw_other, n_mk, ne_eq, reduceCtorEq, not_false_eq_true]; exact live_fn1 k1) ?_)
              simp only [List.map_cons, List.map_nil, List.nil_append, List.cons_append, rw_put, n_mk, sl_put]
              refine kn_key (k + 3) _ _ _ c.bb c.db c.b i k1 k2 (by omega) (fun id hid => by have := l6 id hid; omega) hb h4 (by omega) fun nx6 hnx6 => ?_
              simp only [eq_self, xw_some, rw_put, rw_other, n_mk, sl_put, live_v, ne_eq, reduceCtorEq, not_false_eq_true, and_true, true_and, and_self, Pa.l.injEq, xk_lkp, ↓tw_q, ↓tw_chk, ↓tw_read, ↓z_main, ↓chk_nil, ↓chk_cons, ro_v, ro_mp, look_f, ↓refsL_cons, ↓refs_nil, refs_v, List.append_nil, n_ev, p39, p42, okRef_old k6 l5, live_mp k6, lk32 k6 k7]
              refine ⟨hnx6, fun id hid => (okRef_iff _ _).2 ⟨hov.alive id hid, .inl (hlv id hid)⟩, tws_main rfl (sws_call ?_)⟩
              simp only [List.map_cons, List.map_nil, rw_put, n_mk, sl_put]
              refine kn_backward (k + 3) _ _ _ (valM me5 (keyOf c.b i)) (places c.b (keyOf c.b i) i) hov fun hp7 hg7 hk7 => ?_
              simp only [↓ew_b, ↓then_n, ↓z_r, ↓tw_z]
              have sm : ∀ x ∈ [DV.mp c.im], sameDV 6 x x = true := fun x hx => by rw [List.mem_singleton] at hx; rw [hx]; simp [sameDV]
              refine ⟨by omega, okl_look (fun id hid => ?_) (okl_nil _ _ _), ?_⟩
              · simp only [DV.refs, List.mem_singleton] at hid
                subst hid
                refine ⟨by omega, fun p hp => ?_⟩
                simp only [List.mem_cons, List.mem_nil_iff, or_false] at hp
                rcases hp with rfl | rfl
                · exact .inl rfl
                · exact .inr (.inr (sameAt_row k4 sm))
              have hgo7 : ∀ j, j < es5.nx → hp7.get j = es5.hp.get j := fun j hj => hk7 j (by omega)
              refine kn_search k c i i me5 s d b6 b7 b8 nx6 (valM me5 (keyOf c.b i)) (places c.b (keyOf c.b i) i) _ _ (hz5.new (by show es5.nx ≤ nx6 + 1; omega) hgo7) ⟨?_, ?_, ?_, ?_, ?_, ?_⟩ ⟨?_, ?_, by show hp7.get b7 = _; rw [hgo7 _ (by omega)]; exact y7', by show hp7.get b8 = _; rw [hgo7 _ (by omega)]; exact y8', by show b7 < nx6 + 1; omega, by show b8 < nx6 + 1; omega, zn, w7', w8'⟩ h1 hl (by simp only [rw_put, n_mk]) hg7 (hov.keep fun id hid => hgo7 id (hlv id hid)) ⟨by show nx6 < nx6 + 1; omega, by omega, by omega⟩ (fun id hid => ⟨by have := hlv id hid; show id < nx6 + 1; omega, fun e => w7'.pr (.inr (.inr ⟨_, e ▸ hid⟩)), fun e => w8'.pr (.inr (.inr ⟨_, e ▸ hid⟩))⟩) (fun j hj => by have := (places_lt _ _ _ j hj).1; omega) (by have := places_len c.b (keyOf c.b i) i; omega) fun es8 e he8 hz8 hs8 hx8 => ?_
              · simp only [rw_other, n_mk, ne_eq, reduceCtorEq, not_false_eq_true]; exact u0
              · simp only [rw_other, n_mk, ne_eq, reduceCtorEq, not_false_eq_true, Pa.l.injEq]; exact u1
              · simp only [rw_other, n_mk, ne_eq, reduceCtorEq, not_false_eq_true, Pa.r.injEq]; exact u2
              · simp only [rw_other, n_mk, ne_eq, reduceCtorEq, not_false_eq_true, Pa.l.injEq]; exact u3
              · simp only [rw_other, n_mk, ne_eq, reduceCtorEq, not_false_eq_true, Pa.l.injEq, Pa.r.injEq]; exact u4
              · simp only [rw_other, n_mk, ne_eq, reduceCtorEq, not_false_eq_true, Pa.r.injEq]; exact u6
              · simp only [rw_other, n_mk, ne_eq, reduceCtorEq, not_false_eq_true, Pa.l.injEq]; exact u7
              · simp only [rw_other, n_mk, ne_eq, reduceCtorEq, not_false_eq_true, Pa.l.injEq, Pa.r.injEq]; exact u8
              · rw [lzBack_lz hb h4] at hx8
                rcases he8 with rfl | rfl
                · simp only [↓then_n, ↓blk_n]
                  exact ⟨me5, i, Nat.le_refl _, hz8, hs8, b7, b8, hx8⟩
                · simp only [↓then_n, ↓blk_x]
                  exact ⟨me5, i, Nat.le_refl _, hz8, hs8, b7, b8, hx8⟩
            · simp only [↓ew_s, ↓ew_n, ↓ew_e, ↓ew_c', ↓ew_b, ↓sw_q, ↓sw_z, ↓sw_x, ↓then_n, xw_some, cw_f, x_len, x_ld, rw_put, rw_other, n_c, hp_put, nx_put, x_bin, ne_eq, reduceCtorEq, not_false_eq_true, decide_false, Pa.l.injEq, Pa.r.injEq, ↓z_l, v1, v6, ib, ld_box g6', ld_box gb', gs'.len, e4, b_leqN, h4]
              refine ⟨me, next, hni, hz3, ⟨?_, ?_, ?_, ?_, ?_, ?_⟩, b7, b8, ?_⟩
              · simp only [rw_other, ne_eq, reduceCtorEq, not_false_eq_true]; exact v0
              · simp only [rw_other, ne_eq, reduceCtorEq, not_false_eq_true, Pa.l.injEq]; exact v1
              · simp only [rw_other, ne_eq, reduceCtorEq, not_false_eq_true, Pa.r.injEq]; exact v2
              · simp only [rw_other, ne_eq, reduceCtorEq, not_false_eq_true, Pa.l.injEq]; exact v3
              · simp only [rw_other, ne_eq, reduceCtorEq, not_false_eq_true, Pa.l.injEq, Pa.r.injEq]; exact v4
              · simp only [rw_other, ne_eq, reduceCtorEq, not_false_eq_true, Pa.r.injEq]; exact v6
              · rw [lz_end h4]
                exact ⟨by simp only [rw_other, ne_eq, reduceCtorEq, not_false_eq_true, Pa.l.injEq]; exact x7, by simp only [rw_other, ne_eq, reduceCtorEq, not_false_eq_true, Pa.l.injEq, Pa.r.injEq]; exact x8, y7, y8, z7, z8, zn, w7, w8⟩
          · clear hx3 x7 x8 y7 y8 z7 z8 zn w7 w8 v0 v1 v2 v3 v4 v6 hs3 hz3
            obtain ⟨v0, v1, v2, v3, v4, v6⟩ := id hs4
            obtain ⟨x7, x8, y7, y8, z7, z8, zn, w7, w8⟩ := id hx4
            have fl := lz_fact c.b i
            have g6' := hz4.g6
            have gb' := hz4.li.gb
            have gs' := hz4.li.src
            refine EW.seq (fun es' => ZZ c i next4 me4 s d b6 es'.hp es'.nx ∧ S68 c b6 es' ∧ BX c me4 d b6 b7' b8' (lz c.b i) es' ∧ ∃ id, rawE es' (.t (.r (.l (.r .o)))) = .ms id 0 [c.b.getD i 0].length 1 ∧ es'.hp.get id = some (.row 5 ([c.b.getD i 0].map ub)) ∧ es4.nx ≤ id ∧ id < es'.nx) ?_ fun es5 ⟨hz5, hs5, hx5, id5, q5, qg5, ql5, qm5⟩ => ?_
            · simp only [↓ew_n, ↓sw_q, ↓sw_x, xw_some, x_ia, x_ld, rw_put, rw_other, hp_put, ne_eq, reduceCtorEq, not_false_eq_true, Pa.r.injEq, ↓z_bsl, v1, v6, ib, ld_box g6', ld_box gb', gs'.ia h1, gs'.ld h1]
              refine sw_bsl (l := [c.b.getD i 0]) rfl rfl (by simp only [List.map_cons, List.map_nil, n_ev, rw_put, hp_put, p69, live_ub]; exact fill1 _ _) fun hp1 hg1 hk1 => ?_
              simp only [hp_put, nx_put, ne_eq] at hg1 hk1
              simp only [↓sw_q, ↓sw_m1, ↓sw_z, ↓then_n, xw_some, mk1_eq, List.map_cons, List.map_nil, rw_put, n_mk, nx_put, sl_put]
              have hf1 : ∀ j, j < es4.nx → hp1.get j = es4.hp.get j := fun j hj => hk1 j (by omega)
              refine ⟨hz4.new (by omega) hf1, hs4.new ?_, hx4.new ?_ ?_ (by show es4.nx ≤ es4.nx + 1; omega) hf1, es4.nx, rfl, hg1, Nat.le_refl _, by omega⟩ <;> simp only [rw_other, n_mk, ne_eq, reduceCtorEq, not_false_eq_true, Pa.l.injEq, Pa.r.injEq, and_self]
            · refine EW.seq (fun es' => ZZ c i next4 me4 s d b6 es'.hp es'.nx ∧ S68 c b6 es' ∧ BX c me4 d b6 b7' b8' (lz c.b i) es' ∧ ∃ id x, x = (itemL c.b i).2 ∧ rawE es' (.t (.r (.l (.r .o)))) = .ms id 0 x.length 1 ∧ es'.hp.get id = some (.row 5 (x.map ub)) ∧ es4.nx ≤ id ∧ id < es'.nx) ?_ fun es6 ⟨hz6, hs6, hx6, id6, x, qx, q6, qg6, ql6, qm6⟩ => ?_
              · have a7 := hx5.r7
                have a8 := hx5.r8
                have c7 := hx5.g7
                have c8 := hx5.g8
                by_cases h5 : 0 < (lz c.b i).2
                · have ei : (itemL c.b i).2 = [(lz c.b i).1 + 124, (lz c.b i).2 / 256, (lz c.b i).2 % 256] := by unfold itemL; rw [if_pos h5]
                  rw [ei]
                  generalize lz c.b i = f at fl c7 c8 h5 hx5 ⊢
                  have e8 : binD .shr (.v (.int .i64 (f.2 : Int))) (.v (.int .u64 8)) = some (.v (.int .i64 ((f.2 / 256 : Nat) : Int))) := b_shrN (c := 8) (by omega)
                  have e9 : cviE .u8 (.v (.int .i64 (f.2 : Int))) = some (ub (f.2 % 256)) := cvi_u8m
                  simp only [↓ew_s, ↓ew_n, ↓ew_e, ↓ew_c', ↓sw_q, ↓sw_z, ↓sw_x, ↓then_n, xw_some, cw_t, x_ld, rw_put, rw_other, n_c, hp_put, nx_put, x_bin, live_v, ne_eq, reduceCtorEq, not_false_eq_true, decide_true, Pa.l.injEq, Pa.r.injEq, ↓z_bsl, ↓sw_cviE, n_ev, p75, p78, p80, a7, a8, ib, ld_box c7, ld_box c8, b_gtr0, h5, b_add128 (show f.1 < _ by omega), b_sub4 (show f.1 < _ by omega), e8, e9, cvi_u8 (show f.1 + 124 < 256 by omega), cvi_u8 (show f.2 / 256 < 256 by omega)]
                  refine sw_bsl (l := [f.1 + 124, f.2 / 256, f.2 % 256]) rfl rfl (by simp only [List.map_cons, List.map_nil, n_ev, rw_put, rw_other, hp_put, ne_eq, reduceCtorEq, not_false_eq_true, Pa.l.injEq, Pa.r.injEq, p76, p79, p81, live_ub]; exact fill3 _ _ _ _) fun hp1 hg1 hk1 => ?_
                  simp only [hp_put, nx_put, ne_eq] at hg1 hk1
                  simp only [↓sw_q, ↓sw_m1, ↓sw_z, ↓then_n, xw_some, mk1_eq, rw_put, n_mk, nx_put, sl_put]
                  have hf1 : ∀ j, j < es5.nx → hp1.get j = es5.hp.get j := fun j hj => hk1 j (by omega)
                  have := hz4.fr.1
                  refine ⟨hz5.new (by omega) hf1, hs5.new ?_, hx5.new ?_ ?_ (by show es5.nx ≤ es5.nx + 1; omega) hf1, es5.nx, _, rfl, rfl, hg1, by omega, by omega⟩ <;> simp only [rw_other, n_mk, ne_eq, reduceCtorEq, not_false_eq_true, Pa.l.injEq, Pa.r.injEq, and_self]
                · have ei : (itemL c.b i).2 = [c.b.getD i 0] := by unfold itemL; rw [if_neg h5]
                  rw [ei]
                  simp only [↓ew_s, ↓ew_n, ↓ew_e, ↓ew_c', ↓sw_q, ↓sw_z, ↓sw_x, ↓then_n, xw_some, cw_f, x_ld, rw_put, rw_other, n_c, hp_put, nx_put, x_bin, live_v, ne_eq, reduceCtorEq, not_false_eq_true, decide_false, Pa.l.injEq, Pa.r.injEq, ↓z_bsl, ↓sw_cviE, n_ev, p75, p78, p80, a7, a8, ib, ld_box c7, ld_box c8, b_gtr0, h5]
                  refine ⟨hz5, hs5.new ?_, hx5.new ?_ ?_ (Nat.le_refl _) (fun _ _ => rfl), id5, _, rfl, q5, qg5, ql5, qm5⟩ <;> simp only [rw_other, ne_eq, reduceCtorEq, not_false_eq_true, Pa.l.injEq, Pa.r.injEq, and_self]
              · have hx1 : 1 ≤ x.length := qx ▸ itemL_x c.b i
                have hx3 : x.length ≤ 3 := by
                  rw [qx]; unfold itemL; split <;> simp
                have a0 := hs6.r0
                have a6 := hs6.r6
                have a7 := hx6.r7
                have c7 := hx6.g7
                have gL := hz6.pj.loop
                simp only [↓ew_s, ↓ew_n, ↓sw_q, ↓sw_m1, xw_some, mk1_eq, rw_other, ne_eq, reduceCtorEq, not_false_eq_true, ↓z_cv, a0, q6]
                refine sws_y (L := c.L) (by simp only [rw_put, rw_other, ne_eq, reduceCtorEq, not_false_eq_true]) gL ?_
                simp only [List.map_cons, List.map_nil, rw_put, hp_put, nx_put, sl_put]
                refine kn_round (k + 3) _ _ _ c.sl c.L c.bo c.bh s d (.ms id6 0 x.length 1) x hz6.pj (Own.ms _ x qg6).src (fun id hid => ?_) hx1 (by omega) fun hp7 nx7 d7 hnx7 hJ7 hfr7 hmi7 => ?_
                · have hid' : id = id6 := by simpa [DV.refs] using hid
                  exact ⟨fun hm => by have := hz4.pj.mlt hm; omega, by omega⟩
                have m6 : hp7.get b6 = some (.row 3 [ib i]) := by rw [hfr7 b6 hz6.l6.1 hz6.s6.2.1]; exact hz6.g6
                have m7 : hp7.get b7' = some (.row 3 [ib (lz c.b i).1]) := by rw [hfr7 b7' hx6.l7 w7.mi]; exact c7
                simp only [↓ew_n, ↓ew_e, ↓ew_c', ↓sw_q, ↓sw_z, ↓sw_x, ↓then_n, xw_some, cw_f, x_ld, rw_put, rw_other, n_mk, sl_put, x_bin, x_un, n_not, ne_eq, reduceCtorEq, not_false_eq_true, Bool.not_true, Pa.l.injEq, Pa.r.injEq, ↓z_st, a6, a7, ib, n_not, ld_box m6, ld_box m7, b_addN (show i + (lz c.b i).1 < _ by omega)]
                refine sw_sto (id := b6) (off := 0) (v := ib (i + (lz c.b i).1)) (by simp only [rw_other, n_mk, ne_eq, reduceCtorEq, not_false_eq_true, Pa.r.injEq, a6]) m6 (by simp only [evt, rw_put, n_mk]; exact live_v _ _) (ok_i _ _) (by simp) fun hp8 hg8 hk8 => ?_
                simp only [ne_eq] at hg8 hk8
                simp only [put_n, ↓sw_z, ↓then_n, ↓blk_n]
                rw [itemL_n, ← qx]
                obtain ⟨s61, s62, s63, s64, s65, s66⟩ := hz6.s6
                refine ⟨me4, next4, d7, hn4, hz6.step hnx7 (hz6.li.keep hnx7 fun j hj => ?_) (hJ7.keep (Nat.le_refl _) fun j hj => hk8 j fun e => ?_) hg8 (fun j hj hm hp => by rw [hk8 j (by have := hz6.l6.2; omega), hfr7 j (by have := hz6.fr.1; omega) hm]) hmi7 (fun j hj => .inl hj) (fun j hj hp _ => by have := hz6.li.plt hp; omega), hs6.new ?_⟩
                · have hlt : j < es6.nx := by
                    obtain ⟨l1, l2, l3, l4, l5⟩ := hz6.li.lt
                    rcases hj with h | h | h | h | h
                    · omega
                    · exact hz6.li.ltd j h
                    · omega
                    · omega
                    · exact hz6.li.plt h
                  have hnm : ¬ c.Mi d j := by
                    rcases hj with h | h | h | h | h
                    · exact fun hm => (hz6.sm j hm).1 h
                    · exact fun hm => (hz6.sm j hm).2.2.2 h
                    · exact fun hm => (hz6.sm j hm).2.1 h
                    · exact fun hm => (hz6.sm j hm).2.2.1 h
                    · exact hz6.sp j h
                  have hn6 : j ≠ b6 := by
                    rcases hj with h | h | h | h | h
                    · exact fun e => s63 (e.symm.trans h)
                    · exact fun e => s64 (e ▸ h)
                    · exact fun e => s65 (e.symm.trans h)
                    · exact fun e => s66 (e.symm.trans h)
                    · exact fun e => s61 (e ▸ h)
                  rw [hk8 j hn6, hfr7 j hlt hnm]
                · subst e
                  exact (hmi7 j hj).elim s62 (by have := hz6.l6.1; omega)
                · simp only [rw_other, n_mk, ne_eq, reduceCtorEq, not_false_eq_true, Pa.l.injEq, Pa.r.injEq, and_self]
      · obtain ⟨v0, v1, v2, v3, v4, v6⟩ := id hs3
        have g6' := hz3.g6
        simp only [↓ew_s, ↓ew_n, ↓sw_q, ↓sw_z, ↓sw_x, ↓then_n, xw_some, x_ld, ↓z_al, v6, ib, ld_box g6']
        refine sws_al fun hp1 hg1 hk1 => ?_
        simp only [hp_put, nx_put, ne_eq] at hg1 hk1
        simp only [↓sw_q, nx_put, sl_put, ↓z_st]
        refine sw_sto (id := es3.nx) (off := 0) (v := ib (i + (itemL c.b i).1)) (by simp only [rw_put, n_mk]) hg1 (by simp only [evt, rw_put, rw_other, n_mk, ne_eq, reduceCtorEq, not_false_eq_true, Pa.r.injEq]; exact live_v _ _) (ok_i _ _) (by simp) fun hp2 hg2 hk2 => ?_
        simp only [ne_eq] at hg2 hk2
        simp only [put_n, ↓sw_z]
        refine hN h1 _ me' next' d' es3.nx (hz3.box ⟨Nat.le_refl _, by show es3.nx < es3.nx + 1; omega⟩ (fun j hj => by show hp2.get j = _; rw [hk2 j (by omega), hk1 j (by omega)]) hg2) ⟨?_, ?_, ?_, ?_, ?_, ?_⟩ hn'
        · simp only [rw_other, n_mk, ne_eq, reduceCtorEq, not_false_eq_true]; exact v0
        · simp only [rw_other, n_mk, ne_eq, reduceCtorEq, not_false_eq_true]; exact v1
        · simp only [rw_other, n_mk, ne_eq, reduceCtorEq, not_false_eq_true, Pa.r.injEq]; exact v2
        · simp only [rw_other, n_mk, ne_eq, reduceCtorEq, not_false_eq_true]; exact v3
        · simp only [rw_other, n_mk, ne_eq, reduceCtorEq, not_false_eq_true, Pa.r.injEq]; exact v4
        · simp only [rw_put, n_mk]
  · simp only [↓ew_s, ↓ew_n, ↓ew_e, ↓ew_c', ↓ew_b, ↓sw_q, ↓sw_z, ↓sw_x, ↓then_n, ↓then_x, xw_some, cw_f, x_len, x_ld, rw_put, rw_other, hp_put, x_bin, ne_eq, reduceCtorEq, not_false_eq_true, decide_false, Pa.l.injEq, ↓z_al, r1, r6, ib, ld_box g6, ld_box gb, gs.len, b_lssN, h1]
    exact hE (by omega) _ hz
end Go.DD

/- Chapter 03: the codecs. Conditions: those that each theorem states. -/
namespace Go.DD
open Go Go.Proofs

/-- Bytes of one's own, or an empty slice. -/
def Res (hp : Tr DObj) (d : DV) (l : List Nat) : Prop := Own hp d l ∨ (d = .sl [] 0 ∧ l = [])
theorem Res.src {hp : Tr DObj} {d : DV} {l : List Nat} (h : Res hp d l) : Src hp d l := by
  rcases h with h | ⟨rfl, rfl⟩
  · exact h.src
  · exact .sl []
theorem src_emp {hp : Tr DObj} {b : List Nat} (h : Src hp (.sl [] 0) b) : b = [] := by
  generalize hd : DV.sl [] 0 = d at h
  cases h with
  | nil => rfl
  | sl l => 
    have := (DV.sl.inj hd).2
    cases b with
    | nil => rfl
    | cons a l => simp at this
  | ms id off fl l h hl hc => cases hd
theorem src_nilS {hp : Tr DObj} {b : List Nat} (h : Src hp nilS b) : b = [] := by
  generalize hd : nilS = d at h
  cases h with
  | nil => rfl
  | sl l => cases hd
  | ms id off fl l h hl hc => cases hd
/-- Bytes of which it is known whether they are none. -/
def Kn (d : DV) (l : List Nat) : Prop := l ≠ [] ∨ d = nilS ∨ d = .sl [] 0
theorem kn_clone (k : Nat) (hp : Tr DObj) (nx : Nat) (K : DV → Tr DObj → Nat → Prop) (d : DV) (b : List Nat) (hs : Src hp d b) (ho : Old nx d) (hkn : Kn d b) (hl : b.length < 2000000000)
    (hK : ∀ hp' nx' d', Al hp nx hp' nx' → Res hp' d' b → Kn d' b → Rng nx nx' d' → K d' hp' nx') : KW (kN (k + 1)) (.fn 28) [d] hp nx K := by
  by_cases he0 : d = .sl [] 0
  · subst he0
    obtain rfl := src_emp hs
    exact kn_rel (d := .sl [] 0) rfl (hK _ _ _ (Al.refl _ _) (.inr ⟨rfl, rfl⟩) (.inr (.inr rfl)) (fun _ h => by cases h))
  · have hr : relW 28 [d] = none := by
      unfold relW
      rw [if_neg (by decide), if_pos rfl]
      split
      · rename_i h; cases h; exact absurd rfl he0
      · rfl
    refine kn_1 hr t28 (Nat.le_of_ble_eq_true rfl) fun es e1 e2 he => ?_
    have a0 : rawE es (.t .o) = d := he 0 _ rfl
    have hs1 : Src es.hp d b := e1 ▸ hs
    unfold r28
    simp only [↓ew_s, ↓ew_n, ↓sw_q, ↓sw_m1, ↓sw_z, ↓then_n, xw_some, mk1_eq, rw_other, n_c, ne_eq, reduceCtorEq, not_false_eq_true, ↓z_nil, a0]
    by_cases hn : d = nilS
    · subst hn
      obtain rfl := src_nilS hs
      refine sws_nil true (by simp only [n_ev, rw_put, hp_put, p3]; rfl) rfl ?_
      simp only [eq_self, ↓ew_s, ↓ew_n, ↓ew_e, ↓ew_c', ↓sw_q, ↓sw_m1, ↓sw_z, ↓then_n, ↓then_r, xw_some, cw_t, mk1_eq, rw_put, n_c, hp_put, nx_put, live_v, reduceCtorEq, true_and, or_true, Bool.not_false, p2, Bool.bne_true]
      rw [e1, e2]
      exact hK _ _ nilS (Al.refl _ _) (.inl .nil) (.inr (.inl rfl)) (Rng.nil _ _)
    · have hb : b ≠ [] := by
        rcases hkn with h | h | h
        · exact h
        · exact absurd h hn
        · exact absurd h he0
      have hb1 : 0 < b.length := by cases b with
        | nil => exact absurd rfl hb
        | cons a l => simp
      refine sws_nil false (by simp only [n_ev, rw_put, hp_put, p3, hs1.live]; cases hs <;> first | exact absurd rfl hn | (show (if 0 < b.length then some false else none) = _; rw [if_pos hb1])) rfl ?_
      simp only [↓ew_s, ↓ew_n, ↓ew_e, ↓ew_c', ↓sw_q, ↓sw_z, ↓then_n, cw_f, rw_put, ↓z_bsl, Bool.xor_false]
      refine sw_bsl (n := 0) (z := [.int .u8 0]) (ps := []) (l := []) rfl rfl rfl fun hp1 hg1 hk1 => ?_
      simp only [hp_put, nx_put, ne_eq, e1, e2] at hg1 hk1
      simp only [↓sw_q, ↓sw_m1, xw_some, mk1_eq, rw_other, n_mk, nx_put, sl_put, ne_eq, reduceCtorEq, not_false_eq_true, ↓z_app, a0, e2]
      have hs2 : Src hp1 d b := hs.keep fun id hid => hk1 id (by have := ho id hid; omega)
      refine sw_app (d := .ms nx 0 0 1) (d2 := d) (l := []) (m := b) (by simp only [rw_put, rw_other, n_mk, ne_eq, reduceCtorEq, not_false_eq_true, p5]; rfl) (.ms nx [] hg1) (by simp only [rw_put, n_mk, p6]) hs2 (by simp; omega) (by decide) fun hp2 hg2 hk2 => ?_
      simp only [ne_eq, List.nil_append] at hg2 hk2
      simp only [eq_self, ↓ew_e, ↓sw_q, ↓sw_m1, ↓sw_z, ↓then_n, xw_some, mk1_eq, rw_put, n_mk, sl_put, reduceCtorEq, true_and, or_true, p2, live_ms hg2, List.nil_append]
      refine hK _ _ _ ⟨by omega, fun j hj => by rw [hk2 j (by omega) (by simp [DV.refs]; omega), hk1 j (by omega)]⟩ (.inl (.ms _ _ hg2)) (.inl hb) (.ms (by omega) (by omega))

def fnv (f : Nat) : DV := .fn (.func f) [.tup []]
def codC (n : Int) : List DV := if n = 1 then [fnv 32, fnv 33] else if n = 2 then [fnv 35, fnv 38] else if n = 3 then [fnv 41, fnv 43] else [.v .nilFunc, .v .nilFunc]
theorem kn_codecs (k : Nat) (hp : Tr DObj) (nx : Nat) (K : DV → Tr DObj → Nat → Prop) (n : Int) (hK : ∀ hp' nx', Al hp nx hp' nx' → K (.agg (codC n)) hp' nx') : KW (kN (k + 1)) (.fn 19) [iv n] hp nx K := by
  refine kn_c (relW_n (by decide)) t19 (Nat.le_of_ble_eq_true rfl) fun es e1 e2 he => ?_
  have a0 : rawE es (.t .o) = iv n := he 0 _ rfl
  unfold r19
  simp only [↓ew_s, ↓ew_n, ↓sw_q, ↓z_al]
  refine sws_al fun hp1 hg1 hk1 => ?_
  simp only [ne_eq, e1, e2] at hg1 hk1
  simp only [↓ew_s, ↓ew_n, ↓sw_q, ↓sw_z, ↓then_n, sl_put, ↓z_bld]
  refine sws_bld (cs := [fnv 32, fnv 33]) rfl ?_
  simp only [↓sw_q, sl_put, ↓z_bld]
  refine sws_bld (cs := [fnv 35, fnv 38]) rfl ?_
  simp only [↓sw_q, sl_put, ↓z_bld]
  refine sws_bld (cs := [fnv 41, fnv 43]) rfl ?_
  simp only [↓sw_q, sl_put, ↓z_bsl]
  refine sws_bslG (cs := [.v .nilFunc, .v .nilFunc, fnv 32, fnv 33, fnv 35, fnv 38, fnv 41, fnv 43]) rfl (by
    simp only [List.map_cons, List.map_nil, n_ev, rw_put, rw_other, n_mk, ne_eq, reduceCtorEq, not_false_eq_true, Pa.r.injEq, p4, p5, p6]
    rw [live_nil rfl, live_nil rfl, live_nil rfl]; rfl) fun hp2 hg2 hk2 => ?_
  simp only [ne_eq, e2] at hg2 hk2
  have f1 : hp2.get nx = some (.row 54 [.v .nilFunc, .v .nilFunc]) := by rw [hk2 nx (by omega)]; exact hg1
  have fin : ∀ hp3 : Tr DObj, (∀ j, j ≠ nx → hp3.get j = hp2.get j) → Al hp nx hp3 (nx + 1 + 1) := fun hp3 h => ⟨by omega, fun j hj => by rw [h j (by omega), hk2 j (by omega), hk1 j (by omega)]⟩
  by_cases h0 : n < 0
  · have hc : codC n = [.v .nilFunc, .v .nilFunc] := by unfold codC; rw [if_neg (by omega), if_neg (by omega), if_neg (by omega)]
    simp only [eq_self, ↓ew_s, ↓ew_n, ↓ew_c', ↓sw_q, ↓sw_m1, ↓sw_z, ↓sw_x, ↓sw_g', gw_tf, ↓then_n, xw_some, cw_t, mk1_eq, rw_put, rw_other, n_c, n_mk, sl_put, x_bin, x_pick, pick_b, ne_eq, reduceCtorEq, not_false_eq_true, if_true, decide_true, Pa.r.injEq, ↓z_bld, a0, iv, b_lss, h0]
    refine sws_bld (cs := [.v .nilFunc, .v .nilFunc]) rfl ?_
    simp only [↓sw_q, sl_put, ↓z_st, e2]
    refine sw_sta (n := 2) (id := nx) (ds := [.v .nilFunc, .v .nilFunc]) (by simp only [rw_put, rw_other, n_mk, ne_eq, reduceCtorEq, not_false_eq_true, Pa.r.injEq]) f1 (by simp only [evt, rw_put, n_mk]; exact live_nil rfl) rfl rfl fun hp3 hg3 hk3 => ?_
    simp only [ne_eq] at hg3 hk3
    simp only [put_n, eq_self, ↓ew_e, ↓sw_z, ↓then_n, ↓then_r, rw_put, rw_other, n_mk, ne_eq, reduceCtorEq, not_false_eq_true, true_and, or_true, Pa.r.injEq, p2]
    refine ⟨nx, 0, 54, _, rfl, hg3, by decide, ?_⟩
    have hh := hK _ _ (fin hp3 hk3)
    rw [hc] at hh
    exact hh
  · by_cases h4 : 4 ≤ n
    · have hc : codC n = [.v .nilFunc, .v .nilFunc] := by unfold codC; rw [if_neg (by omega), if_neg (by omega), if_neg (by omega)]
      have hl : lenD hp2 (.ms (nx + 1) 0 4 2) = some (.v (.int .i64 4)) := by
        show (if alv hp2 (nx + 1) = true then some (DV.v (.int .i64 ((4 : Nat) : Int))) else none) = _
        rw [if_pos (by unfold alv; rw [hg2]; rfl)]; rfl
      simp only [↓ew_s, ↓ew_n, ↓ew_c', ↓sw_q, ↓sw_m1, ↓sw_z, ↓sw_x, ↓sw_g', gw_ff, ↓then_n, xw_some, cw_t, mk1_eq, x_len, rw_put, rw_other, n_c, n_mk, sl_put, x_bin, x_pick, pick_b, ne_eq, reduceCtorEq, not_false_eq_true, Bool.false_eq_true, if_false, ge_iff_le, decide_true, decide_false, Pa.l.injEq, Pa.r.injEq, ↓z_bld, a0, iv, b_lss, b_geq, h0, e2, hl, h4]
      refine sws_bld (cs := [.v .nilFunc, .v .nilFunc]) rfl ?_
      simp only [↓sw_q, sl_put, ↓z_st]
      refine sw_sta (n := 2) (id := nx) (ds := [.v .nilFunc, .v .nilFunc]) (by simp only [rw_put, rw_other, n_mk, ne_eq, reduceCtorEq, not_false_eq_true, Pa.r.injEq]) f1 (by simp only [evt, rw_put, n_mk]; exact live_nil rfl) rfl rfl fun hp3 hg3 hk3 => ?_
      simp only [ne_eq] at hg3 hk3
      simp only [put_n, eq_self, ↓ew_e, ↓sw_z, ↓then_n, ↓then_r, rw_put, rw_other, n_mk, ne_eq, reduceCtorEq, not_false_eq_true, true_and, or_true, Pa.r.injEq, p2]
      refine ⟨nx, 0, 54, _, rfl, hg3, by decide, ?_⟩
      have hh := hK _ _ (fin hp3 hk3)
      rw [hc] at hh
      exact hh
    · have hn : n = 0 ∨ n = 1 ∨ n = 2 ∨ n = 3 := by omega
      have hia : iaD hp2 2 (.ms (nx + 1) 0 4 2) (.v (.int .i64 n)) = some (.pt (nx + 1) (0 + n.toNat * 2)) := by
        show (if alv hp2 (nx + 1) = true ∧ 0 ≤ n ∧ n < 4 then some (DV.pt (nx + 1) (0 + n.toNat * 2)) else none) = _
        rw [if_pos ⟨by unfold alv; rw [hg2]; rfl, by omega, by omega⟩]
      have hld : ldD hp2 (some 2) (.pt (nx + 1) (0 + n.toNat * 2)) = some (.agg (codC n)) := by
        rw [ld_p hg2]
        rcases hn with rfl | rfl | rfl | rfl <;> rfl
      have hl : lenD hp2 (.ms (nx + 1) 0 4 2) = some (.v (.int .i64 4)) := by
        show (if alv hp2 (nx + 1) = true then some (DV.v (.int .i64 ((4 : Nat) : Int))) else none) = _
        rw [if_pos (by unfold alv; rw [hg2]; rfl)]; rfl
      have hc2 : (codC n).length = 2 := by rcases hn with rfl | rfl | rfl | rfl <;> rfl
      have hrf : DV.refsL (codC n) = [] := by rcases hn with rfl | rfl | rfl | rfl <;> rfl
      simp only [↓ew_s, ↓ew_n, ↓ew_e, ↓ew_c', ↓sw_q, ↓sw_m1, ↓sw_z, ↓sw_x, ↓sw_g', gw_ff, ↓then_n, xw_some, cw_f, mk1_eq, x_len, x_ia, x_ld, rw_put, rw_other, n_c, n_mk, sl_put, x_bin, x_pick, pick_b, ne_eq, reduceCtorEq, not_false_eq_true, Bool.false_eq_true, if_false, ge_iff_le, decide_false, Pa.l.injEq, Pa.r.injEq, ↓z_st, a0, iv, b_lss, b_geq, h0, e2, hl, h4, hia, hld]
      refine sw_sta (n := 2) (id := nx) (ds := codC n) (by simp only [rw_put, rw_other, n_mk, ne_eq, reduceCtorEq, not_false_eq_true, Pa.r.injEq]) f1 (by simp only [evt, rw_put, n_mk]; exact live_nil hrf) hc2 rfl fun hp3 hg3 hk3 => ?_
      simp only [ne_eq] at hg3 hk3
      simp only [put_n, eq_self, ↓ew_e, ↓sw_z, ↓then_n, rw_put, rw_other, n_mk, ne_eq, reduceCtorEq, not_false_eq_true, true_and, or_true, Pa.r.injEq, p2]
      refine ⟨nx, 0, 54, _, rfl, hg3, by rw [List.drop_zero, hc2]; decide, ?_⟩
      rw [List.drop_zero, ← hc2, List.take_length]
      exact hK _ _ (fin hp3 hk3)
end Go.DD

/- Chapter 03: Lz packs. Conditions: those that each theorem states. -/
namespace Go.DD
open Go Go.Proofs

theorem kn_copies2 (k : Nat) (hp : Tr DObj) (nx : Nat) (K : DV → Tr DObj → Nat → Prop) (sl : Tr DV) (L bo bh bb bn bm bk im : Nat) (d db : DV) (b : List Nat) (hJ : PJ sl L bo bh ⟨[], none⟩ d hp nx) (hI : LI bb bn bm bk im db b 0 [] hp nx) (hsp : ∀ j, PrivL bn im [] j → ¬ Mine L bo bh d j) (hsm : ∀ j, Mine L bo bh d j → j ≠ bb ∧ j ≠ bm ∧ j ≠ bk ∧ j ∉ db.refs) (hb : ∀ x ∈ b, x < 256) (hl : b.length < 400000)
    (hK : ∀ hp' nx' d', nx ≤ nx' → PJ sl L bo bh (packAt itemL b 0 ⟨[], none⟩) d' hp' nx' → (∀ j, j < nx → ¬ Mine L bo bh d j → ¬ PrivL bn im [] j → hp'.get j = hp.get j) → (∀ j, Mine L bo bh d' j → Mine L bo bh d j ∨ nx ≤ j) → K (.tup []) hp' nx') :
    KW (kN (k + 5)) (.fn 68) [.yl L, .pt bb 0, .pt bn 0, .pt bm 0, .pt bk 0] hp nx K := by
  refine kn_0 (relW_n (by decide)) t68 (Nat.le_of_ble_eq_true rfl) fun es e1 e2 he => ?_
  have a0 : rawE es (.t .o) = .yl L := he 0 _ rfl
  have a1 : rawE es (.t (.l .o)) = .pt bb 0 := he 1 _ rfl
  have a2 : rawE es (.t (.r .o)) = .pt bn 0 := he 2 _ rfl
  have a3 : rawE es (.t (.l (.l .o))) = .pt bm 0 := he 3 _ rfl
  have a4 : rawE es (.t (.r (.l .o))) = .pt bk 0 := he 4 _ rfl
  obtain ⟨l1, l2, l3, l4, l5⟩ := hI.lt
  unfold r68
  simp only [↓ew_s, ↓ew_n, ↓sw_q, ↓z_al]
  refine sws_al fun hp1 hg1 hk1 => ?_
  simp only [ne_eq, e1, e2] at hg1 hk1
  simp only [↓sw_q, sl_put, ↓z_st]
  refine sw_sto (id := nx) (off := 0) (v := ib 0) (by simp only [rw_put, n_mk, e2]) hg1 rfl (ok_i _ _) (by simp) fun hp2 hg2 hk2 => ?_
  simp only [ne_eq] at hg2 hk2
  simp only [put_n, ↓ew_b, ↓sw_z, ↓then_n, ↓z_l]
  have ho : ∀ j, j < nx → hp2.get j = hp.get j := fun j hj => by rw [hk2 j (by omega), hk1 j (by omega)]
  refine EW.l (I := fun m es1 => ∃ i next me s1 d1 b6, m = b.length + 140 - i ∧ i ≤ b.length + 131 ∧ next ≤ i ∧ ZZ ⟨sl, L, bo, bh, bb, bn, bm, bk, im, db, d, b, hp, nx⟩ i next me s1 d1 b6 es1.hp es1.nx ∧ S68 ⟨sl, L, bo, bh, bb, bn, bm, bk, im, db, d, b, hp, nx⟩ b6 es1 ∧ s1.out.length ≤ 4 * i ∧ packAt itemL b i s1 = packAt itemL b 0 ⟨[], none⟩) ?_ (b.length + 140) 1000000 _ ?_ (by omega)
  · rintro m es1 ⟨i, next, me, s1, d1, b6, rfl, hib, hni, hz, hs, hlen, hst⟩
    refine kn_item k _ i next me s1 d1 b6 es1 _ hb hl hz hs hni (by omega) (fun hi es' hz' => ?_) (fun hi es' me' next' d' b6' hz' hs' hn' => ?_)
    · rw [packAt_end hi] at hst
      simp only [eq_self, ↓then_x, ↓blk_x, reduceCtorEq, true_and, true_or]
      have hfr := hz'.fr
      exact hK _ _ d1 hfr.1 (hst ▸ hz'.pj) hfr.2.1 hfr.2.2.1
    · have hi' : i < b.length := hi
      rw [packAt_step (itemL_1 b) hi] at hst
      have f1 := (lz_fact b i).1
      have f2 := itemL_1 b i
      have f3 := itemL_n b i
      have f4 := step_len s1 (itemL b i).2 (itemL_x b i)
      have f5 : (itemL b i).2.length ≤ 3 := by unfold itemL; split <;> simp
      simp only [↓then_n]
      refine ⟨b.length + 140 - (i + (itemL b i).1), by omega, i + (itemL b i).1, next', me', _, d', b6', rfl, by omega, by omega, hz', hs', by show (s1.step (itemL b i).2).out.length ≤ 4 * (i + (itemL b i).1); omega, hst⟩
  · refine ⟨0, 0, [], ⟨[], none⟩, d, nx, rfl, by omega, Nat.le_refl _, ⟨?_, ?_, hg2, ⟨by show nx < es.nx + 1; omega, Nat.le_refl _⟩, hsp, hsm, ⟨fun h => ?_, fun h => ?_, by show nx ≠ bb; omega, fun h => ?_, by show nx ≠ bm; omega, by show nx ≠ bk; omega⟩, ⟨by show nx ≤ es.nx + 1; omega, fun j hj _ _ => ho j hj, fun j h => .inl h, fun j h => .inl h⟩⟩, ⟨?_, ?_, ?_, ?_, ?_, ?_⟩, by simp, rfl⟩
    · refine hI.keep (by show nx ≤ es.nx + 1; omega) fun j hj => ho j ?_
      rcases hj with h | h | h | h | h
      · omega
      · exact hI.ltd j h
      · omega
      · omega
      · exact hI.plt h
    · exact hJ.keep (by show nx ≤ es.nx + 1; omega) fun j hj => ho j (hJ.mlt hj)
    · have := hI.plt h; omega
    · have := hJ.mlt h; omega
    · have := hI.ltd nx h; omega
    · simp only [rw_other, n_mk, ne_eq, reduceCtorEq, not_false_eq_true]; exact a0
    · simp only [rw_other, n_mk, ne_eq, reduceCtorEq, not_false_eq_true]; exact a1
    · simp only [rw_other, n_mk, ne_eq, reduceCtorEq, not_false_eq_true, Pa.r.injEq]; exact a2
    · simp only [rw_other, n_mk, ne_eq, reduceCtorEq, not_false_eq_true]; exact a3
    · simp only [rw_other, n_mk, ne_eq, reduceCtorEq, not_false_eq_true, Pa.r.injEq]; exact a4
    · simp only [rw_put, n_mk, e2]
theorem kn_copies (k : Nat) (hp : Tr DObj) (nx : Nat) (K : DV → Tr DObj → Nat → Prop) (d : DV) (b : List Nat) (hs : Src hp d b) (ho : Old nx d)
    (hK : ∀ hp', LI nx (nx + 3) (nx + 2) (nx + 4) (nx + 1) d b 0 [] hp' (nx + 5) → (∀ j, j < nx → hp'.get j = hp.get j) → K (.fn (.func 68) [.tup [], .pt nx 0, .pt (nx + 3) 0, .pt (nx + 2) 0, .pt (nx + 4) 0]) hp' (nx + 5)) : KW (kN (k + 1)) (.fn 42) [d] hp nx K := by
  refine kn_1 (relW_n (by decide)) t42 (Nat.le_of_ble_eq_true rfl) fun es e1 e2 he => ?_
  have a0 : rawE es (.t .o) = d := he 0 _ rfl
  have hs1 : Src es.hp d b := e1 ▸ hs
  unfold r42
  simp only [↓ew_s, ↓ew_n, ↓sw_q, ↓z_bx]
  refine sws_bx (v := d) (by rw [evt, a0]; exact hs1.live) (ok_s hs1) fun hp1 hg1 hk1 => ?_
  simp only [ne_eq, e1, e2] at hg1 hk1
  simp only [↓ew_s, ↓ew_n, ↓sw_q, ↓sw_m1, ↓sw_z, ↓then_n, xw_some, mk1_eq, n_c, sl_put, ↓z_mkm]
  refine sws_mkm fun hp2 hg2 hk2 => ?_
  simp only [ne_eq, e2] at hg2 hk2
  simp only [↓sw_q, sl_put, ↓z_al]
  refine sws_al fun hp3 hg3 hk3 => ?_
  simp only [ne_eq, e2] at hg3 hk3
  simp only [↓sw_q, sl_put, ↓z_al]
  refine sws_al fun hp4 hg4 hk4 => ?_
  simp only [ne_eq, e2] at hg4 hk4
  simp only [↓sw_q, sl_put, ↓z_st]
  refine sw_sto (id := nx + 2) (off := 0) (v := .mp (nx + 1)) (by simp only [rw_put, rw_other, n_mk, ne_eq, reduceCtorEq, not_false_eq_true, e2]) (by rw [hk4 _ (by omega)]; exact hg3) (by simp only [evt, rw_put, rw_other, n_mk, ne_eq, reduceCtorEq, not_false_eq_true, Pa.r.injEq, e2]; exact live_mp (by rw [hk4 _ (by omega), hk3 _ (by omega)]; exact hg2)) ⟨rfl, rfl⟩ (by simp) fun hp5 hg5 hk5 => ?_
  simp only [ne_eq] at hg5 hk5
  simp only [put_n, ↓sw_q, ↓z_st]
  refine sw_sto (id := nx + 3) (off := 0) (v := ib 0) (by simp only [rw_put, n_mk, e2]) (by rw [hk5 _ (by omega)]; exact hg4) rfl (ok_i _ _) (by simp) fun hp6 hg6 hk6 => ?_
  simp only [ne_eq] at hg6 hk6
  have hbb : hp6.get nx = some (.row 22 [d]) := by rw [hk6 _ (by omega), hk5 _ (by omega), hk4 _ (by omega), hk3 _ (by omega), hk2 _ (by omega)]; exact hg1
  simp only [put_n, ↓ew_s, ↓ew_n, ↓sw_q, ↓sw_z, ↓then_n, xw_some, List.map_cons, List.map_nil, rw_put, rw_other, n_mk, sl_put, ne_eq, reduceCtorEq, not_false_eq_true, Pa.l.injEq, ↓z_al, ↓sw_mkf, n_ev, p1, e2, live_pt hbb]
  refine sws_al fun hp7 hg7 hk7 => ?_
  simp only [ne_eq] at hg7 hk7
  simp only [↓sw_q, sl_put, ↓z_st]
  have hbb7 : hp7.get nx = some (.row 22 [d]) := by rw [hk7 _ (by omega)]; exact hbb
  refine sw_sto (id := nx + 4) (off := 0) (v := .fn (.func 67) [.tup [], .pt nx 0]) (by simp only [rw_put, n_mk]) hg7 (by simp only [evt, rw_put, rw_other, n_mk, ne_eq, reduceCtorEq, not_false_eq_true, Pa.l.injEq]; exact live_fn1 hbb7) ⟨rfl, rfl⟩ (by simp) fun hp8 hg8 hk8 => ?_
  simp only [ne_eq] at hg8 hk8
  have k1 : hp8.get nx = some (.row 22 [d]) := by rw [hk8 _ (by omega)]; exact hbb7
  have k2 : hp8.get (nx + 1) = some (.mapo 0 []) := by rw [hk8 _ (by omega), hk7 _ (by omega), hk6 _ (by omega), hk5 _ (by omega), hk4 _ (by omega), hk3 _ (by omega)]; exact hg2
  have k3 : hp8.get (nx + 1 + 1) = some (.row 108 [.mp (nx + 1)]) := by rw [hk8 _ (by omega), hk7 _ (by omega), hk6 _ (by omega)]; exact hg5
  have k4 : hp8.get (nx + 1 + 1 + 1) = some (.row 3 [ib 0]) := by rw [hk8 _ (by omega), hk7 _ (by omega)]; exact hg6
  have hlf : liveE hp8 (.fn (.func 68) [.tup [], .pt nx 0, .pt (nx + 1 + 1 + 1) 0, .pt (nx + 1 + 1) 0, .pt (nx + 1 + 1 + 1 + 1) 0]) = .fn (.func 68) [.tup [], .pt nx 0, .pt (nx + 1 + 1 + 1) 0, .pt (nx + 1 + 1) 0, .pt (nx + 1 + 1 + 1 + 1) 0] := live_o fun id hid => by
    have : id = nx ∨ id = nx + 1 + 1 + 1 ∨ id = nx + 1 + 1 ∨ id = nx + 1 + 1 + 1 + 1 := by simpa [DV.refs, DV.refsL] using hid
    rcases this with rfl | rfl | rfl | rfl
    · rw [k1]; rfl
    · rw [k4]; rfl
    · rw [k3]; rfl
    · rw [hg8]; rfl
  simp only [put_n, eq_self, ↓ew_s, ↓ew_n, ↓ew_e, ↓sw_q, ↓sw_m1, ↓sw_z, ↓then_n, xw_some, mk1_eq, List.map_cons, List.map_nil, rw_put, rw_other, n_mk, sl_put, ne_eq, reduceCtorEq, not_false_eq_true, true_and, or_true, Pa.l.injEq, ↓sw_mkf, n_ev, p1, p2, p3, p4, p5, live_pt k1, live_pt k3, live_pt k4, live_pt hg8, hlf]
  have ho8 : ∀ j, j < nx → hp8.get j = hp.get j := fun j hj => by rw [hk8 _ (by omega), hk7 _ (by omega), hk6 _ (by omega), hk5 _ (by omega), hk4 _ (by omega), hk3 _ (by omega), hk2 _ (by omega), hk1 _ (by omega)]
  have hp0 : ∀ j, PrivL (nx + 3) (nx + 1) [] j → j = nx + 3 ∨ j = nx + 1 := by
    rintro j (h | h | ⟨key, h⟩)
    · exact .inl h
    · exact .inr h
    · cases h
  refine hK hp8 ⟨k1, hs.keep fun id hid => ho8 id (ho id hid), k4, k3, hg8, ⟨0, k2⟩, fun e h => (by cases h), fun key => .nil, fun k1 k2 _ id h => (by cases h), ⟨by omega, by omega, by omega, by omega, by omega⟩, fun id hid => by have := ho id hid; omega, fun key id h => (by cases h), fun j hj => ?_, by omega, fun key id h => (by cases h)⟩ ho8
  have := hp0 j hj
  exact ⟨by omega, by omega, by omega, fun h => by have := ho j h; omega⟩
theorem kn_pl (k : Nat) (hp : Tr DObj) (nx : Nat) (K : DV → Tr DObj → Nat → Prop) (d : DV) (b : List Nat) (hs : Src hp d b) (ho : Old nx d) (hb : ∀ x ∈ b, x < 256) (hl : b.length < 400000)
    (hK : ∀ hp' nx' d', Al hp nx hp' nx' → Own hp' d' (pack itemL b) → Rng nx nx' d' → K d' hp' nx') : KW (kN (k + 7)) (.fn 41) [d] hp nx K := by
  refine kn_1 (relW_n (by decide)) t41 (Nat.le_of_ble_eq_true rfl) fun es e1 e2 he => ?_
  have a0 : rawE es (.t .o) = d := he 0 _ rfl
  unfold r41
  simp only [↓ew_s, ↓ew_n, ↓sw_q, ↓sw_m1, ↓sw_z, ↓then_n, xw_some, mk1_eq, List.map_cons, List.map_nil, rw_put, rw_other, n_c, hp_put, nx_put, ne_eq, reduceCtorEq, not_false_eq_true, ↓z_call, a0]
  refine kws (kn_copies (k + 5) _ _ _ d b (e1 ▸ hs) (e2 ▸ ho) fun hp1 hI1 hk1 => ?_)
  rw [e2] at hI1
  rw [e1, e2] at hk1
  simp only [↓sw_q, List.map_cons, List.map_nil, rw_put, n_mk, sl_put, ↓z_call, e2]
  have hWR : ∀ id ∈ DV.refsL [.pt nx 0, .pt (nx + 3) 0, .pt (nx + 2) 0, .pt (nx + 4) 0], id = nx ∨ id = nx + 3 ∨ id = nx + 2 ∨ id = nx + 4 := fun id hid => by simpa [DV.refs, DV.refsL] using hid
  refine kws (kn_ppack (k + 5) _ [.pt nx 0, .pt (nx + 3) 0, .pt (nx + 2) 0, .pt (nx + 4) 0] itemL b (fun j => PrivL (nx + 3) (nx + 1) [] j) (fun j => j = nx ∨ j = nx + 2 ∨ j = nx + 4 ∨ j ∈ d.refs) hp1 (nx + 5) _ (fun id hid => ?_) (fun j hj => ?_) (fun id hid => ?_) ?_ fun hp' nx' d' h1 h2 h3 h4 => ?_)
  · rcases hWR id hid with h | h | h | h <;> subst h
    · rw [hI1.gb]; rfl
    · rw [hI1.gn]; rfl
    · rw [hI1.gm]; rfl
    · rw [hI1.gk]; rfl
  · rcases hj with hj | hj | hj | hj | hj
    · exact hI1.plt hj
    · omega
    · omega
    · omega
    · have := ho j hj; omega
  · rcases hWR id hid with h | h | h | h
    · exact .inr (.inl h)
    · exact .inl (.inl h)
    · exact .inr (.inr (.inl h))
    · exact .inr (.inr (.inr (.inl h)))
  · intro hp2 nx2 K2 sl L bo bh d2 hnx2 hJ hR hK2
    refine kn_copies2 k hp2 nx2 K2 sl L bo bh nx (nx + 3) (nx + 2) (nx + 4) (nx + 1) d2 d b hJ (hI1.keep hnx2 fun j hj => (hR j ?_).2) (fun j hj => (hR j (.inl hj)).1) (fun j hm => ⟨fun e => ?_, fun e => ?_, fun e => ?_, fun e => ?_⟩) hb hl fun hp' nx' d' h1 h2 h3 h4 => hK2 hp' nx' d' h1 h2 h3 h4
    · rcases hj with h | h | h | h | h
      · exact .inr (.inl h)
      · exact .inr (.inr (.inr (.inr h)))
      · exact .inr (.inr (.inl h))
      · exact .inr (.inr (.inr (.inl h)))
      · exact .inl h
    · exact (hR j (.inr (.inl e))).1 hm
    · exact (hR j (.inr (.inr (.inl e)))).1 hm
    · exact (hR j (.inr (.inr (.inr (.inl e))))).1 hm
    · exact (hR j (.inr (.inr (.inr (.inr e))))).1 hm
  · simp only [eq_self, ↓ew_e, ↓sw_q, ↓sw_m1, ↓sw_z, ↓then_n, xw_some, mk1_eq, rw_put, n_mk, sl_put, reduceCtorEq, true_and, or_true, p2, h3.src.live]
    refine hK _ _ _ ⟨by omega, fun j hj => ?_⟩ h3 (h4.mono (by omega) (Nat.le_refl _))
    rw [h2 j (by omega) (fun h => ?_), hk1 j hj]
    rcases h with h | h | ⟨key, h⟩
    · omega
    · omega
    · cases h
end Go.DD
