/- Chapter 03: Pack. Conditions: those that each theorem states. -/
import Derived.Test.YtpaggdhijeabnaaGreatDoorMm
namespace Go.DD
open Go Go.Proofs

theorem kn_pp (k : Nat) (hp : Tr DObj) (nx : Nat) (K : DV → Tr DObj → Nat → Prop) (d : DV) (b : List Nat) (hs : Src hp d b) (hkn : Kn d b) (ho : Old nx d) (hl : b.length < 2000000000)
    (hK : ∀ hp' nx' d', Al hp nx hp' nx' → Res hp' d' b → Kn d' b → Rng nx nx' d' → K d' hp' nx') : KW (kN (k + 2)) (.fn 32) [d] hp nx K := by
  refine kn_1 (relW_n (by decide)) t32 (Nat.le_of_ble_eq_true rfl) fun es e1 e2 he => ?_
  have a0 : rawE es (.t .o) = d := he 0 _ rfl
  unfold r32
  simp only [↓ew_s, ↓ew_n, ↓sw_q, ↓sw_m1, ↓sw_z, ↓then_n, xw_some, mk1_eq, List.map_cons, List.map_nil, rw_put, rw_other, n_c, hp_put, nx_put, ne_eq, reduceCtorEq, not_false_eq_true, ↓z_call, a0]
  refine kws (kn_clone k _ _ _ d b (e1 ▸ hs) (e2 ▸ ho) hkn hl fun hp' nx' d' h1 h2 h3 h4 => ?_)
  rw [e1, e2] at h1
  rw [e2] at h4
  simp only [eq_self, ↓ew_e, ↓sw_q, ↓sw_m1, ↓sw_z, ↓then_n, xw_some, mk1_eq, rw_put, n_mk, sl_put, reduceCtorEq, true_and, or_true, p2, h2.src.live]
  exact hK _ _ _ h1 h2 h3 h4
theorem kn_packN (k : Nat) (hp : Tr DObj) (nx : Nat) (K : DV → Tr DObj → Nat → Prop) (c : Int) (d : DV) (hc : codC c = [.v .nilFunc, .v .nilFunc])
    (hK : ∀ hp' nx', Al hp nx hp' nx' → K (.tup [nilS, iv 2]) hp' nx') : KW (kN (k + 2)) (.fn 10) [iv c, d] hp nx K := by
  refine kn_2 (relW_n (by decide)) t10 (Nat.le_of_ble_eq_true rfl) fun es e1 e2 he => ?_
  have a0 : rawE es (.t .o) = iv c := he 0 _ rfl
  have a1 : rawE es (.t (.l .o)) = d := he 1 _ rfl
  unfold r10
  simp only [↓ew_s, ↓ew_n, ↓sw_q, ↓sw_m1, ↓sw_z, ↓then_n, xw_some, mk1_eq, List.map_cons, List.map_nil, rw_put, rw_other, n_c, hp_put, nx_put, ne_eq, reduceCtorEq, not_false_eq_true, ↓z_call, a0]
  refine kws (kn_codecs k _ _ _ c fun hp1 nx1 hal1 => ?_)
  rw [hc]
  rw [e1, e2] at hal1
  simp only [↓sw_q, sl_put, ↓z_al]
  refine sws_al fun hp2 hg2 hk2 => ?_
  simp only [ne_eq] at hg2 hk2
  simp only [↓sw_q, sl_put, ↓z_st]
  refine sw_sta (n := 2) (id := nx1) (ds := [.v .nilFunc, .v .nilFunc]) (by simp only [rw_put, n_mk]) hg2 (by simp only [evt, rw_put, rw_other, n_mk, ne_eq, reduceCtorEq, not_false_eq_true, Pa.r.injEq]; exact live_nil rfl) rfl rfl fun hp3 hg3 hk3 => ?_
  simp only [ne_eq] at hg3 hk3
  have hld : ldD hp3 none (.pt nx1 0) = some (.v .nilFunc) := by rw [ld_p hg3]; rfl
  have hfa : faD hp3 0 (.pt nx1 0) = some (.pt nx1 0) := fa_p hg3
  simp only [put_n, ↓ew_s, ↓ew_n, ↓ew_b, ↓sw_q, ↓sw_z, ↓sw_x, ↓then_n, xw_some, x_ld, x_fa, rw_put, n_mk, sl_put, ↓z_nil, hfa, hld]
  refine sws_nil true (by simp only [n_ev, rw_put, n_mk, p11]; rfl) rfl ?_
  simp only [eq_self, ↓ew_s, ↓ew_n, ↓ew_e, ↓ew_c', ↓sw_q, ↓sw_m1, ↓sw_z, ↓then_n, ↓then_r, ↓blk_r, xw_some, cw_t, mk1_eq, rw_put, rw_other, n_c, n_mk, sl_put, live_v, ne_eq, reduceCtorEq, not_false_eq_true, true_and, or_true, Bool.not_false, p4, p5, Bool.bne_true]
  refine hK _ _ ⟨by have := hal1.le; omega, fun j hj => ?_⟩
  have := hal1.le
  rw [hk3 j (by omega), hk2 j (by omega)]
  exact hal1.same j hj
theorem kn_packF (k : Nat) (hp : Tr DObj) (nx : Nat) (K : DV → Tr DObj → Nat → Prop) (c : Int) (d : DV) (b r : List Nat) (f g : Nat) (P : DV → Prop) (hc : codC c = [fnv f, fnv g]) (hs : Src hp d b) (ho : Old nx d) (hl : b.length < 400000)
    (hcall : ∀ hp nx (K : DV → Tr DObj → Nat → Prop), Src hp d b → Old nx d → (∀ hp' nx' d', Al hp nx hp' nx' → Res hp' d' r → P d' → Rng nx nx' d' → K d' hp' nx') → KW (kN (k + 7)) (.fn f) [d] hp nx K)
    (hK : ∀ hp' nx' d', Al hp nx hp' nx' → Res hp' d' r → P d' → Rng nx nx' d' → K (.tup [d', iv 0]) hp' nx') : KW (kN (k + 8)) (.fn 10) [iv c, d] hp nx K := by
  refine kn_2 (relW_n (by decide)) t10 (Nat.le_of_ble_eq_true rfl) fun es e1 e2 he => ?_
  have a0 : rawE es (.t .o) = iv c := he 0 _ rfl
  have a1 : rawE es (.t (.l .o)) = d := he 1 _ rfl
  unfold r10
  simp only [↓ew_s, ↓ew_n, ↓sw_q, ↓sw_m1, ↓sw_z, ↓then_n, xw_some, mk1_eq, List.map_cons, List.map_nil, rw_put, rw_other, n_c, hp_put, nx_put, ne_eq, reduceCtorEq, not_false_eq_true, ↓z_call, a0]
  refine kws (kn_codecs (k + 6) _ _ _ c fun hp1 nx1 hal1 => ?_)
  rw [hc]
  rw [e1, e2] at hal1
  simp only [↓sw_q, sl_put, ↓z_al]
  refine sws_al fun hp2 hg2 hk2 => ?_
  simp only [ne_eq] at hg2 hk2
  simp only [↓sw_q, sl_put, ↓z_st]
  refine sw_sta (n := 2) (id := nx1) (ds := [fnv f, fnv g]) (by simp only [rw_put, n_mk]) hg2 (by simp only [evt, rw_put, rw_other, n_mk, ne_eq, reduceCtorEq, not_false_eq_true, Pa.r.injEq]; exact live_nil rfl) rfl rfl fun hp3 hg3 hk3 => ?_
  simp only [ne_eq] at hg3 hk3
  have hld : ldD hp3 none (.pt nx1 0) = some (fnv f) := by rw [ld_p hg3]; rfl
  have hfa : faD hp3 0 (.pt nx1 0) = some (.pt nx1 0) := fa_p hg3
  have hal3 : Al hp nx hp3 (nx1 + 1) := ⟨by have := hal1.le; omega, fun j hj => by
    have := hal1.le
    rw [hk3 j (by omega), hk2 j (by omega)]
    exact hal1.same j hj⟩
  have hs3 : Src hp3 d b := hs.al ho hal3
  have hlen : ¬ (1048576 : Int) < (b.length : Int) := by omega
  simp only [put_n, ↓ew_s, ↓ew_n, ↓ew_b, ↓sw_q, ↓sw_z, ↓sw_x, ↓then_n, xw_some, x_ld, x_fa, rw_put, n_mk, sl_put, ↓z_nil, hfa, hld]
  refine sws_nil false (by simp only [n_ev, rw_put, n_mk, p11]; rw [show liveE hp3 (fnv f) = fnv f from live_nil rfl]; rfl) rfl ?_
  simp only [↓ew_s, ↓ew_n, ↓ew_e, ↓ew_c', ↓sw_q, ↓sw_m1, ↓sw_z, ↓sw_x, ↓then_n, ↓blk_n, xw_some, cw_f, mk1_eq, x_len, x_ld, x_fa, rw_put, rw_other, n_c, n_mk, sl_put, x_bin, ne_eq, reduceCtorEq, not_false_eq_true, gt_iff_lt, decide_false, Pa.l.injEq, Pa.r.injEq, ↓z_cv, Bool.xor_false, a1, hs3.len, b_gtr, hlen, hfa, hld]
  refine sws_f (f := f) (fs := []) (cs := []) (by rw [evt]; simp only [rw_put, rw_other, n_mk, ne_eq, reduceCtorEq, not_false_eq_true]; exact live_nil rfl) ?_
  simp only [List.map_cons, List.map_nil, List.nil_append, List.append_nil, rw_put, n_mk, sl_put]
  refine hcall _ _ _ hs3 (ho.mono hal3.le) fun hp4 nx4 d4 h1 h2 h3 h4 => ?_
  simp only [eq_self, ↓ew_e, ↓sw_q, ↓sw_m1, ↓sw_z, ↓then_n, xw_some, mk1_eq, rw_put, rw_other, n_c, n_mk, sl_put, live_v, ne_eq, reduceCtorEq, not_false_eq_true, true_and, or_true, p4, p5, h2.src.live]
  exact hK _ _ _ (hal3.trans h1) h2 h3 (h4.mono hal3.le (Nat.le_refl _))
theorem kn_pack (k : Nat) (hp : Tr DObj) (nx : Nat) (K : DV → Tr DObj → Nat → Prop) (c : Int) (d : DV) (b : List Nat) (hs : Src hp d b) (hkn : Kn d b) (ho : Old nx d) (hb : ∀ x ∈ b, x < 256) (hl : b.length < 400000)
    (hK : ∀ hp' nx' d', Al hp nx hp' nx' → Res hp' d' (packC c b) → (c = 1 → Kn d' b) → Rng nx nx' d' → K (.tup [d', iv (packE c)]) hp' nx') : KW (kN (k + 8)) (.fn 10) [iv c, d] hp nx K := by
  unfold packC packE at hK
  by_cases hc : c < 1 ∨ 3 < c
  · rw [if_pos hc, if_pos hc] at hK
    exact kn_packN (k + 6) hp nx K c d (by unfold codC; rw [if_neg (by omega), if_neg (by omega), if_neg (by omega)]) fun hp' nx' h1 => hK hp' nx' nilS h1 (.inl .nil) (fun h => by omega) (Rng.nil _ _)
  · rw [if_neg hc, if_neg hc] at hK
    by_cases h1 : c = 1
    · rw [if_pos h1] at hK
      exact kn_packF k hp nx K c d b b 32 33 (fun d' => Kn d' b) (by unfold codC; rw [if_pos h1]) hs ho hl (fun hp nx K h2 h3 h4 => kn_pp (k + 5) hp nx K d b h2 hkn h3 (by omega) h4) fun hp' nx' d' h2 h3 h4 h5 => hK hp' nx' d' h2 h3 (fun _ => h4) h5
    · rw [if_neg h1] at hK
      by_cases h2 : c = 2
      · rw [if_pos h2] at hK
        exact kn_packF k hp nx K c d b (pack itemR b) 35 38 (fun _ => True) (by unfold codC; rw [if_neg h1, if_pos h2]) hs ho hl (fun hp nx K h2 h3 h4 => kn_pr (k + 3) hp nx K d b h2 h3 hl fun hp' nx' d' g1 g2 g3 => h4 hp' nx' d' g1 (.inl g2) trivial g3) fun hp' nx' d' h2 h3 h4 h5 => hK hp' nx' d' h2 h3 (fun h => absurd h h1) h5
      · rw [if_neg h2] at hK
        exact kn_packF k hp nx K c d b (pack itemL b) 41 43 (fun _ => True) (by unfold codC; rw [if_neg h1, if_neg h2, if_pos (by omega)]) hs ho hl (fun hp nx K h2 h3 h4 => kn_pl k hp nx K d b h2 h3 hb hl fun hp' nx' d' g1 g2 g3 => h4 hp' nx' d' g1 (.inl g2) trivial g3) fun hp' nx' d' h2 h3 h4 h5 => hK hp' nx' d' h2 h3 (fun h => absurd h h1) h5
end Go.DD

/- Chapter 03: ChunkPacks returns true: as a contract. Conditions: the package's variable half holds what the text lays. -/
namespace Go.DD
open Go Go.Proofs

theorem kn_works (k : Nat) (hp : Tr DObj) (nx : Nat) (K : DV → Tr DObj → Nat → Prop) (h : K (.v (.bool true)) hp nx) : KW (kN (k + 1)) (.fn 7) [] hp nx K := kn_rel (d := .v (.bool true)) rfl h
theorem b_xor8 (a : Nat) : ∃ n : Nat, binD .xor (.v (.int .u8 (a : Int))) (.v (.int .u8 255)) = some (.v (.int .u8 (n : Int))) := by
  refine ⟨(IntKind.u8.wrap (((BitVec.ofInt 8 (a : Int) ^^^ BitVec.ofInt 8 255).toNat : Nat) : Int)).toNat, ?_⟩
  have h : 0 ≤ IntKind.u8.wrap (((BitVec.ofInt 8 (a : Int) ^^^ BitVec.ofInt 8 255).toNat : Nat) : Int) := by
    rw [IntWalk.u8_in _ (by have := (BitVec.ofInt 8 (a : Int) ^^^ BitVec.ofInt 8 255).isLt; omega)]; omega
  rw [Int.toNat_of_nonneg h]
  rfl
theorem Res.at {hp : Tr DObj} {d : DV} {l : List Nat} (h : Res hp d l) {i : Nat} (hi : i < l.length) : ∃ id, d = .ms id 0 l.length 1 ∧ hp.get id = some (.row 5 (l.map ub)) := by
  rcases h with h | ⟨_, rfl⟩
  · exact h.at hi
  · simp at hi
theorem kn_flip (k : Nat) (es : ES) (Q : Exit → ES → Prop) (p : DV) (l : List Nat) (r6 : rawE es (.t (.r (.r .o))) = p) (r10 : rawE es (.t (.r (.r (.l .o)))) = iv 0) (hr : Res es.hp p l) (hl : l.length < 900000)
    (hQ : ∀ es' l', l'.length = l.length → Res es'.hp p l' → es'.nx = es.nx → (∀ j, j ∉ p.refs → es'.hp.get j = es.hp.get j) → rawE es' (.t .o) = rawE es (.t .o) → rawE es' (.t (.l .o)) = rawE es (.t (.l .o)) → rawE es' (.t (.l (.r .o))) = rawE es (.t (.l (.r .o))) → rawE es' (.t (.r (.r .o))) = p → rawE es' (.t (.l (.l (.l .o)))) = rawE es (.t (.l (.l (.l .o)))) → rawE es' (.t (.r (.l (.l .o)))) = rawE es (.t (.r (.l (.l .o)))) → rawE es' (.t (.l (.r (.l .o)))) = rawE es (.t (.l (.r (.l .o)))) → Q (.exit 0) es') :
    EW (cL 1000000 l4_1) (kN k) es Q := by
  refine EW.l (I := fun m es1 => ∃ i l1, m = l.length - i ∧ i ≤ l.length ∧ l1.length = l.length ∧ Res es1.hp p l1 ∧ es1.nx = es.nx ∧ (∀ j, j ∉ p.refs → es1.hp.get j = es.hp.get j) ∧ rawE es1 (.t .o) = rawE es (.t .o) ∧ rawE es1 (.t (.l .o)) = rawE es (.t (.l .o)) ∧ rawE es1 (.t (.l (.r .o))) = rawE es (.t (.l (.r .o))) ∧ rawE es1 (.t (.r (.r .o))) = p ∧ rawE es1 (.t (.l (.l (.l .o)))) = rawE es (.t (.l (.l (.l .o)))) ∧ rawE es1 (.t (.r (.l (.l .o)))) = rawE es (.t (.r (.l (.l .o)))) ∧ rawE es1 (.t (.l (.r (.l .o)))) = rawE es (.t (.l (.r (.l .o)))) ∧ rawE es1 (.t (.r (.r (.l .o)))) = iv (i : Nat)) ?_ l.length 1000000 _ ⟨0, l, rfl, Nat.zero_le _, rfl, hr, rfl, fun _ _ => rfl, rfl, rfl, rfl, r6, rfl, rfl, rfl, r10⟩ (by omega)
  rintro m es1 ⟨i, l1, rfl, hi, hl1, hr1, hnx, hfr, q0, q1, q5, q6, q7, q8, q9, q10⟩
  unfold l4_1
  by_cases h1 : i < l1.length
  · obtain ⟨id, hd, hg⟩ := hr1.at h1
    obtain ⟨n, hn⟩ := b_xor8 (l1.getD i 0)
    have hadr : adr p i = .pt id (0 + i * 1) := by rw [hd]; rfl
    simp only [↓ew_s, ↓ew_n, ↓ew_e, ↓ew_c', ↓ew_b, ↓sw_q, ↓sw_m1, ↓sw_z, ↓sw_x, ↓then_n, xw_some, cw_t, mk1_eq, x_len, x_ia, x_ld, rw_put, rw_other, n_c, hp_put, x_bin, ne_eq, reduceCtorEq, not_false_eq_true, decide_true, Pa.l.injEq, Pa.r.injEq, ↓z_st, q6, q10, iv, ub, hr1.src.len, b_lssN, h1, hr1.src.ia h1, hr1.src.ld h1, hn]
    refine sw_sto (id := id) (off := 0 + i * 1) (v := ub n) (by simp only [rw_put, hadr]) hg (by simp only [evt, rw_put, rw_other, hp_put, ne_eq, reduceCtorEq, not_false_eq_true]; exact live_ub _ _) (ok_i _ _) (by rw [List.length_map]; omega) fun hp2 hg2 hk2 => ?_
    have hset : (l1.map ub).set (0 + i * 1) (ub n) = (l1.set i n).map ub := by rw [List.map_set]; congr 1; omega
    simp only [hp_put, ne_eq, hset] at hg2 hk2
    simp only [put_n, eq_self, ↓ew_n, ↓sw_q, ↓sw_m1, ↓sw_z, ↓sw_x, ↓then_n, ↓blk_n, xw_some, mk1_eq, rw_put, rw_other, n_c, n_mk, nx_put, sl_put, x_bin, ne_eq, reduceCtorEq, not_false_eq_true, true_and, Pa.l.injEq, Pa.r.injEq, q0, q1, q5, q6, q7, q8, q9, q10, iv, b_add1 (show i < _ by omega)]
    refine ⟨l.length - (i + 1), by omega, i + 1, l1.set i n, rfl, by omega, by simpa using hl1, .inl ?_, hnx, fun j hj => ?_, rfl⟩
    · rw [hd, show l1.length = (l1.set i n).length by simp]
      exact .ms id _ hg2
    · rw [hk2 j (fun e => hj (by rw [hd, e]; simp [DV.refs]))]
      exact hfr j hj
  · simp only [↓ew_s, ↓ew_n, ↓ew_e, ↓ew_c', ↓sw_q, ↓sw_m1, ↓sw_z, ↓sw_x, ↓then_n, ↓then_x, xw_some, cw_f, mk1_eq, x_len, rw_put, rw_other, hp_put, x_bin, ne_eq, reduceCtorEq, not_false_eq_true, decide_false, Pa.r.injEq, q6, q10, iv, hr1.src.len, b_lssN, h1]
    refine hQ _ l1 hl1 hr1 hnx hfr ?_ ?_ ?_ ?_ ?_ ?_ ?_ <;> simp only [rw_other, ne_eq, reduceCtorEq, not_false_eq_true, Pa.l.injEq, Pa.r.injEq] <;> assumption
end Go.DD

/- Chapter 03: ChunkPacks returns true: as a contract. Conditions: the package's variable half holds what the text lays. -/
namespace Go.DD
open Go Go.Proofs

theorem packC_len {c : Int} {b : List Nat} (hb : b.length ≤ 1048576) : (packC c b).length ≤ b.length + (b.length + 127) / 128 := by
  unfold packC
  split
  · simp
  · split
    · omega
    · split
      · exact (back hb (itemR_ok hb) (itemR_x b) (itemR_1 b)).2
      · exact (back hb (itemL_ok hb) (itemL_x b) (itemL_1 b)).2
theorem law_packs (c : Int) (b : List Nat) (hb : ∀ x ∈ b, x < 256) : Known Tryz.prog 4 [iv c, .sl (b.map ub) b.length] (.v (.bool true)) := by
  refine Known.run1 mixed te_ok (callN_ok (n := 1000000) mixed te_ok relW_ok 8) t4 (Nat.le_of_ble_eq_true rfl) (fun x hx => ?_) rfl (fun _ => rz_flat rfl) fun es he => ?_
  · simp only [List.mem_cons, List.mem_nil_iff, or_false] at hx
    rcases hx with rfl | rfl <;> rfl
  have a0 : rawE es (.t .o) = iv c := he 0 _ rfl
  have a1 : rawE es (.t (.l .o)) = .sl (b.map ub) b.length := he 1 _ rfl
  have hs : ∀ hp : Tr DObj, Src hp (.sl (b.map ub) b.length) b := fun hp => .sl b
  have hkn : Kn (.sl (b.map ub) b.length) b := by
    cases b with
    | nil => exact .inr (.inr rfl)
    | cons x l => exact .inl (by simp)
  have ho : ∀ n, Old n (.sl (b.map ub) b.length) := fun n id h => by cases h
  have hlen : ∀ hp : Tr DObj, lenD hp (.sl (b.map ub) b.length) = some (.v (.int .i64 (b.length : Int))) := fun hp => (hs hp).len
  generalize (DV.sl (b.map ub) b.length) = d at a1 hs hkn ho hlen
  unfold r4
  have e0 : binD .gtr (.v (.int .i64 (b.length : Int))) (.v (.int .i64 1000)) = some (.v (.bool (decide (1000 < b.length)))) := b_gtrL 1000 rfl
  by_cases h1 : 1000 < b.length
  · simp only [↓ew_s, ↓ew_n, ↓ew_c', ↓sw_q, ↓sw_m1, ↓sw_z, ↓sw_x, ↓then_n, xw_some, cw_t, mk1_eq, x_len, List.map_nil, rw_put, rw_other, n_c, hp_put, nx_put, x_bin, ne_eq, reduceCtorEq, not_false_eq_true, decide_true, ↓z_call, a1, hlen, e0, h1]
    refine kws (kn_works 7 _ _ _ ?_)
    simp only [eq_self, ↓ew_e, ↓sw_q, ↓sw_m1, ↓sw_z, ↓then_n, ↓then_r, xw_some, mk1_eq, rw_put, n_mk, sl_put, reduceCtorEq, or_true, and_self, p4]
  · simp only [↓ew_s, ↓ew_n, ↓ew_e, ↓ew_c', ↓sw_q, ↓sw_m1, ↓sw_z, ↓sw_x, ↓then_n, xw_some, cw_f, mk1_eq, x_len, rw_put, rw_other, n_c, hp_put, x_bin, ne_eq, reduceCtorEq, not_false_eq_true, decide_false, ↓z_bsl, a1, hlen, e0, h1]
    refine sw_bsl (n := 0) (z := [.int .u8 0]) (ps := []) (l := []) rfl rfl rfl fun hp1 hg1 hk1 => ?_
    simp only [hp_put, nx_put, ne_eq] at hg1 hk1
    simp only [↓sw_q, ↓sw_m1, xw_some, mk1_eq, rw_other, n_mk, nx_put, sl_put, ne_eq, reduceCtorEq, not_false_eq_true, Pa.l.injEq, ↓z_app, a1]
    refine sw_app (d := .ms es.nx 0 0 1) (d2 := d) (l := []) (m := b) (by simp only [rw_put, rw_other, n_mk, ne_eq, reduceCtorEq, not_false_eq_true, p17]; rfl) (.ms es.nx [] hg1) (by simp only [rw_put, n_mk, p18]) (hs _) (by simp; omega) (by decide) fun hp2 hg2 hk2 => ?_
    simp only [ne_eq, List.nil_append] at hg2 hk2
    simp only [↓ew_s, ↓ew_n, ↓sw_q, ↓sw_m1, ↓sw_z, ↓then_n, xw_some, mk1_eq, List.map_cons, List.map_nil, rw_put, rw_other, n_mk, sl_put, ne_eq, reduceCtorEq, not_false_eq_true, Pa.l.injEq, ↓z_call, a0, a1, List.nil_append]
    refine kws (kn_pack 0 _ _ _ c d b (hs _) hkn (ho _) hb (by omega) fun hp3 nx3 p hal3 hrp _ hgp => ?_)
    have hpl := packC_len (c := c) (b := b) (by omega)
    have ha2 : es.nx + 1 + 1 ≤ nx3 := hal3.le
    have x0 : extD hp3 (.tup [p, iv (packE c)]) 0 = some p := ext20 hrp.src
    have x1 : extD hp3 (.tup [p, iv (packE c)]) 1 = some (iv (packE c)) := ext21
    have hw3 : Own hp3 (.ms (es.nx + 1) 0 b.length 1) b := (Own.ms (es.nx + 1) b hg2).keep fun id hid => hal3.same id (by
      have : id = es.nx + 1 := by simpa [DV.refs] using hid
      show id < es.nx + 1 + 1
      omega)
    simp only [↓ew_s, ↓ew_n, ↓sw_q, ↓sw_m1, ↓sw_z, ↓sw_x, ↓then_n, xw_some, mk1_eq, List.map_cons, List.map_nil, rw_put, rw_other, n_mk, sl_put, ne_eq, reduceCtorEq, not_false_eq_true, Pa.l.injEq, Pa.r.injEq, ↓z_call, x_xe, a0, x0, x1]
    refine kws (kn_rpack 4 _ _ _ (.ms (es.nx + 1) 0 b.length 1) c b hw3.src (fun id hid => ?_) (by omega) fun hp4 nx4 q hal4 hq hgq => ?_)
    · have : id = es.nx + 1 := by simpa [DV.refs] using hid
      show id < nx3
      omega
    have y0 : extD hp4 (.tup [q, iv (packE c)]) 0 = some q := ext20 hq.src
    have y1 : extD hp4 (.tup [q, iv (packE c)]) 1 = some (iv (packE c)) := ext21
    have ha4 : nx3 ≤ nx4 := hal4.le
    simp only [↓ew_s, ↓ew_n, ↓ew_b, ↓sw_q, ↓sw_m1, ↓sw_z, ↓sw_x, ↓then_n, xw_some, mk1_eq, rw_put, rw_other, n_c, n_mk, sl_put, ne_eq, reduceCtorEq, not_false_eq_true, Pa.r.injEq, ↓z_l, x_xe, y0, y1]
    have hrp4 : Res hp4 p (packC c b) := by
      rcases hrp with h | h
      · exact .inl (h.keep fun id hid => hal4.same id (hgp id hid).2)
      · exact .inr h
    refine kn_flip 8 _ _ p (packC c b) (by simp only [rw_put, rw_other, n_mk, ne_eq, reduceCtorEq, not_false_eq_true, Pa.r.injEq]) (by simp only [rw_put, n_mk]; rfl) hrp4 (by omega) fun es5 l5 hl5 hr5 hnx5 hfr5 q0 q1 q5 q6 q7 q8 q9 => ?_
    simp only [rw_put, rw_other, n_mk, ne_eq, reduceCtorEq, not_false_eq_true, Pa.l.injEq, Pa.r.injEq, a0, a1] at q0 q1 q5 q7 q8 q9 hnx5 hfr5
    have hw5 : Own es5.hp (.ms (es.nx + 1) 0 b.length 1) b := hw3.keep fun id hid => by
      have hid' : id = es.nx + 1 := by simpa [DV.refs] using hid
      rw [hfr5 id fun h => (by have h2 : es.nx + 1 + 1 ≤ id := (hgp id h).1; omega), hal4.same id (by omega)]
    have hq5 : Own es5.hp q (packC c b) := hq.keep fun id hid => hfr5 id fun h => by
      have h1 := (hgq id hid).1
      have h2 := (hgp id h).2
      omega
    simp only [↓ew_s, ↓ew_n, ↓sw_q, ↓sw_m1, ↓then_n, ↓blk_x, xw_some, mk1_eq, List.map_cons, List.map_nil, rw_put, rw_other, hp_put, nx_put, ne_eq, reduceCtorEq, not_false_eq_true, Pa.l.injEq, ↓z_call, q0, q1]
    refine kws (kn_pack 0 _ _ _ c d b (hs _) hkn (ho _) hb (by omega) fun hp6 nx6 r hal6 hrr _ hgr => ?_)
    have z0 : extD hp6 (.tup [r, iv (packE c)]) 0 = some r := ext20 hrr.src
    have z1 : extD hp6 (.tup [r, iv (packE c)]) 1 = some (iv (packE c)) := ext21
    have hw6 : Src hp6 (.ms (es.nx + 1) 0 b.length 1) b := (hw5.keep fun id hid => hal6.same id (by
      have : id = es.nx + 1 := by simpa [DV.refs] using hid
      omega)).src
    have hq6 : Src hp6 q (packC c b) := (hq5.keep fun id hid => hal6.same id (by have := (hgq id hid).2; omega)).src
    have hr6 : lenD hp6 p = some (.v (.int .i64 ((packC c b).length : Int))) := by
      have h : Res hp6 p l5 := by
        rcases hr5 with h | h
        · exact .inl (h.keep fun id hid => hal6.same id (by have := (hgp id hid).2; omega))
        · exact .inr h
      rw [h.src.len, hl5]
    simp only [↓ew_s, ↓ew_n, ↓sw_q, ↓sw_m1, ↓sw_z, ↓sw_x, ↓then_n, xw_some, mk1_eq, rw_put, rw_other, n_mk, sl_put, ne_eq, reduceCtorEq, not_false_eq_true, Pa.l.injEq, Pa.r.injEq, ↓z_b2s, x_xe, q1, z0, z1]
    refine sws_b2s (d := d) (l := b) (by simp only [rw_put, n_mk, p52]) (hs _) ?_
    simp only [↓sw_q, ↓sw_m1, xw_some, mk1_eq, rw_other, n_mk, sl_put, ne_eq, reduceCtorEq, not_false_eq_true, Pa.l.injEq, Pa.r.injEq, ↓z_b2s, q5]
    refine sws_b2s (d := .ms (es.nx + 1) 0 b.length 1) (l := b) (by simp only [rw_put, n_mk, p54]) hw6 ?_
    simp only [↓sw_q, ↓sw_m1, ↓sw_x, ↓sw_g', gw_tt, xw_some, mk1_eq, rw_put, rw_other, n_mk, sl_put, x_bin, ne_eq, reduceCtorEq, not_false_eq_true, Pa.l.injEq, ↓z_b2s, b_eqlSS]
    refine sws_b2s (d := r) (l := packC c b) (by simp only [rw_put, n_mk, p58]) hrr.src ?_
    simp only [↓sw_q, ↓sw_m1, ↓sw_g', gw_tt, xw_some, mk1_eq, rw_put, rw_other, n_mk, sl_put, ne_eq, reduceCtorEq, not_false_eq_true, Pa.l.injEq, Pa.r.injEq, ↓z_b2s, q8]
    refine sws_b2s (d := q) (l := packC c b) (by simp only [rw_put, n_mk, p60]) hq6 ?_
    simp only [eq_self, ↓sw_q, ↓sw_m1, ↓sw_x, ↓sw_g', gw_tt, xw_some, mk1_eq, x_len, List.map_nil, rw_put, rw_other, n_c, n_mk, sl_put, x_bin, x_pick, pick_b, ne_eq, reduceCtorEq, not_false_eq_true, if_true, Pa.l.injEq, Pa.r.injEq, ↓z_call, q6, q7, q8, q9, b_eqlSS, hr6, hq6.len, iv, b_eql, beq_self_eq_true]
    refine kws (kn_works 7 _ _ _ ?_)
    simp only [eq_self, ↓ew_e, ↓sw_q, ↓sw_m1, ↓sw_z, ↓sw_x, ↓then_n, xw_some, mk1_eq, rw_put, rw_other, n_c, n_mk, sl_put, x_pick, pick_b, ne_eq, reduceCtorEq, not_false_eq_true, or_true, and_self, if_true, p4]
end Go.DD
