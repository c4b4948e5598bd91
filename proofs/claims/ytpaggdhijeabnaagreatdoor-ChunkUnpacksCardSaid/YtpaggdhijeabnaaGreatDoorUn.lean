/- Chapter 03: Pack. Conditions: those that each theorem states. -/
import Derived.Test.YtpaggdhijeabnaaGreatDoorUm
import Derived.Test.YtpaggdhijeabnaaGreatDoorUh
import Derived.Test.YtpaggdhijeabnaaGreatDoorUl
namespace Go.DD
open Go Go.Proofs

theorem kn_pp (k : Nat) (hp : Tr DObj) (nx : Nat) (K : DV → Tr DObj → Nat → Prop) (d : DV) (b : List Nat) (hs : Src hp d b) (hkn : Kn d b) (ho : Old nx d) (hl : b.length < 2000000000)
    (hK : ∀ hp' nx' d', Al hp nx hp' nx' → Res hp' d' b → Kn d' b → Rng nx nx' d' → K d' hp' nx') : KW (kN (k + 2)) (.fn 32) [d] hp nx K := by
  refine kn_1 (relW_n (by decide)) t32 (Nat.le_of_ble_eq_true rfl) fun es e1 e2 he => ?_
  have a0 : rawE es (.t .o) = d := he 0 _ rfl
  unfold r32
  simp only [↓ew_s, ↓ew_n, ↓sw_q, ↓sw_m1, ↓sw_z, ↓then_n, xw_some, mk1_eq, List.map_cons, List.map_nil, rw_put, rw_other, n_c, hp_put, nx_put, ne_eq, reduceCtorEq, not_false_eq_true, ↓z_call, a0]
  refine kws (kn_clone k _ _ _ d b (e1 ▸ hs) (e2 ▸ ho) hkn hl fun hp' nx' d' h1 h2 h3 h4 => ?_)
  rw [e1, e2] at h1
  rw [e2] at h4
  simp only [eq_self, ↓ew_e, ↓sw_q, ↓sw_m1, ↓sw_z, ↓then_n, xw_some, mk1_eq, rw_put, n_mk, sl_put, reduceCtorEq, true_and, or_true, p2, h2.src.live]
  exact hK _ _ _ h1 h2 h3 h4
theorem kn_packN (k : Nat) (hp : Tr DObj) (nx : Nat) (K : DV → Tr DObj → Nat → Prop) (c : Int) (d : DV) (hc : codC c = [.v .nilFunc, .v .nilFunc])
    (hK : ∀ hp' nx', Al hp nx hp' nx' → K (.tup [nilS, iv 2]) hp' nx') : KW (kN (k + 2)) (.fn 10) [iv c, d] hp nx K := by
  refine kn_2 (relW_n (by decide)) t10 (Nat.le_of_ble_eq_true rfl) fun es e1 e2 he => ?_
  have a0 : rawE es (.t .o) = iv c := he 0 _ rfl
  have a1 : rawE es (.t (.l .o)) = d := he 1 _ rfl
  unfold r10
  simp only [↓ew_s, ↓ew_n, ↓sw_q, ↓sw_m1, ↓sw_z, ↓then_n, xw_some, mk1_eq, List.map_cons, List.map_nil, rw_put, rw_other, n_c, hp_put, nx_put, ne_eq, reduceCtorEq, not_false_eq_true, ↓z_call, a0]
  refine kws (kn_codecs k _ _ _ c fun hp1 nx1 hal1 => ?_)
  rw [hc]
  rw [e1, e2] at hal1
  simp only [↓sw_q, sl_put, ↓z_al]
  refine sws_al fun hp2 hg2 hk2 => ?_
  simp only [ne_eq] at hg2 hk2
  simp only [↓sw_q, sl_put, ↓z_st]
  refine sw_sta (n := 2) (id := nx1) (ds := [.v .nilFunc, .v .nilFunc]) (by simp only [rw_put, n_mk]) hg2 (by simp only [evt, rw_put, rw_other, n_mk, ne_eq, reduceCtorEq, not_false_eq_true, Pa.r.injEq]; exact live_nil rfl) rfl rfl fun hp3 hg3 hk3 => ?_
  simp only [ne_eq] at hg3 hk3
  have hld : ldD hp3 none (.pt nx1 0) = some (.v .nilFunc) := by rw [ld_p hg3]; rfl
  have hfa : faD hp3 0 (.pt nx1 0) = some (.pt nx1 0) := fa_p hg3
  simp only [put_n, ↓ew_s, ↓ew_n, ↓ew_b, ↓sw_q, ↓sw_z, ↓sw_x, ↓then_n, xw_some, x_ld, x_fa, rw_put, n_mk, sl_put, ↓z_nil, hfa, hld]
  refine sws_nil true (by simp only [n_ev, rw_put, n_mk, p11]; rfl) rfl ?_
  simp only [eq_self, ↓ew_s, ↓ew_n, ↓ew_e, ↓ew_c', ↓sw_q, ↓sw_m1, ↓sw_z, ↓then_n, ↓then_r, ↓blk_r, xw_some, cw_t, mk1_eq, rw_put, rw_other, n_c, n_mk, sl_put, live_v, ne_eq, reduceCtorEq, not_false_eq_true, true_and, or_true, Bool.not_false, p4, p5, Bool.bne_true]
  refine hK _ _ ⟨by have := hal1.le; omega, fun j hj => ?_⟩
  have := hal1.le
  rw [hk3 j (by omega), hk2 j (by omega)]
  exact hal1.same j hj
theorem kn_packF (k : Nat) (hp : Tr DObj) (nx : Nat) (K : DV → Tr DObj → Nat → Prop) (c : Int) (d : DV) (b r : List Nat) (f g : Nat) (P : DV → Prop) (hc : codC c = [fnv f, fnv g]) (hs : Src hp d b) (ho : Old nx d) (hl : b.length < 400000)
    (hcall : ∀ hp nx (K : DV → Tr DObj → Nat → Prop), Src hp d b → Old nx d → (∀ hp' nx' d', Al hp nx hp' nx' → Res hp' d' r → P d' → Rng nx nx' d' → K d' hp' nx') → KW (kN (k + 7)) (.fn f) [d] hp nx K)
    (hK : ∀ hp' nx' d', Al hp nx hp' nx' → Res hp' d' r → P d' → Rng nx nx' d' → K (.tup [d', iv 0]) hp' nx') : KW (kN (k + 8)) (.fn 10) [iv c, d] hp nx K := by
  refine kn_2 (relW_n (by decide)) t10 (Nat.le_of_ble_eq_true rfl) fun es e1 e2 he => ?_
  have a0 : rawE es (.t .o) = iv c := he 0 _ rfl
  have a1 : rawE es (.t (.l .o)) = d := he 1 _ rfl
  unfold r10
  simp only [↓ew_s, ↓ew_n, ↓sw_q, ↓sw_m1, ↓sw_z, ↓then_n, xw_some, mk1_eq, List.map_cons, List.map_nil, rw_put, rw_other, n_c, hp_put, nx_put, ne_eq, reduceCtorEq, not_false_eq_true, ↓z_call, a0]
  refine kws (kn_codecs (k + 6) _ _ _ c fun hp1 nx1 hal1 => ?_)
  rw [hc]
  rw [e1, e2] at hal1
  simp only [↓sw_q, sl_put, ↓z_al]
  refine sws_al fun hp2 hg2 hk2 => ?_
  simp only [ne_eq] at hg2 hk2
  simp only [↓sw_q, sl_put, ↓z_st]
  refine sw_sta (n := 2) (id := nx1) (ds := [fnv f, fnv g]) (by simp only [rw_put, n_mk]) hg2 (by simp only [evt, rw_put, rw_other, n_mk, ne_eq, reduceCtorEq, not_false_eq_true, Pa.r.injEq]; exact live_nil rfl) rfl rfl fun hp3 hg3 hk3 => ?_
  simp only [ne_eq] at hg3 hk3
  have hld : ldD hp3 none (.pt nx1 0) = some (fnv f) := by rw [ld_p hg3]; rfl
  have hfa : faD hp3 0 (.pt nx1 0) = some (.pt nx1 0) := fa_p hg3
  have hal3 : Al hp nx hp3 (nx1 + 1) := ⟨by have := hal1.le; omega, fun j hj => by
    have := hal1.le
    rw [hk3 j (by omega), hk2 j (by omega)]
    exact hal1.same j hj⟩
  have hs3 : Src hp3 d b := hs.al ho hal3
  have hlen : ¬ (1048576 : Int) < (b.length : Int) := by omega
  simp only [put_n, ↓ew_s, ↓ew_n, ↓ew_b, ↓sw_q, ↓sw_z, ↓sw_x, ↓then_n, xw_some, x_ld, x_fa, rw_put, n_mk, sl_put, ↓z_nil, hfa, hld]
  refine sws_nil false (by simp only [n_ev, rw_put, n_mk, p11]; rw [show liveE hp3 (fnv f) = fnv f from live_nil rfl]; rfl) rfl ?_
  simp only [↓ew_s, ↓ew_n, ↓ew_e, ↓ew_c', ↓sw_q, ↓sw_m1, ↓sw_z, ↓sw_x, ↓then_n, ↓blk_n, xw_some, cw_f, mk1_eq, x_len, x_ld, x_fa, rw_put, rw_other, n_c, n_mk, sl_put, x_bin, ne_eq, reduceCtorEq, not_false_eq_true, gt_iff_lt, decide_false, Pa.l.injEq, Pa.r.injEq, ↓z_cv, Bool.xor_false, a1, hs3.len, b_gtr, hlen, hfa, hld]
  refine sws_f (f := f) (fs := []) (cs := []) (by rw [evt]; simp only [rw_put, rw_other, n_mk, ne_eq, reduceCtorEq, not_false_eq_true]; exact live_nil rfl) ?_
  simp only [List.map_cons, List.map_nil, List.nil_append, List.append_nil, rw_put, n_mk, sl_put]
  refine hcall _ _ _ hs3 (ho.mono hal3.le) fun hp4 nx4 d4 h1 h2 h3 h4 => ?_
  simp only [eq_self, ↓ew_e, ↓sw_q, ↓sw_m1, ↓sw_z, ↓then_n, xw_some, mk1_eq, rw_put, rw_other, n_c, n_mk, sl_put, live_v, ne_eq, reduceCtorEq, not_false_eq_true, true_and, or_true, p4, p5, h2.src.live]
  exact hK _ _ _ (hal3.trans h1) h2 h3 (h4.mono hal3.le (Nat.le_refl _))
theorem kn_pack (k : Nat) (hp : Tr DObj) (nx : Nat) (K : DV → Tr DObj → Nat → Prop) (c : Int) (d : DV) (b : List Nat) (hs : Src hp d b) (hkn : Kn d b) (ho : Old nx d) (hb : ∀ x ∈ b, x < 256) (hl : b.length < 400000)
    (hK : ∀ hp' nx' d', Al hp nx hp' nx' → Res hp' d' (packC c b) → (c = 1 → Kn d' b) → Rng nx nx' d' → K (.tup [d', iv (packE c)]) hp' nx') : KW (kN (k + 8)) (.fn 10) [iv c, d] hp nx K := by
  unfold packC packE at hK
  by_cases hc : c < 1 ∨ 3 < c
  · rw [if_pos hc, if_pos hc] at hK
    exact kn_packN (k + 6) hp nx K c d (by unfold codC; rw [if_neg (by omega), if_neg (by omega), if_neg (by omega)]) fun hp' nx' h1 => hK hp' nx' nilS h1 (.inl .nil) (fun h => by omega) (Rng.nil _ _)
  · rw [if_neg hc, if_neg hc] at hK
    by_cases h1 : c = 1
    · rw [if_pos h1] at hK
      exact kn_packF k hp nx K c d b b 32 33 (fun d' => Kn d' b) (by unfold codC; rw [if_pos h1]) hs ho hl (fun hp nx K h2 h3 h4 => kn_pp (k + 5) hp nx K d b h2 hkn h3 (by omega) h4) fun hp' nx' d' h2 h3 h4 h5 => hK hp' nx' d' h2 h3 (fun _ => h4) h5
    · rw [if_neg h1] at hK
      by_cases h2 : c = 2
      · rw [if_pos h2] at hK
        exact kn_packF k hp nx K c d b (pack itemR b) 35 38 (fun _ => True) (by unfold codC; rw [if_neg h1, if_pos h2]) hs ho hl (fun hp nx K h2 h3 h4 => kn_pr (k + 3) hp nx K d b h2 h3 hl fun hp' nx' d' g1 g2 g3 => h4 hp' nx' d' g1 (.inl g2) trivial g3) fun hp' nx' d' h2 h3 h4 h5 => hK hp' nx' d' h2 h3 (fun h => absurd h h1) h5
      · rw [if_neg h2] at hK
        exact kn_packF k hp nx K c d b (pack itemL b) 41 43 (fun _ => True) (by unfold codC; rw [if_neg h1, if_neg h2, if_pos (by omega)]) hs ho hl (fun hp nx K h2 h3 h4 => kn_pl k hp nx K d b h2 h3 hb hl fun hp' nx' d' g1 g2 g3 => h4 hp' nx' d' g1 (.inl g2) trivial g3) fun hp' nx' d' h2 h3 h4 h5 => hK hp' nx' d' h2 h3 (fun h => absurd h h1) h5
end Go.DD

/- Chapter 03: ChunkPacks returns true: as a contract. Conditions: the package's variable half holds what the text lays. -/
namespace Go.DD
open Go Go.Proofs

theorem kn_works (k : Nat) (hp : Tr DObj) (nx : Nat) (K : DV → Tr DObj → Nat → Prop) (h : K (.v (.bool true)) hp nx) : KW (kN (k + 1)) (.fn 7) [] hp nx K := kn_rel (d := .v (.bool true)) rfl h
theorem b_xor8 (a : Nat) : ∃ n : Nat, binD .xor (.v (.int .u8 (a : Int))) (.v (.int .u8 255)) = some (.v (.int .u8 (n : Int))) := by
  refine ⟨(IntKind.u8.wrap (((BitVec.ofInt 8 (a : Int) ^^^ BitVec.ofInt 8 255).toNat : Nat) : Int)).toNat, ?_⟩
  have h : 0 ≤ IntKind.u8.wrap (((BitVec.ofInt 8 (a : Int) ^^^ BitVec.ofInt 8 255).toNat : Nat) : Int) := by
    rw [IntWalk.u8_in _ (by have := (BitVec.ofInt 8 (a : Int) ^^^ BitVec.ofInt 8 255).isLt; omega)]; omega
  rw [Int.toNat_of_nonneg h]
  rfl
theorem Res.at {hp : Tr DObj} {d : DV} {l : List Nat} (h : Res hp d l) {i : Nat} (hi : i < l.length) : ∃ id, d = .ms id 0 l.length 1 ∧ hp.get id = some (.row 5 (l.map ub)) := by
  rcases h with h | ⟨_, rfl⟩
  · exact h.at hi
  · simp at hi
theorem kn_flip (k : Nat) (es : ES) (Q : Exit → ES → Prop) (p : DV) (l : List Nat) (r6 : rawE es (.t (.r (.r .o))) = p) (r10 : rawE es (.t (.r (.r (.l .o)))) = iv 0) (hr : Res es.hp p l) (hl : l.length < 900000)
    (hQ : ∀ es' l', l'.length = l.length → Res es'.hp p l' → es'.nx = es.nx → (∀ j, j ∉ p.refs → es'.hp.get j = es.hp.get j) → rawE es' (.t .o) = rawE es (.t .o) → rawE es' (.t (.l .o)) = rawE es (.t (.l .o)) → rawE es' (.t (.l (.r .o))) = rawE es (.t (.l (.r .o))) → rawE es' (.t (.r (.r .o))) = p → rawE es' (.t (.l (.l (.l .o)))) = rawE es (.t (.l (.l (.l .o)))) → rawE es' (.t (.r (.l (.l .o)))) = rawE es (.t (.r (.l (.l .o)))) → rawE es' (.t (.l (.r (.l .o)))) = rawE es (.t (.l (.r (.l .o)))) → Q (.exit 0) es') :
    EW (cL 1000000 l4_1) (kN k) es Q := by
  refine EW.l (I := fun m es1 => ∃ i l1, m = l.length - i ∧ i ≤ l.length ∧ l1.length = l.length ∧ Res es1.hp p l1 ∧ es1.nx = es.nx ∧ (∀ j, j ∉ p.refs → es1.hp.get j = es.hp.get j) ∧ rawE es1 (.t .o) = rawE es (.t .o) ∧ rawE es1 (.t (.l .o)) = rawE es (.t (.l .o)) ∧ rawE es1 (.t (.l (.r .o))) = rawE es (.t (.l (.r .o))) ∧ rawE es1 (.t (.r (.r .o))) = p ∧ rawE es1 (.t (.l (.l (.l .o)))) = rawE es (.t (.l (.l (.l .o)))) ∧ rawE es1 (.t (.r (.l (.l .o)))) = rawE es (.t (.r (.l (.l .o)))) ∧ rawE es1 (.t (.l (.r (.l .o)))) = rawE es (.t (.l (.r (.l .o)))) ∧ rawE es1 (.t (.r (.r (.l .o)))) = iv (i : Nat)) ?_ l.length 1000000 _ ⟨0, l, rfl, Nat.zero_le _, rfl, hr, rfl, fun _ _ => rfl, rfl, rfl, rfl, r6, rfl, rfl, rfl, r10⟩ (by omega)
  rintro m es1 ⟨i, l1, rfl, hi, hl1, hr1, hnx, hfr, q0, q1, q5, q6, q7, q8, q9, q10⟩
  unfold l4_1
  by_cases h1 : i < l1.length
  · obtain ⟨id, hd, hg⟩ := hr1.at h1
    obtain ⟨n, hn⟩ := b_xor8 (l1.getD i 0)
    have hadr : adr p i = .pt id (0 + i * 1) := by rw [hd]; rfl
    simp only [↓ew_s, ↓ew_n, ↓ew_e, ↓ew_c', ↓ew_b, ↓sw_q, ↓sw_m1, ↓sw_z, ↓sw_x, ↓then_n, xw_some, cw_t, mk1_eq, x_len, x_ia, x_ld, rw_put, rw_other, n_c, hp_put, x_bin, ne_eq, reduceCtorEq, not_false_eq_true, decide_true, Pa.l.injEq, Pa.r.injEq, ↓z_st, q6, q10, iv, ub, hr1.src.len, b_lssN, h1, hr1.src.ia h1, hr1.src.ld h1, hn]
    refine sw_sto (id := id) (off := 0 + i * 1) (v := ub n) (by simp only [rw_put, hadr]) hg (by simp only [evt, rw_put, rw_other, hp_put, ne_eq, reduceCtorEq, not_false_eq_true]; exact live_ub _ _) (ok_i _ _) (by rw [List.length_map]; omega) fun hp2 hg2 hk2 => ?_
    have hset : (l1.map ub).set (0 + i * 1) (ub n) = (l1.set i n).map ub := by rw [List.map_set]; congr 1; omega
    simp only [hp_put, ne_eq, hset] at hg2 hk2
    simp only [put_n, eq_self, ↓ew_n, ↓sw_q, ↓sw_m1, ↓sw_z, ↓sw_x, ↓then_n, ↓blk_n, xw_some, mk1_eq, rw_put, rw_other, n_c, n_mk, nx_put, sl_put, x_bin, ne_eq, reduceCtorEq, not_false_eq_true, true_and, Pa.l.injEq, Pa.r.injEq, q0, q1, q5, q6, q7, q8, q9, q10, iv, b_add1 (show i < _ by omega)]
    refine ⟨l.length - (i + 1), by omega, i + 1, l1.set i n, rfl, by omega, by simpa using hl1, .inl ?_, hnx, fun j hj => ?_, rfl⟩
    · rw [hd, show l1.length = (l1.set i n).length by simp]
      exact .ms id _ hg2
    · rw [hk2 j (fun e => hj (by rw [hd, e]; simp [DV.refs]))]
      exact hfr j hj
  · simp only [↓ew_s, ↓ew_n, ↓ew_e, ↓ew_c', ↓sw_q, ↓sw_m1, ↓sw_z, ↓sw_x, ↓then_n, ↓then_x, xw_some, cw_f, mk1_eq, x_len, rw_put, rw_other, hp_put, x_bin, ne_eq, reduceCtorEq, not_false_eq_true, decide_false, Pa.r.injEq, q6, q10, iv, hr1.src.len, b_lssN, h1]
    refine hQ _ l1 hl1 hr1 hnx hfr ?_ ?_ ?_ ?_ ?_ ?_ ?_ <;> simp only [rw_other, ne_eq, reduceCtorEq, not_false_eq_true, Pa.l.injEq, Pa.r.injEq] <;> assumption
end Go.DD

/- Chapter 03: ChunkPacks returns true: as a contract. Conditions: the package's variable half holds what the text lays. -/
namespace Go.DD
open Go Go.Proofs

theorem packC_len {c : Int} {b : List Nat} (hb : b.length ≤ 1048576) : (packC c b).length ≤ b.length + (b.length + 127) / 128 := by
  unfold packC
  split
  · simp
  · split
    · omega
    · split
      · exact (back hb (itemR_ok hb) (itemR_x b) (itemR_1 b)).2
      · exact (back hb (itemL_ok hb) (itemL_x b) (itemL_1 b)).2
theorem law_packs (c : Int) (b : List Nat) (hb : ∀ x ∈ b, x < 256) : Known Tryz.prog 4 [iv c, .sl (b.map ub) b.length] (.v (.bool true)) := by
  refine Known.run1 mixed te_ok (callN_ok (n := 1000000) mixed te_ok relW_ok 8) t4 (Nat.le_of_ble_eq_true rfl) (fun x hx => ?_) rfl (fun _ => rz_flat rfl) fun es he => ?_
  · simp only [List.mem_cons, List.mem_nil_iff, or_false] at hx
    rcases hx with rfl | rfl <;> rfl
  have a0 : rawE es (.t .o) = iv c := he 0 _ rfl
  have a1 : rawE es (.t (.l .o)) = .sl (b.map ub) b.length := he 1 _ rfl
  have hs : ∀ hp : Tr DObj, Src hp (.sl (b.map ub) b.length) b := fun hp => .sl b
  have hkn : Kn (.sl (b.map ub) b.length) b := by
    cases b with
    | nil => exact .inr (.inr rfl)
    | cons x l => exact .inl (by simp)
  have ho : ∀ n, Old n (.sl (b.map ub) b.length) := fun n id h => by cases h
  have hlen : ∀ hp : Tr DObj, lenD hp (.sl (b.map ub) b.length) = some (.v (.int .i64 (b.length : Int))) := fun hp => (hs hp).len
  generalize (DV.sl (b.map ub) b.length) = d at a1 hs hkn ho hlen
  unfold r4
  have e0 : binD .gtr (.v (.int .i64 (b.length : Int))) (.v (.int .i64 1000)) = some (.v (.bool (decide (1000 < b.length)))) := b_gtrL 1000 rfl
  by_cases h1 : 1000 < b.length
  · simp only [↓ew_s, ↓ew_n, ↓ew_c', ↓sw_q, ↓sw_m1, ↓sw_z, ↓sw_x, ↓then_n, xw_some, cw_t, mk1_eq, x_len, List.map_nil, rw_put, rw_other, n_c, hp_put, nx_put, x_bin, ne_eq, reduceCtorEq, not_false_eq_true, decide_true, ↓z_call, a1, hlen, e0, h1]
    refine kws (kn_works 7 _ _ _ ?_)
    simp only [eq_self, ↓ew_e, ↓sw_q, ↓sw_m1, ↓sw_z, ↓then_n, ↓then_r, xw_some, mk1_eq, rw_put, n_mk, sl_put, reduceCtorEq, or_true, and_self, p4]
  · simp only [↓ew_s, ↓ew_n, ↓ew_e, ↓ew_c', ↓sw_q, ↓sw_m1, ↓sw_z, ↓sw_x, ↓then_n, xw_some, cw_f, mk1_eq, x_len, rw_put, rw_other, n_c, hp_put, x_bin, ne_eq, reduceCtorEq, not_false_eq_true, decide_false, ↓z_bsl, a1, hlen, e0, h1]
    refine sw_bsl (n := 0) (z := [.int .u8 0]) (ps := []) (l := []) rfl rfl rfl fun hp1 hg1 hk1 => ?_
    simp only [hp_put, nx_put, ne_eq] at hg1 hk1
    simp only [↓sw_q, ↓sw_m1, xw_some, mk1_eq, rw_other, n_mk, nx_put, sl_put, ne_eq, reduceCtorEq, not_false_eq_true, Pa.l.injEq, ↓z_app, a1]
    refine sw_app (d := .ms es.nx 0 0 1) (d2 := d) (l := []) (m := b) (by simp only [rw_put, rw_other, n_mk, ne_eq, reduceCtorEq, not_false_eq_true, p17]; rfl) (.ms es.nx [] hg1) (by simp only [rw_put, n_mk, p18]) (hs _) (by simp; omega) (by decide) fun hp2 hg2 hk2 => ?_
    simp only [ne_eq, List.nil_append] at hg2 hk2
    simp only [↓ew_s, ↓ew_n, ↓sw_q, ↓sw_m1, ↓sw_z, ↓then_n, xw_some, mk1_eq, List.map_cons, List.map_nil, rw_put, rw_other, n_mk, sl_put, ne_eq, reduceCtorEq, not_false_eq_true, Pa.l.injEq, ↓z_call, a0, a1, List.nil_append]
    refine kws (kn_pack 0 _ _ _ c d b (hs _) hkn (ho _) hb (by omega) fun hp3 nx3 p hal3 hrp _ hgp => ?_)
    have hpl := packC_len (c := c) (b := b) (by omega)
    have ha2 : es.nx + 1 + 1 ≤ nx3 := hal3.le
    have x0 : extD hp3 (.tup [p, iv (packE c)]) 0 = some p := ext20 hrp.src
    have x1 : extD hp3 (.tup [p, iv (packE c)]) 1 = some (iv (packE c)) := ext21
    have hw3 : Own hp3 (.ms (es.nx + 1) 0 b.length 1) b := (Own.ms (es.nx + 1) b hg2).keep fun id hid => hal3.same id (by
      have : id = es.nx + 1 := by simpa [DV.refs] using hid
      show id < es.nx + 1 + 1
      omega)
    simp only [↓ew_s, ↓ew_n, ↓sw_q, ↓sw_m1, ↓sw_z, ↓sw_x, ↓then_n, xw_some, mk1_eq, List.map_cons, List.map_nil, rw_put, rw_other, n_mk, sl_put, ne_eq, reduceCtorEq, not_false_eq_true, Pa.l.injEq, Pa.r.injEq, ↓z_call, x_xe, a0, x0, x1]
    refine kws (kn_rpack 4 _ _ _ (.ms (es.nx + 1) 0 b.length 1) c b hw3.src (fun id hid => ?_) (by omega) fun hp4 nx4 q hal4 hq hgq => ?_)
    · have : id = es.nx + 1 := by simpa [DV.refs] using hid
      show id < nx3
      omega
    have y0 : extD hp4 (.tup [q, iv (packE c)]) 0 = some q := ext20 hq.src
    have y1 : extD hp4 (.tup [q, iv (packE c)]) 1 = some (iv (packE c)) := ext21
    have ha4 : nx3 ≤ nx4 := hal4.le
    simp only [↓ew_s, ↓ew_n, ↓ew_b, ↓sw_q, ↓sw_m1, ↓sw_z, ↓sw_x, ↓then_n, xw_some, mk1_eq, rw_put, rw_other, n_c, n_mk, sl_put, ne_eq, reduceCtorEq, not_false_eq_true, Pa.r.injEq, ↓z_l, x_xe, y0, y1]
    have hrp4 : Res hp4 p (packC c b) := by
      rcases hrp with h | h
      · exact .inl (h.keep fun id hid => hal4.same id (hgp id hid).2)
      · exact .inr h
    refine kn_flip 8 _ _ p (packC c b) (by simp only [rw_put, rw_other, n_mk, ne_eq, reduceCtorEq, not_false_eq_true, Pa.r.injEq]) (by simp only [rw_put, n_mk]; rfl) hrp4 (by omega) fun es5 l5 hl5 hr5 hnx5 hfr5 q0 q1 q5 q6 q7 q8 q9 => ?_
    simp only [rw_put, rw_other, n_mk, ne_eq, reduceCtorEq, not_false_eq_true, Pa.l.injEq, Pa.r.injEq, a0, a1] at q0 q1 q5 q7 q8 q9 hnx5 hfr5
    have hw5 : Own es5.hp (.ms (es.nx + 1) 0 b.length 1) b := hw3.keep fun id hid => by
      have hid' : id = es.nx + 1 := by simpa [DV.refs] using hid
      rw [hfr5 id fun h => (by have h2 : es.nx + 1 + 1 ≤ id := (hgp id h).1; omega), hal4.same id (by omega)]
    have hq5 : Own es5.hp q (packC c b) := hq.keep fun id hid => hfr5 id fun h => by
      have h1 := (hgq id hid).1
      have h2 := (hgp id h).2
      omega
    simp only [↓ew_s, ↓ew_n, ↓sw_q, ↓sw_m1, ↓then_n, ↓blk_x, xw_some, mk1_eq, List.map_cons, List.map_nil, rw_put, rw_other, hp_put, nx_put, ne_eq, reduceCtorEq, not_false_eq_true, Pa.l.injEq, ↓z_call, q0, q1]
    refine kws (kn_pack 0 _ _ _ c d b (hs _) hkn (ho _) hb (by omega) fun hp6 nx6 r hal6 hrr _ hgr => ?_)
    have z0 : extD hp6 (.tup [r, iv (packE c)]) 0 = some r := ext20 hrr.src
    have z1 : extD hp6 (.tup [r, iv (packE c)]) 1 = some (iv (packE c)) := ext21
    have hw6 : Src hp6 (.ms (es.nx + 1) 0 b.length 1) b := (hw5.keep fun id hid => hal6.same id (by
      have : id = es.nx + 1 := by simpa [DV.refs] using hid
      omega)).src
    have hq6 : Src hp6 q (packC c b) := (hq5.keep fun id hid => hal6.same id (by have := (hgq id hid).2; omega)).src
    have hr6 : lenD hp6 p = some (.v (.int .i64 ((packC c b).length : Int))) := by
      have h : Res hp6 p l5 := by
        rcases hr5 with h | h
        · exact .inl (h.keep fun id hid => hal6.same id (by have := (hgp id hid).2; omega))
        · exact .inr h
      rw [h.src.len, hl5]
    simp only [↓ew_s, ↓ew_n, ↓sw_q, ↓sw_m1, ↓sw_z, ↓sw_x, ↓then_n, xw_some, mk1_eq, rw_put, rw_other, n_mk, sl_put, ne_eq, reduceCtorEq, not_false_eq_true, Pa.l.injEq, Pa.r.injEq, ↓z_b2s, x_xe, q1, z0, z1]
    refine sws_b2s (d := d) (l := b) (by simp only [rw_put, n_mk, p52]) (hs _) ?_
    simp only [↓sw_q, ↓sw_m1, xw_some, mk1_eq, rw_other, n_mk, sl_put, ne_eq, reduceCtorEq, not_false_eq_true, Pa.l.injEq, Pa.r.injEq, ↓z_b2s, q5]
    refine sws_b2s (d := .ms (es.nx + 1) 0 b.length 1) (l := b) (by simp only [rw_put, n_mk, p54]) hw6 ?_
    simp only [↓sw_q, ↓sw_m1, ↓sw_x, ↓sw_g', gw_tt, xw_some, mk1_eq, rw_put, rw_other, n_mk, sl_put, x_bin, ne_eq, reduceCtorEq, not_false_eq_true, Pa.l.injEq, ↓z_b2s, b_eqlSS]
    refine sws_b2s (d := r) (l := packC c b) (by simp only [rw_put, n_mk, p58]) hrr.src ?_
    simp only [↓sw_q, ↓sw_m1, ↓sw_g', gw_tt, xw_some, mk1_eq, rw_put, rw_other, n_mk, sl_put, ne_eq, reduceCtorEq, not_false_eq_true, Pa.l.injEq, Pa.r.injEq, ↓z_b2s, q8]
    refine sws_b2s (d := q) (l := packC c b) (by simp only [rw_put, n_mk, p60]) hq6 ?_
    simp only [eq_self, ↓sw_q, ↓sw_m1, ↓sw_x, ↓sw_g', gw_tt, xw_some, mk1_eq, x_len, List.map_nil, rw_put, rw_other, n_c, n_mk, sl_put, x_bin, x_pick, pick_b, ne_eq, reduceCtorEq, not_false_eq_true, if_true, Pa.l.injEq, Pa.r.injEq, ↓z_call, q6, q7, q8, q9, b_eqlSS, hr6, hq6.len, iv, b_eql, beq_self_eq_true]
    refine kws (kn_works 7 _ _ _ ?_)
    simp only [eq_self, ↓ew_e, ↓sw_q, ↓sw_m1, ↓sw_z, ↓sw_x, ↓then_n, xw_some, mk1_eq, rw_put, rw_other, n_c, n_mk, sl_put, x_pick, pick_b, ne_eq, reduceCtorEq, not_false_eq_true, or_true, and_self, if_true, p4]
end Go.DD

/- Chapter 03: one byte, many times. Conditions: those that each theorem states. -/
namespace Go.DD
open Go Go.Proofs

def uq (n : Nat) : DV := .v (.int .u64 (n : Int))
theorem b_andM {n : Nat} (h : n < 4294967296) : binD .and (uq n) (.v (.int .u64 4294967295)) = some (uq n) := by
  show some (DV.v (.int .u64 (IntKind.u64.wrap (((BitVec.ofInt 64 (n : Int) &&& BitVec.ofInt 64 4294967295).toNat : Nat) : Int)))) = _
  have e : (BitVec.ofInt 64 (n : Int) &&& BitVec.ofInt 64 4294967295).toNat = n := by
    rw [BitVec.ofInt_natCast, show (4294967295 : Int) = ((4294967295 : Nat) : Int) from rfl, BitVec.ofInt_natCast, BitVec.toNat_and, BitVec.toNat_ofNat, BitVec.toNat_ofNat, Nat.mod_eq_of_lt (by omega), Nat.mod_eq_of_lt (by omega)]
    rw [show (4294967295 : Nat) = 2 ^ 32 - 1 from rfl, Nat.and_two_pow_sub_one_eq_mod, Nat.mod_eq_of_lt (by omega)]
  rw [e, IntWalk.u64_in _ (by omega)]; rfl
theorem b_shr32 {n : Nat} (h : n < 4294967296) : binD .shr (uq n) (.v (.int .u64 32)) = some (uq 0) := by
  have e : shI .shr .u64 (n : Int) 32 = some (.int .u64 ((0 : Nat) : Int)) := by
    unfold shI
    rw [if_neg (by omega)]
    simp only [IntKind.bits]
    have : (n : Int).fdiv (2 ^ (min (32 : Int).toNat 64)) = ((0 : Nat) : Int) := by
      show (n : Int).fdiv 4294967296 = 0
      rw [Int.fdiv_eq_ediv_of_nonneg _ (by decide)]; omega
    rw [this]
  unfold uq
  simp [binD, binV, isSh, e]
theorem b_mulu {a b : Nat} (h : a * b < 9223372036854775808) : binD .mul (uq a) (uq b) = some (uq (a * b)) := by
  unfold uq
  have e : ((a : Int) * (b : Int)) = ((a * b : Nat) : Int) := by push_cast; rfl
  rw [b_mul, e, IntWalk.u64_in _ (by omega)]
theorem b_addu {a b : Nat} (h : a + b < 9223372036854775808) : binD .add (uq a) (uq b) = some (uq (a + b)) := by
  unfold uq
  have e : ((a : Int) + (b : Int)) = ((a + b : Nat) : Int) := by push_cast; rfl
  rw [b_add, e, IntWalk.u64_in _ (by omega)]
theorem kn_mul64 (k : Nat) (hp : Tr DObj) (nx : Nat) (K : DV → Tr DObj → Nat → Prop) (n : Nat) (hn : n < 4294967296) (hK : K (.tup [uq 0, uq n]) hp nx) : KW (kN (k + 1)) (.fn 114) [uq 1, uq n] hp nx K := by
  refine kn_2 (relW_n (by decide)) t114 (Nat.le_of_ble_eq_true rfl) fun es e1 e2 he => ?_
  have a0 : rawE es (.t .o) = uq 1 := he 0 _ rfl
  have a1 : rawE es (.t (.l .o)) = uq n := he 1 _ rfl
  unfold r114
  have m1 : binD .mul (uq 1) (uq n) = some (uq n) := by rw [b_mulu (by omega), Nat.one_mul]
  have m2 : binD .mul (uq 0) (uq n) = some (uq 0) := by rw [b_mulu (by omega), Nat.zero_mul]
  have m3 : binD .mul (uq 1) (uq 0) = some (uq 0) := b_mulu (by omega)
  have m4 : binD .mul (uq 0) (uq 0) = some (uq 0) := b_mulu (by omega)
  have p1 : binD .add (uq 0) (uq 0) = some (uq 0) := b_addu (by omega)
  have lu : ∀ n, liveE es.hp (uq n) = uq n := fun n => live_v es.hp _
  simp only [eq_self, ↓ew_s, ↓ew_n, ↓ew_e, ↓sw_q, ↓sw_m1, ↓sw_z, ↓sw_x, ↓then_n, xw_some, mk1_eq, rw_put, rw_other, n_c, hp_put, nx_put, x_bin, ne_eq, reduceCtorEq, not_false_eq_true, true_and, or_true, Pa.l.injEq, Pa.r.injEq, p4, p5, a0, a1, b_andM (show 1 < _ by omega), b_andM (show 0 < _ by omega), b_andM hn, b_shr32 (show 1 < _ by omega), b_shr32 (show 0 < _ by omega), b_shr32 hn, m1, m2, m3, m4, p1, lu]
  rw [e1, e2]
  exact hK
theorem kn_mul (k : Nat) (hp : Tr DObj) (nx : Nat) (K : DV → Tr DObj → Nat → Prop) (n : Nat) (hn : n < 4294967296) (hK : K (.tup [uq 0, uq n]) hp nx) : KW (kN (k + 2)) (.fn 92) [uq 1, uq n] hp nx K := by
  refine kn_2 (relW_n (by decide)) t92 (Nat.le_of_ble_eq_true rfl) fun es e1 e2 he => ?_
  have a0 : rawE es (.t .o) = uq 1 := he 0 _ rfl
  have a1 : rawE es (.t (.l .o)) = uq n := he 1 _ rfl
  unfold r92
  have lu : ∀ n, liveE es.hp (uq n) = uq n := fun n => live_v es.hp _
  simp only [↓ew_s, ↓ew_n, ↓ew_e, ↓ew_c', ↓sw_q, ↓sw_m1, ↓sw_z, ↓then_n, xw_some, cw_f, mk1_eq, List.map_cons, List.map_nil, rw_put, rw_other, n_c, hp_put, nx_put, ne_eq, reduceCtorEq, not_false_eq_true, Pa.l.injEq, ↓z_call, a0, a1]
  refine kws (kn_mul64 k _ _ _ n hn ?_)
  have x0 : extD es.hp (.tup [uq 0, uq n]) 0 = some (uq 0) := rfl
  have x1 : extD es.hp (.tup [uq 0, uq n]) 1 = some (uq n) := rfl
  simp only [eq_self, ↓ew_s, ↓ew_n, ↓ew_e, ↓sw_q, ↓sw_m1, ↓sw_z, ↓sw_x, ↓then_n, xw_some, mk1_eq, rw_put, rw_other, n_mk, sl_put, ne_eq, reduceCtorEq, not_false_eq_true, true_and, or_true, Pa.r.injEq, x_xe, p4, p5, x0, x1, lu]
  rw [e1, e2]
  exact hK
end Go.DD

/- Chapter 03: one byte, many times; Rle unpacks a run. Conditions: those that each theorem states. -/
namespace Go.DD
open Go Go.Proofs

theorem ms_len {hp : Tr DObj} {id n : Nat} {o : DObj} (h : hp.get id = some o) : lenD hp (.ms id 0 n 1) = some (.v (.int .i64 (n : Int))) := by
  show (if alv hp id = true then some (DV.v (.int .i64 (n : Int))) else none) = _
  rw [if_pos (by unfold alv; rw [h]; rfl)]
theorem rep_step {a i n m : Nat} (hm : m = min i (n - i)) (h : i < n) : (List.replicate i a ++ List.replicate (n - i) 0).take i ++ (List.replicate i a).take m ++ (List.replicate i a ++ List.replicate (n - i) 0).drop (i + m) = List.replicate (i + m) a ++ List.replicate (n - (i + m)) 0 := by
  rw [List.take_left' (by simp), List.take_replicate, show min m i = m by omega, List.drop_append, List.drop_replicate, List.length_replicate, List.drop_replicate, show i - (i + m) = 0 by omega, show i + m - i = m by omega, show n - i - m = n - (i + m) by omega, List.replicate_zero, List.nil_append, List.replicate_append_replicate]
theorem kn_repeat66 (k : Nat) (hp : Tr DObj) (nx : Nat) (K : DV → Tr DObj → Nat → Prop) (d : DV) (a n : Nat) (hs : Src hp d [a]) (ho : Old nx d) (hn : 1 ≤ n) (hn2 : n ≤ 1000)
    (hK : ∀ hp' nx', nx < nx' → hp'.get nx = some (.row 5 ((List.replicate n a).map ub)) → (∀ j, j < nx → hp'.get j = hp.get j) → K (.ms nx 0 n 1) hp' nx') : KW (kN (k + 3)) (.fn 66) [d, iv n] hp nx K := by
  refine kn_1 (relW_n (by decide)) t66 (Nat.le_of_ble_eq_true rfl) fun es e1 e2 he => ?_
  have a0 : rawE es (.t .o) = d := he 0 _ rfl
  have a1 : rawE es (.t (.l .o)) = iv n := he 1 _ rfl
  have hs1 : Src es.hp d [a] := e1 ▸ hs
  have hl1 : lenD es.hp d = some (.v (.int .i64 1)) := hs1.len
  have hn0 : ¬ (n : Int) < 0 := by omega
  have c1 : cviE .u64 (.v (.int .i64 1)) = some (uq 1) := cvi_u64 (n := 1) (by omega)
  have c2 : cviE .u64 (.v (.int .i64 (n : Int))) = some (uq n) := cvi_u64 (by omega)
  have c3 : cviE .i64 (uq n) = some (ib n) := cvi_i64 (by omega)
  have g1 : binD .gtr (uq 0) (.v (.int .u64 0)) = some (.v (.bool false)) := rfl
  have g2 : binD .gtr (uq n) (.v (.int .u64 9223372036854775807)) = some (.v (.bool false)) := by
    unfold uq
    rw [b_gtr, decide_eq_false (by omega)]
  have lu : ∀ hp n, liveE hp (uq n) = uq n := fun hp n => live_v hp _
  have lb : ∀ hp n, liveE hp (ib n) = ib n := fun hp n => live_v hp _
  unfold r66
  simp only [↓ew_s, ↓ew_n, ↓ew_e, ↓ew_c', ↓sw_q, ↓sw_m1, ↓sw_z, ↓sw_x, ↓then_n, xw_some, cw_f, mk1_eq, x_len, List.map_cons, List.map_nil, rw_put, rw_other, n_c, hp_put, nx_put, x_bin, live_v, ne_eq, reduceCtorEq, not_false_eq_true, decide_false, Pa.l.injEq, ↓z_call, ↓sw_cviE, n_ev, p14, p16, a0, a1, iv, b_lss, hn0, hl1, c1, c2]
  refine kws (kn_mul k _ _ _ n (by omega) ?_)
  have x0 : extD es.hp (.tup [uq 0, uq n]) 0 = some (uq 0) := rfl
  have x1 : extD es.hp (.tup [uq 0, uq n]) 1 = some (uq n) := rfl
  simp only [↓ew_s, ↓ew_n, ↓ew_e, ↓ew_c', ↓sw_q, ↓sw_m1, ↓sw_z, ↓sw_x, ↓sw_g', gw_ff, ↓then_n, xw_some, cw_f, mk1_eq, rw_put, rw_other, n_c, n_mk, sl_put, x_bin, x_pick, pick_b, ne_eq, reduceCtorEq, not_false_eq_true, Bool.false_eq_true, if_false, Pa.l.injEq, Pa.r.injEq, ↓z_mks, x_xe, ↓sw_cviE, n_ev, p28, x0, x1, lu, g1, g2, c3]
  refine sws_mks (n := n) (by simp only [n_ev, rw_put, n_mk, p29]; exact lb _ _) (by simp only [n_ev, rw_put, n_mk, p29]; exact lb _ _) (by omega) fun hp1 hg1 hk1 => ?_
  simp only [ne_eq, e1, e2] at hg1 hk1
  simp only [↓ew_s, ↓ew_n, ↓sw_q, ↓sw_m1, ↓sw_z, ↓then_n, xw_some, mk1_eq, rw_put, rw_other, n_mk, sl_put, ne_eq, reduceCtorEq, not_false_eq_true, ↓z_cpy, a0, e2]
  have hs2 : Src hp1 d [a] := hs.keep fun id hid => hk1 id (by have := ho id hid; omega)
  refine sws_cpy (id := nx) (off := 0) (n := n) (d := d) (fl := List.replicate n 0) (l := [a]) (by simp only [n_ev, rw_put, rw_other, n_mk, ne_eq, reduceCtorEq, not_false_eq_true, p31]; exact live_ms hg1) hg1 (by simp only [n_ev, rw_put, n_mk, p32]; exact hs2.live) hs2 (by omega) (by simp) fun hp2 hg2 hk2 => ?_
  have e3 : min ([a] : List Nat).length n = 1 := by simp; omega
  have e4 : (List.replicate n 0).take 0 ++ [a].take 1 ++ (List.replicate n 0).drop (0 + 1) = List.replicate 1 a ++ List.replicate (n - 1) 0 := by
    rw [List.drop_replicate]; rfl
  simp only [ne_eq, e3, e4] at hg2 hk2
  simp only [↓ew_s, ↓ew_b, ↓sw_q, ↓sw_m1, ↓sw_z, ↓then_n, xw_some, mk1_eq, rw_put, n_mk, sl_put, ↓z_l, e3]
  refine EW.l (I := fun m es1 => ∃ i, m = n - i ∧ 1 ≤ i ∧ i ≤ n ∧ es1.hp.get nx = some (.row 5 ((List.replicate i a ++ List.replicate (n - i) 0).map ub)) ∧ nx < es1.nx ∧ (∀ j, j < nx → es1.hp.get j = hp.get j) ∧ rawE es1 (.t (.l (.l (.l .o)))) = .ms nx 0 n 1 ∧ rawE es1 (.t (.r (.l (.l .o)))) = ib i) ?_ (n - 1) 1000000 _ ⟨1, rfl, Nat.le_refl _, hn, hg2, by show nx < nx + 1; omega, fun j hj => by show hp2.get j = _; rw [hk2 j (by omega), hk1 j (by omega)], by simp only [rw_put, rw_other, n_mk, ne_eq, reduceCtorEq, not_false_eq_true, Pa.l.injEq], by simp only [rw_put, n_mk]⟩ (by omega)
  rintro m es1 ⟨i, rfl, hi1, hi2, hg, hnx, hfr, q7, q8⟩
  unfold l66_1
  by_cases h1 : i < n
  · have hsi : Src es1.hp (.ms nx 0 i 1) (List.replicate i a) := by
      have := Src.ms (hp := es1.hp) nx 0 (List.replicate i a ++ List.replicate (n - i) 0) (List.replicate i a) hg (by simp) (by simp)
      rwa [List.length_replicate] at this
    have sF : sliE 1 (.ms nx 0 n 1) (some (.v (.int .i64 (i : Int)))) none = some (.ms nx i (n - i) 1) := sli_from h1
    have sT : sliE 1 (.ms nx 0 n 1) none (some (.v (.int .i64 (i : Int)))) = some (.ms nx 0 i 1) := sli_to hi2
    simp only [eq_self, ↓ew_s, ↓ew_n, ↓ew_e, ↓ew_c', ↓ew_b, ↓sw_q, ↓sw_m1, ↓sw_z, ↓sw_x, ↓then_n, xw_some, cw_t, mk1_eq, x_len, rw_put, rw_other, n_mk, hp_put, nx_put, sl_put, x_bin, live_v, ne_eq, reduceCtorEq, not_false_eq_true, true_and, and_self, decide_true, Pa.l.injEq, Pa.r.injEq, ↓sw_reg, ↓tw_q, ↓tw_chk, ↓tw_read, ↓z_main, ↓chk_nil, ↓chk_cons, ro_v, ro_ms, look_f, ↓refsL_cons, ↓refs_nil, look_nil, refs_v, List.append_nil, xk_sli, Option.map_some, Option.map_none, n_ev, p39, p40, p42, p43, q7, q8, ms_len hg, live_ms hg, live_v, sF, sT, okRef_old hg hnx, ib, b_lssN, h1]
    refine tws_main rfl ?_
    refine sws_cpy (id := nx) (off := i) (n := n - i) (d := .ms nx 0 i 1) (fl := List.replicate i a ++ List.replicate (n - i) 0) (l := List.replicate i a) (by simp only [n_ev, rw_put, rw_other, n_mk, ne_eq, reduceCtorEq, not_false_eq_true, Pa.l.injEq, p41]; exact live_ms hg) hg (by simp only [n_ev, rw_put, n_mk, p44]; exact live_ms hg) hsi (by omega) (by simp) fun hp5 hg5 hk5 => ?_
    simp only [ne_eq, List.length_replicate, rep_step rfl h1] at hg5 hk5
    simp only [eq_self, ↓then_n, ↓blk_n, xw_some, rw_put, rw_other, n_mk, nx_put, sl_put, x_bin, ne_eq, reduceCtorEq, not_false_eq_true, true_and, and_self, Pa.l.injEq, Pa.r.injEq, ↓tw_q, ↓tw_z, ↓tw_chk, ↓tw_read, okl_nil, ↓chk_nil, ↓chk_cons, ro_v, ↓refsL_cons, ↓refs_nil, look_nil, refs_v, List.append_nil, List.length_replicate, ib, b_addN (show i + min i (n - i) < _ by omega)]
    exact ⟨Nat.le_refl _, n - (i + min i (n - i)), by omega, i + min i (n - i), rfl, by omega, by omega, hg5, by omega, fun j hj => by rw [hk5 j (by omega)]; exact hfr j hj, q7, rfl⟩
  · obtain rfl : i = n := by omega
    simp only [eq_self, ↓ew_s, ↓ew_n, ↓ew_e, ↓ew_c', ↓sw_q, ↓sw_m1, ↓sw_z, ↓sw_x, ↓then_n, ↓then_x, ↓blk_x, xw_some, cw_f, mk1_eq, x_len, rw_put, rw_other, hp_put, nx_put, x_bin, ne_eq, reduceCtorEq, not_false_eq_true, true_and, or_true, decide_false, Pa.l.injEq, Pa.r.injEq, p4, q7, q8, ms_len hg, live_ms hg, ib, b_lssN, h1]
    rw [Nat.sub_self, List.replicate_zero, List.append_nil] at hg
    exact hK _ _ hnx hg hfr
end Go.DD

/- Chapter 03: a run, and a copy, are unpacked. Conditions: those that each theorem states. -/
namespace Go.DD
open Go Go.Proofs

theorem b_lssM {k : IntKind} {a : Nat} (c : Nat) {ci : Int} (h : ci = (c : Int)) : binD .lss (.v (.int k (a : Int))) (.v (.int k ci)) = some (.v (.bool (decide (a < c)))) := by
  subst h; exact b_lssN k a c
theorem b_subL {a : Nat} (c : Nat) {ci : Int} (h : ci = (c : Int)) (h1 : c ≤ a) (h2 : a < 9000000000000000000) : binD .sub (.v (.int .i64 (a : Int))) (.v (.int .i64 ci)) = some (.v (.int .i64 ((a - c : Nat) : Int))) := by
  subst h; exact b_subN h1 h2
theorem b_addK {a : Nat} (c : Nat) {ci : Int} (h : ci = (c : Int)) (h2 : a + c < 9000000000000000000) : binD .add (.v (.int .i64 (a : Int))) (.v (.int .i64 ci)) = some (.v (.int .i64 ((a + c : Nat) : Int))) := by
  subst h; exact b_addN (by omega)
/-- A run. -/
theorem kn_run40 (k : Nat) (hp : Tr DObj) (nx : Nat) (K : DV → Tr DObj → Nat → Prop) (dout d : DV) (out b : List Nat) (how : Own hp dout out) (hs : Src hp d b) (ho1 : Old nx dout) (ho : Old nx d) (hdis : ∀ id ∈ d.refs, id ∉ dout.refs) (hb : ∀ x ∈ b, x < 256) (hl : out.length ≤ 1048576) (h0 : 128 ≤ b.getD 0 0)
    (hE : b.length < 2 → ∀ nx', nx ≤ nx' → K (.tup [nilS, iv 0, iv 16]) hp nx')
    (hK : 2 ≤ b.length → ∀ hp' nx' d', nx ≤ nx' → (∀ j, j < nx → j ∉ dout.refs → hp'.get j = hp.get j) → Own hp' d' (out ++ List.replicate (b.getD 0 0 - 125) (b.getD 1 0)) → Rng nx nx' d' → K (.tup [d', iv 2, iv 0]) hp' nx') :
    KW (kN (k + 4)) (.fn 40) [dout, d] hp nx K := by
  refine kn_3 (relW_n (by decide)) t40 (Nat.le_of_ble_eq_true rfl) fun es e1 e2 he => ?_
  have a0 : rawE es (.t .o) = dout := he 0 _ rfl
  have a1 : rawE es (.t (.l .o)) = d := he 1 _ rfl
  have hs1 : Src es.hp d b := e1 ▸ hs
  have how1 : Own es.hp dout out := e1 ▸ how
  have ho2 : Old es.nx d := e2 ▸ ho
  have ho3 : Old es.nx dout := e2 ▸ ho1
  have el : binD .lss (.v (.int .i64 (b.length : Int))) (.v (.int .i64 2)) = some (.v (.bool (decide (b.length < 2)))) := b_lssM 2 rfl
  unfold r40
  by_cases h1 : b.length < 2
  · simp only [eq_self, ↓ew_s, ↓ew_n, ↓ew_e, ↓ew_c', ↓sw_q, ↓sw_m1, ↓sw_z, ↓sw_x, ↓then_n, ↓then_r, xw_some, cw_t, mk1_eq, x_len, rw_put, rw_other, n_c, hp_put, nx_put, x_bin, live_v, ne_eq, reduceCtorEq, not_false_eq_true, true_and, or_true, decide_true, Pa.l.injEq, Pa.r.injEq, p4, p5, p6, a1, hs1.len, el, h1, live_v]
    rw [e1, e2]
    exact hE h1 nx (Nat.le_refl _)
  · have hb0 := byte_lt hb 0
    have p0' : 0 < b.length := by omega
    have ia0 : iaD es.hp 1 d (.v (.int .i64 0)) = some (adr d 0) := hs1.ia p0'
    have ld0 := hs1.ld p0'
    obtain ⟨d2, x1, x2, x3⟩ := hs1.sliE (a := 1) (z := 2) (lo := some (.v (.int .i64 1))) (hi := some (.v (.int .i64 2))) rfl (fun _ _ => rfl) (by omega) (by omega)
    have hd2 : (b.drop 1).take (2 - 1) = [b.getD 1 0] := by
      match b, h1 with
      | x :: y :: l, _ => rfl
      | [x], h => simp at h
      | [], h => simp at h
    rw [hd2] at x2
    have c1 : cviE .i64 (.v (.int .u8 (b.getD 0 0 : Int))) = some (.v (.int .i64 (b.getD 0 0 : Int))) := cvi_i64 (by omega)
    have c2 : binD .sub (.v (.int .i64 (b.getD 0 0 : Int))) (.v (.int .i64 128)) = some (.v (.int .i64 ((b.getD 0 0 - 128 : Nat) : Int))) := b_subL 128 rfl h0 (by omega)
    have c3 : binD .add (.v (.int .i64 ((b.getD 0 0 - 128 : Nat) : Int))) (.v (.int .i64 3)) = some (.v (.int .i64 ((b.getD 0 0 - 128 + 3 : Nat) : Int))) := b_addK 3 rfl (by omega)
    simp only [↓ew_s, ↓ew_n, ↓ew_e, ↓ew_c', ↓sw_q, ↓sw_m1, ↓sw_z, ↓sw_x, ↓then_n, xw_some, cw_f, mk1_eq, x_len, x_ia, x_ld, rw_put, rw_other, n_c, n_mk, hp_put, nx_put, sl_put, x_bin, live_v, ne_eq, reduceCtorEq, not_false_eq_true, and_true, true_and, and_self, decide_false, Pa.l.injEq, Pa.r.injEq, xk_cvi, ↓sw_reg, ↓tw_q, ↓tw_chk, ↓tw_read, ↓z_main, ↓chk_nil, ↓chk_cons, ro_v, look_f, ↓refsL_cons, ↓refs_nil, List.append_nil, xk_sli, Option.map_some, n_ev, n_evc, n_ofi, p11, p15, a0, a1, hs1.len, hs1.live, hs1.ro ho2, hs1.roa ho2, how1.src.ro ho3, ub, el, h1, ia0, ld0, c1, c2, c3, x1]
    refine ⟨fun id hid => (okRef_iff _ _).2 ⟨x2.alive id hid, .inl (ho2 id (x3 id hid))⟩, tws_main rfl (sws_call ?_)⟩
    simp only [List.map_cons, List.map_nil, rw_put, rw_other, n_c, n_mk, nx_put, sl_put, ne_eq, reduceCtorEq, not_false_eq_true, Pa.l.injEq, Pa.r.injEq]
    have hn : b.getD 0 0 - 128 + 3 = b.getD 0 0 - 125 := by omega
    rw [hn]
    refine kn_repeat66 k _ _ _ d2 (b.getD 1 0) (b.getD 0 0 - 125) x2 (fun id hid => by have := ho2 id (x3 id hid); omega) (by omega) (by omega) fun hp6 nx6 hnx6 hg6 hk6 => ?_
    have how6 : Own hp6 dout out := how1.keep fun id hid => hk6 id (by have := ho3 id hid; omega)
    have hs6 : Src hp6 (.ms (es.nx + 14) 0 (b.getD 0 0 - 125) 1) (List.replicate (b.getD 0 0 - 125) (b.getD 1 0)) := by
      have := (Own.ms (hp := hp6) (es.nx + 14) _ hg6).src
      rwa [List.length_replicate] at this
    simp only [rw_put, rw_other, n_mk, ne_eq, reduceCtorEq, not_false_eq_true, and_true, true_and, Pa.l.injEq, Pa.r.injEq, ↓tw_q, ↓tw_chk, ↓z_main, ↓chk_nil, ↓chk_cons, ro_ms, how6.src.ro ho3]
    refine ⟨by omega, (okRef_iff _ _).2 ⟨by rw [hg6]; rfl, .inr (.inl (Nat.le_refl _))⟩, tws_main rfl ?_⟩
    refine sw_app (d := dout) (d2 := .ms (es.nx + 14) 0 (b.getD 0 0 - 125) 1) (l := out) (m := List.replicate (b.getD 0 0 - 125) (b.getD 1 0)) (by simp only [rw_put, rw_other, n_mk, ne_eq, reduceCtorEq, not_false_eq_true, Pa.l.injEq, Pa.r.injEq, p10]) how6 (by simp only [rw_put, n_mk, p19]) hs6 (by rw [List.length_replicate]; omega) (by decide) fun hp7 hg7 hk7 => ?_
    simp only [ne_eq] at hg7 hk7
    simp only [eq_self, ↓ew_e, ↓then_n, xw_some, rw_put, rw_other, n_mk, sl_put, live_v, ne_eq, reduceCtorEq, not_false_eq_true, and_true, true_and, or_true, Pa.r.injEq, ↓tw_q, ↓tw_z, ↓tw_chk, ↓tw_read, ↓chk_nil, ↓chk_cons, ro_ms, look_f, ↓refsL_cons, ↓refs_nil, look_nil, List.append_nil, p4, p5, p6, live_ms hg7, live_v]
    refine ⟨by omega, (okRef_iff _ _).2 ⟨by rw [hg7]; rfl, .inr (.inl (by omega))⟩, okl_look (fun id hid => ⟨ho3 id hid, fun p hp => ?_⟩) (okl_nil _ _ _), ?_⟩
    · simp only [List.mem_cons, List.mem_nil_iff, or_false] at hp
      rcases hp with rfl | rfl
      · exact .inl rfl
      · refine .inr (.inr ?_)
        show ((es.hp.get id).isSome == (hp6.get id).isSome) = true
        rw [hk6 id (by have := ho3 id hid; omega)]
        exact beq_self_eq_true _
    · refine hK (by omega) hp7 (nx6 + 1) _ (by omega) (fun j hj hm => ?_) (.ms _ _ hg7) (.ms (by omega) (by omega))
      rw [hk7 j (by omega) hm, hk6 j (by omega), e1]
/-- A copy. -/
theorem b_shl8 {a : Nat} (h : a < 256) : binD .shl (.v (.int .i64 (a : Int))) (.v (.int .u64 8)) = some (.v (.int .i64 ((a * 256 : Nat) : Int))) := by
  generalize hr : a * 256 = r
  have e : shI .shl .i64 (a : Int) 8 = some (.int .i64 (r : Int)) := by
    unfold shI
    rw [if_neg (by omega)]
    simp only [IntKind.bits]
    have : (a : Int) * 2 ^ (min (8 : Int).toNat 64) = (r : Int) := by
      show (a : Int) * 256 = _
      omega
    rw [this, wrap_in (by omega)]
  simp [binD, binV, isSh, e]
theorem b_or8 {a c : Nat} (ha : a < 256) (hc : c < 256) : binD .or (.v (.int .i64 ((a * 256 : Nat) : Int))) (.v (.int .i64 (c : Int))) = some (.v (.int .i64 ((256 * a + c : Nat) : Int))) := by
  show some (DV.v (.int .i64 (IntKind.i64.wrap (((BitVec.ofInt 64 ((a * 256 : Nat) : Int) ||| BitVec.ofInt 64 (c : Int)).toNat : Nat) : Int)))) = _
  have := or_add (c := a) (b := c) 8 (by omega)
  rw [BitVec.ofInt_natCast, BitVec.ofInt_natCast, BitVec.toNat_or, BitVec.toNat_ofNat, BitVec.toNat_ofNat, Nat.mod_eq_of_lt (by omega), Nat.mod_eq_of_lt (by omega), show a * 256 = a * 2 ^ 8 from rfl, this, wrap_in (by omega)]
  congr 4; omega
theorem mm1024 (a : Nat) : mmD false (.v (.int .i64 1024)) (.v (.int .i64 (a : Int))) = some (.v (.int .i64 ((min 1024 a : Nat) : Int))) := by
  rw [mm_min]; congr 3; omega
theorem kn_copy44 (k : Nat) (hp : Tr DObj) (nx : Nat) (K : DV → Tr DObj → Nat → Prop) (dout d : DV) (out b : List Nat) (how : Own hp dout out) (hs : Src hp d b) (ho1 : Old nx dout) (ho : Old nx d) (hdis : ∀ id ∈ d.refs, id ∉ dout.refs) (hb : ∀ x ∈ b, x < 256) (hl : out.length ≤ 1048576) (h0 : 128 ≤ b.getD 0 0)
    (hE : b.length < 3 → ∀ nx', nx ≤ nx' → K (.tup [nilS, iv 0, iv 16]) hp nx')
    (hF : 3 ≤ b.length → (256 * b.getD 1 0 + b.getD 2 0 < 1 ∨ 1024 < 256 * b.getD 1 0 + b.getD 2 0 ∨ out.length < 256 * b.getD 1 0 + b.getD 2 0) → ∀ nx', nx ≤ nx' → K (.tup [nilS, iv 0, iv 7]) hp nx')
    (hK : 3 ≤ b.length → ¬ (256 * b.getD 1 0 + b.getD 2 0 < 1 ∨ 1024 < 256 * b.getD 1 0 + b.getD 2 0 ∨ out.length < 256 * b.getD 1 0 + b.getD 2 0) → ∀ hp' nx' d', nx ≤ nx' → (∀ j, j < nx → j ∉ dout.refs → hp'.get j = hp.get j) → Own hp' d' (copyN (256 * b.getD 1 0 + b.getD 2 0) (b.getD 0 0 - 124) out) → Rng nx nx' d' → K (.tup [d', iv 3, iv 0]) hp' nx') :
    KW (kN (k + 1)) (.fn 44) [dout, d] hp nx K := by
  refine kn_3 (relW_n (by decide)) t44 (Nat.le_of_ble_eq_true rfl) fun es e1 e2 he => ?_
  have a0 : rawE es (.t .o) = dout := he 0 _ rfl
  have a1 : rawE es (.t (.l .o)) = d := he 1 _ rfl
  have hs1 : Src es.hp d b := e1 ▸ hs
  have how1 : Own es.hp dout out := e1 ▸ how
  have ho2 : Old es.nx d := e2 ▸ ho
  have ho3 : Old es.nx dout := e2 ▸ ho1
  have el : binD .lss (.v (.int .i64 (b.length : Int))) (.v (.int .i64 3)) = some (.v (.bool (decide (b.length < 3)))) := b_lssM 3 rfl
  unfold r44
  by_cases h1 : b.length < 3
  · simp only [eq_self, ↓ew_s, ↓ew_n, ↓ew_e, ↓ew_c', ↓sw_q, ↓sw_m1, ↓sw_z, ↓sw_x, ↓then_n, ↓then_r, xw_some, cw_t, mk1_eq, x_len, rw_put, rw_other, n_c, hp_put, nx_put, x_bin, live_v, ne_eq, reduceCtorEq, not_false_eq_true, true_and, or_true, decide_true, Pa.l.injEq, Pa.r.injEq, p4, p5, p6, a1, hs1.len, el, h1, live_v]
    rw [e1, e2]
    exact hE h1 nx (Nat.le_refl _)
  · have hb0 := byte_lt hb 0
    have hb1 := byte_lt hb 1
    have hb2 := byte_lt hb 2
    have ia0 : iaD es.hp 1 d (.v (.int .i64 0)) = some (adr d 0) := hs1.ia (show 0 < b.length by omega)
    have ia1 : iaD es.hp 1 d (.v (.int .i64 1)) = some (adr d 1) := hs1.ia (show 1 < b.length by omega)
    have ia2 : iaD es.hp 1 d (.v (.int .i64 2)) = some (adr d 2) := hs1.ia (show 2 < b.length by omega)
    have ld0 := hs1.ld (show 0 < b.length by omega)
    have ld1 := hs1.ld (show 1 < b.length by omega)
    have ld2 := hs1.ld (show 2 < b.length by omega)
    have c0 : cviE .i64 (.v (.int .u8 (b.getD 0 0 : Int))) = some (.v (.int .i64 (b.getD 0 0 : Int))) := cvi_i64 (by omega)
    have c1 : cviE .i64 (.v (.int .u8 (b.getD 1 0 : Int))) = some (.v (.int .i64 (b.getD 1 0 : Int))) := cvi_i64 (by omega)
    have c2 : cviE .i64 (.v (.int .u8 (b.getD 2 0 : Int))) = some (.v (.int .i64 (b.getD 2 0 : Int))) := cvi_i64 (by omega)
    have s1 := b_shl8 hb1
    have s2 := b_or8 hb1 hb2
    have hfar : 256 * b.getD 1 0 + b.getD 2 0 < 65536 := by omega
    generalize hfe : 256 * b.getD 1 0 + b.getD 2 0 = far at hF hK s2 hfar
    have e3 : binD .lss (.v (.int .i64 (far : Int))) (.v (.int .i64 1)) = some (.v (.bool (decide (far < 1)))) := b_lssM 1 rfl
    by_cases h2 : far < 1
    · simp only [eq_self, ↓ew_s, ↓ew_n, ↓ew_e, ↓ew_c', ↓ew_b, ↓sw_q, ↓sw_m1, ↓sw_z, ↓sw_x, ↓sw_g', gw_tf, ↓then_n, ↓then_r, xw_some, cw_t, cw_f, mk1_eq, x_len, x_ia, x_ld, rw_put, rw_other, n_c, n_mk, hp_put, nx_put, sl_put, x_bin, x_pick, live_v, pick_b, ne_eq, reduceCtorEq, not_false_eq_true, and_true, true_and, or_true, and_self, if_true, decide_true, decide_false, Pa.l.injEq, Pa.r.injEq, ↓z_l, xk_cvi, ↓sw_reg, ↓tw_q, ↓tw_z, ↓tw_chk, ↓tw_read, ↓chk_nil, ↓chk_cons, ro_v, okl_nops, look_f, ↓refsL_cons, ↓refs_nil, List.append_nil, ↓sw_cviE, ↓sw_mm, n_ev, n_evc, n_ofi, p4, p5, p6, p13, p18, p26, p32, a0, a1, hs1.len, hs1.ro ho2, hs1.roa ho2, ub, el, h1, ia1, ld1, ia2, ld2, c1, c2, s1, s2, e3, h2]
      rw [e1]
      exact hF (by omega) (.inl h2) _ (by omega)
    · by_cases h3 : min 1024 out.length < far
      · simp only [eq_self, ↓ew_s, ↓ew_n, ↓ew_e, ↓ew_c', ↓ew_b, ↓sw_q, ↓sw_m1, ↓sw_z, ↓sw_x, ↓sw_g', gw_ff, ↓then_n, ↓then_r, xw_some, cw_t, cw_f, mk1_eq, x_len, x_ia, x_ld, rw_put, rw_other, n_c, n_mk, hp_put, nx_put, sl_put, x_bin, x_pick, live_v, pick_b, ne_eq, reduceCtorEq, not_false_eq_true, Bool.false_eq_true, and_true, true_and, or_true, and_self, if_false, decide_true, decide_false, Pa.l.injEq, Pa.r.injEq, ↓z_l, xk_cvi, ↓sw_reg, ↓tw_q, ↓tw_z, ↓tw_chk, ↓tw_read, ↓chk_nil, ↓chk_cons, ro_v, okl_nops, look_f, ↓refsL_cons, ↓refs_nil, List.append_nil, ↓sw_cviE, ↓sw_mm, n_ev, n_evc, n_ofi, p4, p5, p6, p13, p18, p26, p32, a0, a1, hs1.len, how1.src.len, hs1.ro ho2, hs1.roa ho2, ub, el, h1, ia1, ld1, ia2, ld2, c1, c2, s1, s2, e3, h2, mm1024, b_gtrN, h3]
        rw [e1]
        exact hF (by omega) (by omega) _ (by omega)
      · have d1 : binD .sub (.v (.int .i64 (b.getD 0 0 : Int))) (.v (.int .i64 128)) = some (.v (.int .i64 ((b.getD 0 0 - 128 : Nat) : Int))) := b_subL 128 rfl h0 (by omega)
        have d3 : binD .add (.v (.int .i64 ((b.getD 0 0 - 128 : Nat) : Int))) (.v (.int .i64 4)) = some (.v (.int .i64 ((b.getD 0 0 - 128 + 4 : Nat) : Int))) := b_addK 4 rfl (by omega)
        simp only [eq_self, ↓ew_s, ↓ew_n, ↓ew_e, ↓ew_c', ↓ew_b, ↓sw_q, ↓sw_m1, ↓sw_z, ↓sw_x, ↓sw_g', gw_ff, ↓then_n, ↓then_r, xw_some, cw_f, mk1_eq, x_len, x_ia, x_ld, rw_put, rw_other, n_c, n_mk, hp_put, nx_put, sl_put, x_bin, x_pick, live_v, pick_b, ne_eq, reduceCtorEq, not_false_eq_true, Bool.false_eq_true, and_true, true_and, or_true, and_self, if_false, decide_false, Pa.l.injEq, Pa.r.injEq, ↓z_l, xk_cvi, ↓sw_reg, ↓tw_q, ↓tw_z, ↓tw_chk, ↓tw_read, ↓chk_nil, ↓chk_cons, ro_v, okl_nops, look_f, ↓refsL_cons, ↓refs_nil, List.append_nil, ↓sw_cviE, ↓sw_mm, n_ev, n_evc, n_ofi, p4, p5, p6, p13, p18, p26, p32, a0, a1, hs1.len, how1.src.len, hs1.ro ho2, hs1.roa ho2, ub, el, h1, ia1, ld1, ia2, ld2, c1, c2, s1, s2, e3, h2, mm1024, b_gtrN, h3, ia0, ld0, c0, d1, d3, live_v]
        generalize hcnt : b.getD 0 0 - 128 + 4 = cnt
        have hcn : b.getD 0 0 - 124 = cnt := by omega
        rw [hcn] at hK
        have hfl : far ≤ out.length ∧ 1 ≤ far := by omega
        refine EW.l (I := fun m es1 => ∃ i o1 d1, m = cnt - i ∧ i ≤ cnt ∧ o1.length = out.length + i ∧ copyN far (cnt - i) o1 = copyN far cnt out ∧ Own es1.hp d1 o1 ∧ (∀ id ∈ d1.refs, id < es1.nx ∧ ((id ∈ dout.refs ∧ i = 0) ∨ nx ≤ id)) ∧ nx ≤ es1.nx ∧ (∀ j, j < nx → j ∉ dout.refs → es1.hp.get j = hp.get j) ∧ rawE es1 (.t .o) = d1 ∧ rawE es1 (.t (.l (.l (.l .o)))) = iv far ∧ rawE es1 (.t (.l (.l (.r (.l (.l .o)))))) = iv cnt ∧ rawE es1 (.t (.r (.l (.r (.l (.l .o)))))) = iv i) ?_ cnt 1000000 _ ⟨0, out, dout, rfl, Nat.zero_le _, rfl, rfl, how1, fun id hid => ⟨by have := ho3 id hid; show id < es.nx + 11; omega, .inl ⟨hid, rfl⟩⟩, by show nx ≤ es.nx + 11; omega, fun j _ _ => by show es.hp.get j = _; rw [e1], ?_, ?_, ?_, ?_⟩ (by omega)
        · rintro m es1 ⟨i, o1, d1, rfl, hi, hol, hst, ow, hrf, hnx, hfr, q0, q7, q35, q36⟩
          unfold l44_1
          by_cases h4 : i < cnt
          · have hia := ow.src.ia (show o1.length - far < o1.length by omega)
            have hld := ow.src.ld (show o1.length - far < o1.length by omega)
            simp only [↓ew_s, ↓ew_n, ↓ew_e, ↓ew_c', ↓ew_b, ↓sw_q, ↓sw_m1, ↓sw_z, ↓sw_x, ↓then_n, xw_some, cw_t, mk1_eq, x_len, x_ia, x_ld, rw_put, rw_other, hp_put, x_bin, ne_eq, reduceCtorEq, not_false_eq_true, decide_true, Pa.l.injEq, ↓z_bsl, q0, q7, q35, q36, iv, ub, b_lssN, h4, ow.src.len, b_subN (show far ≤ o1.length by omega) (by omega), hia, hld]
            refine sw_bsl (l := [o1.getD (o1.length - far) 0]) rfl rfl (by simp only [List.map_cons, List.map_nil, n_ev, rw_put, hp_put, p45]; exact fill1 _ _) fun hp2 hg2 hk2 => ?_
            simp only [hp_put, nx_put, ne_eq] at hg2 hk2
            have ow2 : Own hp2 d1 o1 := ow.keep fun id hid => hk2 id (by have := (hrf id hid).1; omega)
            simp only [↓sw_q, nx_put, sl_put, ↓z_app]
            refine sw_app (d := d1) (d2 := .ms es1.nx 0 1 1) (l := o1) (m := [o1.getD (o1.length - far) 0]) (by simp only [rw_put, rw_other, n_mk, ne_eq, reduceCtorEq, not_false_eq_true, Pa.r.injEq, p38]) ow2 (by simp only [rw_put, n_mk, p46]; rfl) (Own.ms (hp := hp2) es1.nx [o1.getD (o1.length - far) 0] hg2).src (by simp; omega) (by decide) fun hp3 hg3 hk3 => ?_
            simp only [ne_eq] at hg3 hk3
            simp only [eq_self, ↓ew_n, ↓sw_q, ↓sw_m1, ↓sw_z, ↓sw_x, ↓then_n, ↓blk_n, xw_some, mk1_eq, rw_put, rw_other, n_c, n_mk, sl_put, x_bin, ne_eq, reduceCtorEq, not_false_eq_true, true_and, Pa.l.injEq, Pa.r.injEq, q7, q35, q36, iv, b_add1 (show i < _ by omega)]
            have hst' : copyN far (cnt - (i + 1)) (o1 ++ [o1.getD (o1.length - far) 0]) = copyN far cnt out := by
              rw [← hst, show cnt - i = (cnt - (i + 1)) + 1 by omega]; rfl
            refine ⟨cnt - (i + 1), by omega, i + 1, _, _, rfl, by omega, by simp; omega, hst', .ms _ _ hg3, fun id hid => ?_, by omega, fun j hj hm => ?_, rfl, rfl⟩
            · have : id = es1.nx + 1 := by simpa [DV.refs] using hid
              exact ⟨by omega, .inr (by omega)⟩
            · rw [hk3 j (by omega) (fun h => (hrf j h).2.elim (fun h => hm h.1) (by omega)), hk2 j (by omega)]
              exact hfr j hj hm
          · obtain rfl : i = cnt := by omega
            have hst' : o1 = copyN far i out := by rw [← hst, Nat.sub_self]; rfl
            simp only [eq_self, ↓ew_s, ↓ew_n, ↓ew_e, ↓ew_c', ↓sw_q, ↓sw_m1, ↓sw_z, ↓sw_x, ↓then_n, ↓then_x, ↓blk_x, xw_some, cw_f, mk1_eq, rw_put, rw_other, n_c, hp_put, nx_put, x_bin, live_v, ne_eq, reduceCtorEq, not_false_eq_true, true_and, or_true, decide_false, Pa.r.injEq, p4, p5, p6, q0, q35, q36, iv, b_lssN, h4, ow.src.live, live_v]
            exact hK (by omega) (by omega) _ _ d1 hnx hfr (hst' ▸ ow) fun id hid => ⟨(hrf id hid).2.elim (fun h => by omega) (fun h => h), (hrf id hid).1⟩
        · simp only [rw_other, n_mk, ne_eq, reduceCtorEq, not_false_eq_true]; exact a0
        · simp only [rw_put, rw_other, n_mk, ne_eq, reduceCtorEq, not_false_eq_true, Pa.l.injEq]; rfl
        · simp only [rw_put, rw_other, n_mk, ne_eq, reduceCtorEq, not_false_eq_true]; rfl
        · simp only [rw_put, n_mk]; rfl
end Go.DD

/- Chapter 03: items are unpacked. Conditions: those that each theorem states. -/
namespace Go.DD
open Go Go.Proofs

theorem ext3a {hp : Tr DObj} {d : DV} {l : List Nat} {w v : Value} (h : Src hp d l) : extD hp (.tup [d, .v w, .v v]) 0 = some d := ext_get fun id hid => h.alive id (by simpa [DV.refsL, DV.refs] using hid)
def errC (e : Nat) : Int := if e = 0 then 16 else if e = 1 then 7 else 8
theorem unS_step {rle : Bool} {m : Nat} {out rest : List Nat} (h : 0 < rest.length) : unS rle (m + 1) out rest = match unItem rle out rest with
    | .error e => .error e
    | .ok (o, r) => if 1048576 < o.length then .error 2 else unS rle m o r := by
  rw [unS, if_neg (by omega)]
  cases unItem rle out rest <;> rfl
def otherF (rle : Bool) : Nat := if rle = true then 40 else 44
/-- What is read, and what is unpacked. -/
structure UI (rle : Bool) (hp : Tr DObj) (nx : Nat) (d : DV) (b rest out : List Nat) (d0 d6 : DV) (es : ES) : Prop where
  r0 : rawE es (.t .o) = d0
  r1 : rawE es (.t (.l .o)) = fnv (otherF rle)
  r6 : rawE es (.t (.r (.r .o))) = d6
  s0 : Src es.hp d0 rest
  rf : ∀ id ∈ d0.refs, id ∈ d.refs
  ow : Own es.hp d6 out
  rg : Rng nx es.nx d6
  al : Al hp nx es.hp es.nx
  hb : ∀ x ∈ rest, x < 256
  hl : out.length ≤ 1048576
  un : ∃ k, rest.length ≤ k ∧ unS rle k out rest = unS rle b.length [] b
theorem kn_unpacked (rle : Bool) (k : Nat) (hp : Tr DObj) (nx : Nat) (K : DV → Tr DObj → Nat → Prop) (d : DV) (b : List Nat) (hs : Src hp d b) (ho : Old nx d) (hb : ∀ x ∈ b, x < 256) (hl : b.length < 400000)
    (hE : ∀ e, unS rle b.length [] b = .error e → ∀ hp' nx', Al hp nx hp' nx' → K (.tup [nilS, iv (errC e)]) hp' nx')
    (hK : ∀ out, unS rle b.length [] b = .ok out → ∀ hp' nx' d', Al hp nx hp' nx' → Own hp' d' out → Rng nx nx' d' → K (.tup [d', iv 0]) hp' nx') :
    KW (kN (k + 5)) (.fn 39) [d, fnv (otherF rle)] hp nx K := by
  refine kn_2 (relW_n (by decide)) t39 (Nat.le_of_ble_eq_true rfl) fun es e1 e2 he => ?_
  have a0 : rawE es (.t .o) = d := he 0 _ rfl
  have a1 : rawE es (.t (.l .o)) = fnv (otherF rle) := he 1 _ rfl
  unfold r39
  simp only [↓ew_s, ↓ew_n, ↓ew_b, ↓sw_q, ↓sw_m1, ↓sw_z, ↓then_n, xw_some, mk1_eq, n_c, ↓z_l]
  refine EW.l (I := fun m es1 => ∃ rest out d0 d6, m = rest.length ∧ rest.length ≤ b.length ∧ UI rle hp nx d b rest out d0 d6 es1) ?_ b.length 1000000 _ ⟨b, [], d, nilS, rfl, Nat.le_refl _, ⟨?_, ?_, ?_, ?_, fun id h => h, .nil, Rng.nil _ _, ?_, hb, by simp, b.length, Nat.le_refl _, rfl⟩⟩ (by omega)
  · rintro m es1 ⟨rest, out, d0, d6, rfl, hrl, hU⟩
    obtain ⟨r0, r1, r6, s0, rf, ow, rg, al, hrb, hol, kk, hk1, hk2⟩ := id hU
    unfold l39_1
    have od0 : Old es1.nx d0 := fun id hid => Nat.lt_of_lt_of_le (ho id (rf id hid)) al.le
    have eg : binD .gtr (.v (.int .i64 (rest.length : Int))) (.v (.int .i64 0)) = some (.v (.bool (decide (0 < rest.length)))) := b_gtr0 _ _
    by_cases h0 : 0 < rest.length
    · obtain ⟨k1, rfl⟩ : ∃ k1, kk = k1 + 1 := ⟨kk - 1, by omega⟩
      rw [unS_step h0] at hk2
      have hb0 := byte_lt hrb 0
      have ia0 : iaD es1.hp 1 d0 (.v (.int .i64 0)) = some (adr d0 0) := s0.ia h0
      have ld0 := s0.ld h0
      have c1 : cviE .i64 (.v (.int .u8 (rest.getD 0 0 : Int))) = some (.v (.int .i64 (rest.getD 0 0 : Int))) := cvi_i64 (by omega)
      have c2 : binD .add (.v (.int .i64 (rest.getD 0 0 : Int))) (.v (.int .i64 2)) = some (.v (.int .i64 ((rest.getD 0 0 + 2 : Nat) : Int))) := b_addK 2 rfl (by omega)
      have c3 : binD .lss (.v (.int .u8 (rest.getD 0 0 : Int))) (.v (.int .u8 128)) = some (.v (.bool (decide (rest.getD 0 0 < 128)))) := b_lssM 128 rfl
      refine EW.seq (fun es2 => UI rle hp nx d b rest out d0 d6 es2 ∧ es2.hp = es1.hp ∧ es2.nx = es1.nx) ?_ fun es2 ⟨hU2, h2p, h2n⟩ => ?_
      · simp only [eq_self, ↓ew_s, ↓ew_n, ↓ew_e, ↓ew_c', ↓sw_q, ↓sw_m1, ↓sw_z, ↓sw_x, ↓then_n, xw_some, cw_t, mk1_eq, x_len, rw_put, n_c, hp_put, nx_put, x_bin, and_true, and_self, decide_true, r0, s0.len, eg, h0]
        refine ⟨?_, ?_, ?_, s0, rf, ow, rg, al, hrb, hol, k1 + 1, hk1, ?_⟩
        · simp only [rw_other, ne_eq, reduceCtorEq, not_false_eq_true]; exact r0
        · simp only [rw_other, ne_eq, reduceCtorEq, not_false_eq_true, Pa.l.injEq]; exact r1
        · simp only [rw_other, ne_eq, reduceCtorEq, not_false_eq_true, Pa.r.injEq]; exact r6
        · rw [unS_step h0]; exact hk2
      · rw [ew_b]
        have F : ∀ es, UI rle hp nx d b rest out d0 d6 es → iaD es.hp 1 d0 (.v (.int .i64 0)) = some (adr d0 0) ∧ ldD es.hp none (adr d0 0) = some (ub (rest.getD 0 0)) ∧ lenD es.hp d0 = some (.v (.int .i64 (rest.length : Int))) := fun es h => ⟨h.s0.ia h0, h.s0.ld h0, h.s0.len⟩
        obtain ⟨f1, f2, f3⟩ := F _ hU2
        have t0 := hU2.r0
        refine EW.seq (fun es3 => UI rle hp nx d b rest out d0 d6 es3 ∧ rawE es3 (.t (.l (.l (.l .o)))) = ib (rest.getD 0 0 + 2)) ?_ fun es3 ⟨hU3, q7⟩ => ?_
        · simp only [↓ew_n, ↓sw_q, ↓sw_m1, ↓sw_z, ↓sw_x, ↓then_n, xw_some, mk1_eq, x_ia, x_ld, rw_put, n_c, hp_put, x_bin, live_v, ↓sw_cviE, n_ev, p14, t0, f1, f2, ub, c1, c2, live_v]
          refine ⟨⟨?_, ?_, ?_, hU2.s0, rf, hU2.ow, hU2.rg, hU2.al, hrb, hol, hU2.un⟩, rfl⟩
          · simp only [rw_other, ne_eq, reduceCtorEq, not_false_eq_true]; exact hU2.r0
          · simp only [rw_other, ne_eq, reduceCtorEq, not_false_eq_true, Pa.l.injEq]; exact hU2.r1
          · simp only [rw_other, ne_eq, reduceCtorEq, not_false_eq_true, Pa.r.injEq]; exact hU2.r6
        · clear f1 f2 f3 t0
          obtain ⟨f1, f2, f3⟩ := F _ hU3
          obtain ⟨t0, t1, t6, u0, _, u6, ug, ual, _, _, _⟩ := id hU3
          have od3 : Old es3.nx d0 := fun id hid => Nat.lt_of_lt_of_le (ho id (rf id hid)) ual.le
          have hdis : ∀ id ∈ d0.refs, id ∉ d6.refs := fun id hid h => by
            have := ho id (rf id hid)
            have := (ug id h).1
            omega
          refine EW.seq (fun es4 => ∃ out' n d6', unItem rle out rest = .ok (out', rest.drop n) ∧ 1 ≤ n ∧ n ≤ rest.length ∧ rawE es4 (.t .o) = d0 ∧ rawE es4 (.t (.l .o)) = fnv (otherF rle) ∧ rawE es4 (.t (.r (.r .o))) = d6' ∧ rawE es4 (.t (.l (.l (.l .o)))) = ib n ∧ Src es4.hp d0 rest ∧ Own es4.hp d6' out' ∧ Rng nx es4.nx d6' ∧ Al hp nx es4.hp es4.nx ∧ out'.length ≤ 1048576 + 1000) ?_ fun es4 ⟨out', n, d7, hi, hn1, hn2, v0, v1, v6, v7, w0, w6, wg, wal, wl⟩ => ?_
          · by_cases h3 : rest.getD 0 0 < 128
            · by_cases h4 : rest.length < rest.getD 0 0 + 2
              · have hi : unItem rle out rest = .error 0 := by unfold unItem; rw [if_pos h3, if_pos h4]
                simp only [eq_self, ↓ew_s, ↓ew_n, ↓ew_e, ↓ew_c', ↓sw_q, ↓sw_m1, ↓sw_z, ↓sw_x, ↓then_n, ↓then_r, ↓blk_r, xw_some, cw_t, mk1_eq, x_len, x_ia, x_ld, rw_put, rw_other, n_c, hp_put, nx_put, x_bin, live_v, ne_eq, reduceCtorEq, not_false_eq_true, true_and, or_true, decide_true, Pa.l.injEq, Pa.r.injEq, ↓z_cv, p4, p5, t0, q7, ib, f1, f2, f3, ub, c3, h3, b_lssN, h4, live_v]
                exact hE 0 (by rw [← hk2, hi]) _ _ ual
              · have hi : unItem rle out rest = .ok (out ++ (rest.drop 1).take (rest.getD 0 0 + 1), rest.drop (rest.getD 0 0 + 2)) := by unfold unItem; rw [if_pos h3, if_neg h4]
                have hm : ((rest.drop 1).take (rest.getD 0 0 + 1)).length = rest.getD 0 0 + 1 := by rw [List.length_take, List.length_drop]; omega
                simp only [↓ew_s, ↓ew_n, ↓ew_e, ↓ew_c', ↓sw_q, ↓sw_m1, ↓sw_z, ↓sw_x, ↓then_n, xw_some, cw_t, cw_f, mk1_eq, x_len, x_ia, x_ld, rw_put, rw_other, n_c, hp_put, x_bin, ne_eq, reduceCtorEq, not_false_eq_true, decide_true, decide_false, Pa.l.injEq, Pa.r.injEq, ↓z_sli, ↓z_cv, t0, t6, q7, ib, f1, f2, f3, ub, c3, h3, b_lssN, h4]
                refine sw_sli (d := d0) (a := 1) (z := rest.getD 0 0 + 2) (l := rest) (by simp only [rw_put, rw_other, ne_eq, reduceCtorEq, not_false_eq_true, p26]) u0 (by simp only [bndD_some, n_evc, n_ofi]; rfl) (fun n hn => by simp only [bndD_some, n_ev, rw_put, hp_put, p27, live_v]; rfl) (by omega) (by omega) fun d8 hd8 hr8 => ?_
                rw [show rest.getD 0 0 + 2 - 1 = rest.getD 0 0 + 1 by omega] at hd8
                simp only [↓sw_q, ↓z_app]
                refine sw_app (d := d6) (d2 := d8) (l := out) (m := (rest.drop 1).take (rest.getD 0 0 + 1)) (by simp only [rw_put, rw_other, ne_eq, reduceCtorEq, not_false_eq_true, Pa.l.injEq, p25]) u6 (by simp only [rw_put, p28]) hd8 (by omega) (by decide) fun hp5 hg5 hk5 => ?_
                simp only [hp_put, nx_put, ne_eq] at hg5 hk5
                simp only [↓sw_q, ↓sw_m1, ↓sw_z, ↓then_n, xw_some, mk1_eq, rw_put, rw_other, n_mk, nx_put, sl_put, ne_eq, reduceCtorEq, not_false_eq_true, Pa.l.injEq]
                have hne : ∀ id ∈ d0.refs, id < es3.nx ∧ id ∉ d6.refs := fun id hid => ⟨od3 id hid, hdis id hid⟩
                have unx := ual.le
                refine ⟨_, rest.getD 0 0 + 2, _, hi, by omega, by omega, t0, t1, rfl, q7, u0.keep fun id hid => hk5 id (by have := (hne id hid).1; omega) (hne id hid).2, .ms _ _ hg5, .ms (by omega) (by omega), ual.step (by omega) fun j hj => hk5 j (by omega) (fun h => by have := (ug j h).1; omega), by rw [List.length_append, hm]; omega⟩
            · have hf : evE es3 (.t (.l .o)) = fnv (otherF rle) := by rw [evt, t1]; exact live_nil rfl
              have hb1 : ¬ rest.getD 0 0 < 128 := h3
              have n1 : binD .neq (.v (.int .i64 16)) (.v (.int .i64 0)) = some (.v (.bool true)) := rfl
              have n2 : binD .neq (.v (.int .i64 7)) (.v (.int .i64 0)) = some (.v (.bool true)) := rfl
              have n3 : binD .neq (.v (.int .i64 0)) (.v (.int .i64 0)) = some (.v (.bool false)) := rfl
              have z0 : ∀ (hp : Tr DObj) (c : Int), extD hp (.tup [nilS, iv 0, iv c]) 0 = some nilS := fun _ _ => rfl
              have z1 : ∀ (hp : Tr DObj) (c : Int), extD hp (.tup [nilS, iv 0, iv c]) 1 = some (iv 0) := fun _ _ => rfl
              have z2 : ∀ (hp : Tr DObj) (c : Int), extD hp (.tup [nilS, iv 0, iv c]) 2 = some (.v (.int .i64 c)) := fun _ _ => rfl
              cases rle with
              | true =>
                simp only [eq_self, ↓ew_s, ↓ew_n, ↓ew_e, ↓ew_c', ↓sw_q, ↓sw_m1, ↓sw_z, ↓sw_x, ↓then_n, ↓then_r, ↓blk_r, xw_some, cw_f, mk1_eq, x_len, x_ia, x_ld, rw_put, rw_other, n_c, hp_put, nx_put, x_bin, live_v, ne_eq, reduceCtorEq, not_false_eq_true, true_and, or_true, decide_false, Pa.l.injEq, Pa.r.injEq, ↓z_sli, ↓z_cv, p4, p5, t0, t1, t6, q7, ib, f1, f2, f3, ub, c3, h3, b_lssN]
                refine sws_f (f := 40) (fs := []) (cs := []) (by rw [evt]; simp only [rw_put, rw_other, hp_put, ne_eq, reduceCtorEq, not_false_eq_true, Pa.l.injEq]; exact live_nil rfl) ?_
                simp only [List.map_cons, List.map_nil, List.nil_append, List.append_nil, rw_put, rw_other, hp_put, nx_put, sl_put, ne_eq, reduceCtorEq, not_false_eq_true]
                refine kn_run40 k _ _ _ d6 d0 out rest u6 u0 (fun id hid => (ug id hid).2) od3 hdis hrb hol (by omega) (fun h4 nx5 hnx5 => ?_) (fun h4 hp5 nx5 d5 hnx5 hfr5 how5 hrg5 => ?_)
                · have hi : unItem true out rest = .error 0 := by unfold unItem; rw [if_neg h3, if_pos rfl, if_pos h4]
                  simp only [eq_self, ↓ew_s, ↓ew_n, ↓ew_e, ↓ew_c', ↓sw_q, ↓sw_m1, ↓sw_z, ↓sw_x, ↓then_n, ↓then_r, ↓blk_r, xw_some, cw_t, mk1_eq, rw_put, rw_other, n_c, n_mk, sl_put, x_bin, live_v, ne_eq, reduceCtorEq, not_false_eq_true, true_and, or_true, Pa.l.injEq, Pa.r.injEq, x_xe, p4, p5, z0, z1, z2, n1, live_v]
                  exact hE 0 (by rw [← hk2, hi]) _ _ (ual.step hnx5 fun _ _ => rfl)
                · have hi : unItem true out rest = .ok (out ++ List.replicate (rest.getD 0 0 - 125) (rest.getD 1 0), rest.drop 2) := by unfold unItem; rw [if_neg h3, if_pos rfl, if_neg (by omega)]
                  have y0 : extD hp5 (.tup [d5, iv 2, iv 0]) 0 = some d5 := ext3a how5.src
                  have y1 : extD hp5 (.tup [d5, iv 2, iv 0]) 1 = some (iv 2) := rfl
                  have y2 : extD hp5 (.tup [d5, iv 2, iv 0]) 2 = some (.v (.int .i64 0)) := rfl
                  simp only [eq_self, ↓ew_s, ↓ew_n, ↓ew_e, ↓ew_c', ↓sw_q, ↓sw_m1, ↓sw_z, ↓sw_x, ↓then_n, xw_some, cw_f, mk1_eq, rw_put, rw_other, n_c, n_mk, sl_put, x_bin, ne_eq, reduceCtorEq, not_false_eq_true, true_and, Pa.l.injEq, Pa.r.injEq, x_xe, t0, y0, y1, y2, n3]
                  exact ⟨_, 2, d5, hi, by omega, by omega, t1, rfl, rfl, u0.keep fun id hid => hfr5 id (od3 id hid) (hdis id hid), how5, hrg5.mono ual.le (Nat.le_refl _), ual.step hnx5 fun j hj => hfr5 j (by have := ual.le; omega) (fun h => by have := (ug j h).1; omega), by rw [List.length_append, List.length_replicate]; omega⟩
              | false =>
                simp only [eq_self, ↓ew_s, ↓ew_n, ↓ew_e, ↓ew_c', ↓sw_q, ↓sw_m1, ↓sw_z, ↓sw_x, ↓then_n, ↓then_r, ↓blk_r, xw_some, cw_f, mk1_eq, x_len, x_ia, x_ld, rw_put, rw_other, n_c, hp_put, nx_put, x_bin, live_v, ne_eq, reduceCtorEq, not_false_eq_true, true_and, or_true, decide_false, Pa.l.injEq, Pa.r.injEq, ↓z_sli, ↓z_cv, p4, p5, t0, t1, t6, q7, ib, f1, f2, f3, ub, c3, h3, b_lssN]
                refine sws_f (f := 44) (fs := []) (cs := []) (by rw [evt]; simp only [rw_put, rw_other, hp_put, ne_eq, reduceCtorEq, not_false_eq_true, Pa.l.injEq]; exact live_nil rfl) ?_
                simp only [List.map_cons, List.map_nil, List.nil_append, List.append_nil, rw_put, rw_other, hp_put, nx_put, sl_put, ne_eq, reduceCtorEq, not_false_eq_true]
                refine kn_copy44 (k + 3) _ _ _ d6 d0 out rest u6 u0 (fun id hid => (ug id hid).2) od3 hdis hrb hol (by omega) (fun h4 nx5 hnx5 => ?_) (fun h4 h5 nx5 hnx5 => ?_) (fun h4 h5 hp5 nx5 d5 hnx5 hfr5 how5 hrg5 => ?_)
                · have hi : unItem false out rest = .error 0 := by unfold unItem; rw [if_neg h3, if_neg (by simp), if_pos h4]
                  simp only [eq_self, ↓ew_s, ↓ew_n, ↓ew_e, ↓ew_c', ↓sw_q, ↓sw_m1, ↓sw_z, ↓sw_x, ↓then_n, ↓then_r, ↓blk_r, xw_some, cw_t, mk1_eq, rw_put, rw_other, n_c, n_mk, sl_put, x_bin, live_v, ne_eq, reduceCtorEq, not_false_eq_true, true_and, or_true, Pa.l.injEq, Pa.r.injEq, x_xe, p4, p5, z0, z1, z2, n1, live_v]
                  exact hE 0 (by rw [← hk2, hi]) _ _ (ual.step hnx5 fun _ _ => rfl)
                · have hi : unItem false out rest = .error 1 := by unfold unItem; rw [if_neg h3, if_neg (by simp), if_neg (by omega), if_pos h5]
                  simp only [eq_self, ↓ew_s, ↓ew_n, ↓ew_e, ↓ew_c', ↓sw_q, ↓sw_m1, ↓sw_z, ↓sw_x, ↓then_n, ↓then_r, ↓blk_r, xw_some, cw_t, mk1_eq, rw_put, rw_other, n_c, n_mk, sl_put, x_bin, live_v, ne_eq, reduceCtorEq, not_false_eq_true, true_and, or_true, Pa.l.injEq, Pa.r.injEq, x_xe, p4, p5, z0, z1, z2, n2, live_v]
                  exact hE 1 (by rw [← hk2, hi]) _ _ (ual.step hnx5 fun _ _ => rfl)
                · have hi : unItem false out rest = .ok (copyN (256 * rest.getD 1 0 + rest.getD 2 0) (rest.getD 0 0 - 124) out, rest.drop 3) := by unfold unItem; rw [if_neg h3, if_neg (by simp), if_neg (by omega), if_neg h5]
                  have y0 : extD hp5 (.tup [d5, iv 3, iv 0]) 0 = some d5 := ext3a how5.src
                  have y1 : extD hp5 (.tup [d5, iv 3, iv 0]) 1 = some (iv 3) := rfl
                  have y2 : extD hp5 (.tup [d5, iv 3, iv 0]) 2 = some (.v (.int .i64 0)) := rfl
                  simp only [eq_self, ↓ew_s, ↓ew_n, ↓ew_e, ↓ew_c', ↓sw_q, ↓sw_m1, ↓sw_z, ↓sw_x, ↓then_n, xw_some, cw_f, mk1_eq, rw_put, rw_other, n_c, n_mk, sl_put, x_bin, ne_eq, reduceCtorEq, not_false_eq_true, true_and, Pa.l.injEq, Pa.r.injEq, x_xe, t0, y0, y1, y2, n3]
                  exact ⟨_, 3, d5, hi, by omega, by omega, t1, rfl, rfl, u0.keep fun id hid => hfr5 id (od3 id hid) (hdis id hid), how5, hrg5.mono ual.le (Nat.le_refl _), ual.step hnx5 fun j hj => hfr5 j (by have := ual.le; omega) (fun h => by have := (ug j h).1; omega), by rw [copyN_len]; omega⟩
          · have eL : binD .gtr (.v (.int .i64 (out'.length : Int))) (.v (.int .i64 1048576)) = some (.v (.bool (decide (1048576 < out'.length)))) := b_gtrL 1048576 rfl
            rw [hi] at hk2
            by_cases h5 : 1048576 < out'.length
            · simp only [eq_self, ↓ew_s, ↓ew_n, ↓ew_e, ↓ew_c', ↓sw_q, ↓sw_m1, ↓sw_z, ↓sw_x, ↓then_n, ↓then_r, ↓blk_r, xw_some, cw_t, mk1_eq, x_len, rw_put, rw_other, n_c, hp_put, nx_put, x_bin, live_v, ne_eq, reduceCtorEq, not_false_eq_true, true_and, or_true, decide_true, p4, p5, v6, w6.src.len, eL, h5, live_v]
              exact hE 2 (by rw [← hk2]; simp only [if_pos h5]) _ _ wal
            · simp only [↓ew_s, ↓ew_n, ↓ew_e, ↓ew_c', ↓sw_q, ↓sw_m1, ↓sw_z, ↓sw_x, ↓then_n, xw_some, cw_f, mk1_eq, x_len, rw_put, rw_other, n_c, hp_put, x_bin, ne_eq, reduceCtorEq, not_false_eq_true, decide_false, Pa.l.injEq, ↓z_sli, v0, v6, v7, w6.src.len, eL, h5, ib]
              refine sw_sli (d := d0) (a := n) (z := rest.length) (l := rest) (by simp only [rw_put, rw_other, ne_eq, reduceCtorEq, not_false_eq_true, p44]) w0 (by simp only [bndD_some, n_ev, rw_put, hp_put, p45, live_v]; rfl) (fun n hn => by rw [hn]; exact bndD_none _ _) (by omega) (by omega) fun d8 hd8 hr8 => ?_
              simp only [↓sw_q, ↓sw_m1, ↓sw_z, ↓then_n, ↓blk_n, xw_some, mk1_eq, rw_put]
              have hdr : (rest.drop n).take (rest.length - n) = rest.drop n := List.take_of_length_le (by rw [List.length_drop]; omega)
              rw [hdr] at hd8
              refine ⟨(rest.drop n).length, by rw [List.length_drop]; omega, rest.drop n, out', d8, d7, rfl, by rw [List.length_drop]; omega, ⟨by simp only [rw_put], ?_, ?_, hd8, fun id hid => rf id (hr8 id hid), w6, wg, wal, fun x hx => hrb x (List.mem_of_mem_drop hx), by omega, k1, by rw [List.length_drop]; omega, ?_⟩⟩
              · simp only [rw_other, ne_eq, reduceCtorEq, not_false_eq_true, Pa.l.injEq]; exact v1
              · simp only [rw_other, ne_eq, reduceCtorEq, not_false_eq_true, Pa.r.injEq]; exact v6
              · rw [← hk2]; simp only [if_neg h5]
    · have hrest : rest = [] := by
        cases rest with
        | nil => rfl
        | cons x l => simp at h0
      subst hrest
      have hfin : unS rle b.length [] b = .ok out := by
        rw [← hk2]
        cases kk with
        | zero => rfl
        | succ k => unfold unS; simp
      simp only [eq_self, ↓ew_s, ↓ew_n, ↓ew_e, ↓ew_c', ↓sw_q, ↓sw_m1, ↓sw_z, ↓sw_x, ↓then_n, ↓then_x, ↓blk_x, xw_some, cw_f, mk1_eq, x_len, rw_put, rw_other, n_c, hp_put, nx_put, x_bin, live_v, ne_eq, reduceCtorEq, not_false_eq_true, true_and, or_true, decide_false, Pa.r.injEq, p4, p5, r0, r6, s0.len, eg, h0, ow.src.live, live_v]
      exact hK out hfin _ _ d6 al ow rg
  · simp only [rw_other, ne_eq, reduceCtorEq, not_false_eq_true]; exact a0
  · simp only [rw_other, ne_eq, reduceCtorEq, not_false_eq_true, Pa.l.injEq]; exact a1
  · simp only [rw_put]; rfl
  · exact e1 ▸ hs
  · show Al hp nx es.hp es.nx
    rw [e1, e2]; exact Al.refl _ _
end Go.DD

/- Chapter 03: bytes are compared; Unpack. Conditions: those that each theorem states. -/
namespace Go.DD
open Go Go.Proofs

theorem b_neqN (k : IntKind) (a b : Nat) : binD .neq (.v (.int k (a : Int))) (.v (.int k (b : Int))) = some (.v (.bool (!decide (a = b)))) := by
  rw [b_neq]
  have h : ((a : Int) != (b : Int)) = !decide (a = b) := by
    by_cases h : a = b
    · subst h; simp
    · have : ¬ (a : Int) = (b : Int) := by omega
      simp [h, this]
  rw [h]
theorem kn_eqb (k : Nat) (hp : Tr DObj) (nx : Nat) (K : DV → Tr DObj → Nat → Prop) (d1 d2 : DV) (l1 l2 : List Nat) (hs1 : Src hp d1 l1) (hs2 : Src hp d2 l2) (ho1 : Old nx d1) (ho2 : Old nx d2) (hl : l1.length < 900000)
    (hK : ∀ nx', nx ≤ nx' → K (.v (.bool (decide (l1 = l2)))) hp nx') : KW (kN (k + 1)) (.fn 21) [d1, d2] hp nx K := by
  refine kn_1 (relW_n (by decide)) t21 (Nat.le_of_ble_eq_true rfl) fun es e1 e2 he => ?_
  have a0 : rawE es (.t .o) = d1 := he 0 _ rfl
  have a1 : rawE es (.t (.l .o)) = d2 := he 1 _ rfl
  have u1 : Src es.hp d1 l1 := e1 ▸ hs1
  have u2 : Src es.hp d2 l2 := e1 ▸ hs2
  unfold r21
  by_cases hlen : l1.length = l2.length
  · simp only [eq_self, ↓ew_s, ↓ew_n, ↓ew_e, ↓ew_c', ↓ew_b, ↓sw_q, ↓sw_m1, ↓sw_z, ↓sw_x, ↓then_n, xw_some, cw_f, mk1_eq, x_len, rw_put, rw_other, n_c, hp_put, x_bin, ne_eq, reduceCtorEq, not_false_eq_true, Bool.not_true, decide_true, Pa.l.injEq, ↓z_l, a0, a1, u1.len, u2.len, b_neqN, hlen]
    refine EW.l (I := fun m es1 => ∃ i, m = l1.length - i ∧ i ≤ l1.length ∧ es1.hp = hp ∧ nx ≤ es1.nx ∧ rawE es1 (.t .o) = d1 ∧ rawE es1 (.t (.l .o)) = d2 ∧ rawE es1 (.t (.r (.l (.r .o)))) = iv (l1.length : Nat) ∧ rawE es1 (.t (.l (.r (.r .o)))) = iv (i : Nat) ∧ ∀ m, m < i → l1.getD m 0 = l2.getD m 0) ?_ l1.length 1000000 _ ⟨0, rfl, Nat.zero_le _, e1, by show nx ≤ es.nx; omega, ?_, ?_, ?_, ?_, fun m h => by omega⟩ (by omega)
    · rintro m es1 ⟨i, rfl, hi, g1, g2, q0, q1, q12, q13, hall⟩
      unfold l21_1
      have v1 : Src es1.hp d1 l1 := g1 ▸ hs1
      have v2 : Src es1.hp d2 l2 := g1 ▸ hs2
      have o1 : Old es1.nx d1 := fun id h => Nat.lt_of_lt_of_le (ho1 id h) g2
      have o2 : Old es1.nx d2 := fun id h => Nat.lt_of_lt_of_le (ho2 id h) g2
      by_cases h1 : i < l1.length
      · have h2 : i < l2.length := by omega
        by_cases h3 : l1.getD i 0 = l2.getD i 0
        · simp only [eq_self, ↓ew_s, ↓ew_n, ↓ew_e, ↓ew_c', ↓ew_b, ↓sw_q, ↓sw_m1, ↓sw_z, ↓sw_x, ↓then_n, ↓then_r, ↓blk_n, ↓blk_r, xw_some, cw_t, cw_f, mk1_eq, x_ia, x_ld, rw_put, rw_other, n_c, n_mk, hp_put, nx_put, sl_put, x_bin, live_v, ne_eq, reduceCtorEq, not_false_eq_true, and_true, true_and, or_true, and_self, Bool.not_true, decide_true, Pa.l.injEq, Pa.r.injEq, ↓sw_reg, ↓tw_q, ↓tw_z, ↓tw_chk, ↓tw_read, ↓chk_nil, ↓chk_cons, ro_v, okl_nops, look_f, ↓refsL_cons, ↓refs_nil, look_nil, refs_v, List.nil_append, List.append_nil, p4, q0, q1, q12, q13, iv, ub, b_lssN, b_neqN, h1, h3, v1.ia h1, v2.ia h2, v1.ld h1, v2.ld h2, v1.ro o1, v2.ro o2, v1.roa o1, v2.roa o2, b_add1 (show i < _ by omega)]
          refine ⟨l1.length - (i + 1), by omega, i + 1, rfl, by omega, g1, by omega, rfl, fun m hm => ?_⟩
          by_cases hmi : m = i
          · subst hmi; exact h3
          · exact hall m (by omega)
        · have hne : decide (l1 = l2) = false := decide_eq_false fun h => h3 (by rw [h])
          simp only [eq_self, ↓ew_s, ↓ew_n, ↓ew_e, ↓ew_c', ↓ew_b, ↓sw_q, ↓sw_m1, ↓sw_z, ↓sw_x, ↓then_n, ↓then_r, ↓blk_n, ↓blk_r, xw_some, cw_t, mk1_eq, x_ia, x_ld, rw_put, rw_other, n_c, n_mk, hp_put, nx_put, sl_put, x_bin, live_v, ne_eq, reduceCtorEq, not_false_eq_true, and_true, true_and, or_true, and_self, Bool.not_false, decide_true, decide_false, Pa.l.injEq, Pa.r.injEq, ↓sw_reg, ↓tw_q, ↓tw_z, ↓tw_chk, ↓tw_read, ↓chk_nil, ↓chk_cons, ro_v, okl_nops, look_f, ↓refsL_cons, ↓refs_nil, look_nil, refs_v, List.append_nil, p4, q0, q1, q12, q13, iv, ub, b_lssN, b_neqN, h1, h3, v1.ia h1, v2.ia h2, v1.ld h1, v2.ld h2, v1.ro o1, v2.ro o2, v1.roa o1, v2.roa o2, live_v]
          rw [← hne, g1]
          exact hK _ (by omega)
      · obtain rfl : i = l1.length := by omega
        have heq : decide (l1 = l2) = true := decide_eq_true (List.ext_getElem hlen fun m h h' => by
          have := hall m h
          rw [List.getD, List.getD, List.getElem?_eq_getElem h, List.getElem?_eq_getElem h'] at this
          simpa using this)
        simp only [eq_self, ↓ew_s, ↓ew_n, ↓ew_e, ↓ew_c', ↓sw_q, ↓sw_m1, ↓sw_z, ↓sw_x, ↓then_n, ↓then_x, ↓blk_x, xw_some, cw_f, mk1_eq, rw_put, n_c, hp_put, nx_put, x_bin, live_v, reduceCtorEq, true_and, or_true, decide_false, p4, q12, q13, iv, b_lssN, h1, live_v]
        rw [← heq, g1]
        exact hK _ (by omega)
    · simp only [rw_other, ne_eq, reduceCtorEq, not_false_eq_true]; exact a0
    · simp only [rw_other, ne_eq, reduceCtorEq, not_false_eq_true, Pa.l.injEq]; exact a1
    · simp only [rw_put, rw_other, ne_eq, reduceCtorEq, not_false_eq_true, hlen]; rfl
    · simp only [rw_put]; rfl
  · have hne : decide (l1 = l2) = false := decide_eq_false fun h => hlen (by rw [h])
    simp only [eq_self, ↓ew_s, ↓ew_n, ↓ew_e, ↓ew_c', ↓sw_q, ↓sw_m1, ↓sw_z, ↓sw_x, ↓then_n, ↓then_r, xw_some, cw_t, mk1_eq, x_len, rw_put, rw_other, n_c, hp_put, nx_put, x_bin, live_v, ne_eq, reduceCtorEq, not_false_eq_true, true_and, or_true, Bool.not_false, decide_false, Pa.l.injEq, p4, a0, a1, u1.len, u2.len, b_neqN, hlen, live_v]
    rw [← hne, e1, e2]
    exact hK nx (Nat.le_refl _)
theorem kn_lim (k : Nat) (hp : Tr DObj) (nx : Nat) (K : DV → Tr DObj → Nat → Prop) (d : DV) (l : List Nat) (hs : Src hp d l) (hl : l.length ≤ 1048576)
    (hK : ∀ nx', nx ≤ nx' → K (.tup [d, iv 0]) hp nx') : KW (kN (k + 1)) (.fn 34) [d] hp nx K := by
  refine kn_2 (relW_n (by decide)) t34 (Nat.le_of_ble_eq_true rfl) fun es e1 e2 he => ?_
  have a0 : rawE es (.t .o) = d := he 0 _ rfl
  have u1 : Src es.hp d l := e1 ▸ hs
  have h : ¬ (1048576 : Int) < (l.length : Int) := by omega
  unfold r34
  simp only [eq_self, ↓ew_s, ↓ew_n, ↓ew_e, ↓ew_c', ↓sw_q, ↓sw_m1, ↓sw_z, ↓sw_x, ↓then_n, xw_some, cw_f, mk1_eq, x_len, rw_put, rw_other, n_c, hp_put, nx_put, x_bin, live_v, ne_eq, reduceCtorEq, not_false_eq_true, true_and, or_true, gt_iff_lt, decide_false, p2, p3, a0, u1.len, b_gtr, h, u1.live, live_v]
  rw [e1, e2]
  exact hK nx (Nat.le_refl _)
/-- What a codec unpacks: the bytes, or an error's number. -/
def unC (c : Int) (b : List Nat) : Except Nat (List Nat) := if c = 1 then .ok b else unS (decide (c = 2)) b.length [] b
def KnC (c : Int) (d : DV) (l : List Nat) : Prop := c = 1 → Kn d l
theorem kn_un1 (k : Nat) (hp : Tr DObj) (nx : Nat) (K : DV → Tr DObj → Nat → Prop) (d : DV) (b : List Nat) (hs : Src hp d b) (hkn : Kn d b) (ho : Old nx d) (hl : b.length ≤ 1048576)
    (hK : ∀ hp' nx' d', Al hp nx hp' nx' → Res hp' d' b → Kn d' b → Rng nx nx' d' → K (.tup [d', iv 0]) hp' nx') : KW (kN (k + 2)) (.fn 33) [d] hp nx K := by
  refine kn_2 (relW_n (by decide)) t33 (Nat.le_of_ble_eq_true rfl) fun es e1 e2 he => ?_
  have a0 : rawE es (.t .o) = d := he 0 _ rfl
  unfold r33
  simp only [↓ew_s, ↓ew_n, ↓sw_q, ↓sw_m1, ↓sw_z, ↓then_n, xw_some, mk1_eq, List.map_cons, List.map_nil, rw_put, rw_other, n_c, hp_put, nx_put, ne_eq, reduceCtorEq, not_false_eq_true, ↓z_call, a0]
  refine kws (kn_clone k _ _ _ d b (e1 ▸ hs) (e2 ▸ ho) hkn (by omega) fun hp1 nx1 d1 h1 h2 h3 h4 => ?_)
  rw [e1, e2] at h1
  rw [e2] at h4
  simp only [↓sw_q, List.map_cons, List.map_nil, rw_put, n_mk, sl_put, ↓z_call]
  refine kws (kn_lim k _ _ _ d1 b h2.src hl fun nx2 hnx2 => ?_)
  have x0 : extD hp1 (.tup [d1, iv 0]) 0 = some d1 := ext20 h2.src
  have x1 : extD hp1 (.tup [d1, iv 0]) 1 = some (.v (.int .i64 0)) := ext21
  simp only [eq_self, ↓ew_e, ↓sw_q, ↓sw_m1, ↓sw_z, ↓sw_x, ↓then_n, xw_some, mk1_eq, rw_put, rw_other, n_mk, sl_put, live_v, ne_eq, reduceCtorEq, not_false_eq_true, true_and, or_true, Pa.r.injEq, x_xe, p2, p3, x0, x1, h2.src.live, live_v]
  exact hK _ _ _ (h1.step hnx2 fun _ _ => rfl) h2 h3 (h4.mono (Nat.le_refl _) hnx2)
theorem kn_un2 (k : Nat) (hp : Tr DObj) (nx : Nat) (K : DV → Tr DObj → Nat → Prop) (d : DV) (b : List Nat) (hs : Src hp d b) (ho : Old nx d) (hb : ∀ x ∈ b, x < 256) (hl : b.length < 400000)
    (hE : ∀ e, unS true b.length [] b = .error e → ∀ hp' nx', Al hp nx hp' nx' → K (.tup [nilS, iv (errC e)]) hp' nx')
    (hK : ∀ out, unS true b.length [] b = .ok out → ∀ hp' nx' d', Al hp nx hp' nx' → Own hp' d' out → Rng nx nx' d' → K (.tup [d', iv 0]) hp' nx') : KW (kN (k + 6)) (.fn 38) [d] hp nx K := by
  refine kn_2 (relW_n (by decide)) t38 (Nat.le_of_ble_eq_true rfl) fun es e1 e2 he => ?_
  have a0 : rawE es (.t .o) = d := he 0 _ rfl
  unfold r38
  simp only [↓ew_s, ↓ew_n, ↓sw_q, ↓sw_m1, ↓sw_z, ↓then_n, xw_some, mk1_eq, List.map_cons, List.map_nil, rw_put, rw_other, n_c, hp_put, nx_put, ne_eq, reduceCtorEq, not_false_eq_true, ↓z_call, a0]
  refine kws (kn_unpacked true k _ _ _ d b (e1 ▸ hs) (e2 ▸ ho) hb hl (fun e h hp1 nx1 h1 => ?_) (fun out h hp1 nx1 d1 h1 h2 h3 => ?_))
  · rw [e1, e2] at h1
    have x0 : extD hp1 (.tup [nilS, iv (errC e)]) 0 = some nilS := rfl
    have x1 : extD hp1 (.tup [nilS, iv (errC e)]) 1 = some (iv (errC e)) := rfl
    have ln : liveE hp1 nilS = nilS := live_nil rfl
    have li : ∀ c, liveE hp1 (iv c) = iv c := fun c => live_v _ _
    simp only [eq_self, ↓ew_e, ↓sw_q, ↓sw_m1, ↓sw_z, ↓sw_x, ↓then_n, xw_some, mk1_eq, rw_put, rw_other, n_mk, sl_put, ne_eq, reduceCtorEq, not_false_eq_true, true_and, or_true, x_xe, p2, p3, x0, x1, ln, li]
    exact hE e h _ _ h1
  · rw [e1, e2] at h1
    rw [e2] at h3
    have x0 : extD hp1 (.tup [d1, iv 0]) 0 = some d1 := ext20 h2.src
    have x1 : extD hp1 (.tup [d1, iv 0]) 1 = some (.v (.int .i64 0)) := ext21
    simp only [eq_self, ↓ew_e, ↓sw_q, ↓sw_m1, ↓sw_z, ↓sw_x, ↓then_n, xw_some, mk1_eq, rw_put, rw_other, n_mk, sl_put, live_v, ne_eq, reduceCtorEq, not_false_eq_true, true_and, or_true, x_xe, p2, p3, x0, x1, h2.src.live, live_v]
    exact hK out h _ _ _ h1 h2 h3
theorem kn_un3 (k : Nat) (hp : Tr DObj) (nx : Nat) (K : DV → Tr DObj → Nat → Prop) (d : DV) (b : List Nat) (hs : Src hp d b) (ho : Old nx d) (hb : ∀ x ∈ b, x < 256) (hl : b.length < 400000)
    (hE : ∀ e, unS false b.length [] b = .error e → ∀ hp' nx', Al hp nx hp' nx' → K (.tup [nilS, iv (errC e)]) hp' nx')
    (hK : ∀ out, unS false b.length [] b = .ok out → ∀ hp' nx' d', Al hp nx hp' nx' → Own hp' d' out → Rng nx nx' d' → K (.tup [d', iv 0]) hp' nx') : KW (kN (k + 6)) (.fn 43) [d] hp nx K := by
  refine kn_2 (relW_n (by decide)) t43 (Nat.le_of_ble_eq_true rfl) fun es e1 e2 he => ?_
  have a0 : rawE es (.t .o) = d := he 0 _ rfl
  unfold r43
  simp only [↓ew_s, ↓ew_n, ↓sw_q, ↓sw_m1, ↓sw_z, ↓then_n, xw_some, mk1_eq, List.map_cons, List.map_nil, rw_put, rw_other, n_c, hp_put, nx_put, ne_eq, reduceCtorEq, not_false_eq_true, ↓z_call, a0]
  refine kws (kn_unpacked false k _ _ _ d b (e1 ▸ hs) (e2 ▸ ho) hb hl (fun e h hp1 nx1 h1 => ?_) (fun out h hp1 nx1 d1 h1 h2 h3 => ?_))
  · rw [e1, e2] at h1
    have x0 : extD hp1 (.tup [nilS, iv (errC e)]) 0 = some nilS := rfl
    have x1 : extD hp1 (.tup [nilS, iv (errC e)]) 1 = some (iv (errC e)) := rfl
    have ln : liveE hp1 nilS = nilS := live_nil rfl
    have li : ∀ c, liveE hp1 (iv c) = iv c := fun c => live_v _ _
    simp only [eq_self, ↓ew_e, ↓sw_q, ↓sw_m1, ↓sw_z, ↓sw_x, ↓then_n, xw_some, mk1_eq, rw_put, rw_other, n_mk, sl_put, ne_eq, reduceCtorEq, not_false_eq_true, true_and, or_true, x_xe, p2, p3, x0, x1, ln, li]
    exact hE e h _ _ h1
  · rw [e1, e2] at h1
    rw [e2] at h3
    have x0 : extD hp1 (.tup [d1, iv 0]) 0 = some d1 := ext20 h2.src
    have x1 : extD hp1 (.tup [d1, iv 0]) 1 = some (.v (.int .i64 0)) := ext21
    simp only [eq_self, ↓ew_e, ↓sw_q, ↓sw_m1, ↓sw_z, ↓sw_x, ↓then_n, xw_some, mk1_eq, rw_put, rw_other, n_mk, sl_put, live_v, ne_eq, reduceCtorEq, not_false_eq_true, true_and, or_true, x_xe, p2, p3, x0, x1, h2.src.live, live_v]
    exact hK out h _ _ _ h1 h2 h3
end Go.DD

/- Chapter 03: Unpack. Conditions: those that each theorem states. -/
namespace Go.DD
open Go Go.Proofs

theorem kn_unpackN (k : Nat) (hp : Tr DObj) (nx : Nat) (K : DV → Tr DObj → Nat → Prop) (c : Int) (d : DV) (hc : codC c = [.v .nilFunc, .v .nilFunc])
    (hK : ∀ hp' nx', Al hp nx hp' nx' → K (.tup [nilS, iv 2]) hp' nx') : KW (kN (k + 2)) (.fn 12) [iv c, d] hp nx K := by
  refine kn_2 (relW_n (by decide)) t12 (Nat.le_of_ble_eq_true rfl) fun es e1 e2 he => ?_
  have a0 : rawE es (.t .o) = iv c := he 0 _ rfl
  have a1 : rawE es (.t (.l .o)) = d := he 1 _ rfl
  unfold r12
  simp only [↓ew_s, ↓ew_n, ↓sw_q, ↓sw_m1, ↓sw_z, ↓then_n, xw_some, mk1_eq, List.map_cons, List.map_nil, rw_put, rw_other, n_c, hp_put, nx_put, ne_eq, reduceCtorEq, not_false_eq_true, ↓z_call, a0]
  refine kws (kn_codecs k _ _ _ c fun hp1 nx1 hal1 => ?_)
  rw [hc]
  rw [e1, e2] at hal1
  simp only [↓sw_q, sl_put, ↓z_al]
  refine sws_al fun hp2 hg2 hk2 => ?_
  simp only [ne_eq] at hg2 hk2
  simp only [↓sw_q, sl_put, ↓z_st]
  refine sw_sta (n := 2) (id := nx1) (ds := [.v .nilFunc, .v .nilFunc]) (by simp only [rw_put, n_mk]) hg2 (by simp only [evt, rw_put, rw_other, n_mk, ne_eq, reduceCtorEq, not_false_eq_true, Pa.r.injEq]; exact live_nil rfl) rfl rfl fun hp3 hg3 hk3 => ?_
  simp only [ne_eq] at hg3 hk3
  have hld : ldD hp3 none (.pt nx1 0) = some (.v .nilFunc) := by rw [ld_p hg3]; rfl
  have hfa : faD hp3 0 (.pt nx1 0) = some (.pt nx1 0) := fa_p hg3
  simp only [put_n, ↓ew_s, ↓ew_n, ↓ew_b, ↓sw_q, ↓sw_z, ↓sw_x, ↓then_n, xw_some, x_ld, x_fa, rw_put, n_mk, sl_put, ↓z_nil, hfa, hld]
  refine sws_nil true (by simp only [n_ev, rw_put, n_mk, p13]; rfl) rfl ?_
  simp only [eq_self, ↓ew_s, ↓ew_n, ↓ew_e, ↓ew_c', ↓sw_q, ↓sw_m1, ↓sw_z, ↓then_n, ↓then_r, ↓blk_r, xw_some, cw_t, mk1_eq, rw_put, rw_other, n_c, n_mk, sl_put, live_v, ne_eq, reduceCtorEq, not_false_eq_true, true_and, or_true, Bool.not_false, p4, p5, Bool.bne_true]
  refine hK _ _ ⟨by have := hal1.le; omega, fun j hj => ?_⟩
  have := hal1.le
  rw [hk3 j (by omega), hk2 j (by omega)]
  exact hal1.same j hj
theorem errC_ne (e : Nat) : binD .neq (iv (errC e)) (.v (.int .i64 0)) = some (.v (.bool true)) := by
  unfold errC
  split
  · rfl
  · split <;> rfl
theorem kn_unpackF (k : Nat) (hp : Tr DObj) (nx : Nat) (K : DV → Tr DObj → Nat → Prop) (c : Int) (d : DV) (b : List Nat) (f g : Nat) (un : Except Nat (List Nat)) (pk : List Nat → List Nat) (P : DV → List Nat → Prop) (hc : codC c = [fnv f, fnv g]) (hs : Src hp d b) (ho : Old nx d) (hl : b.length < 400000)
    (hcg : ∀ hp nx (K : DV → Tr DObj → Nat → Prop), Src hp d b → Old nx d → (∀ e, un = .error e → ∀ hp' nx', Al hp nx hp' nx' → K (.tup [nilS, iv (errC e)]) hp' nx') → (∀ out, un = .ok out → ∀ hp' nx' d', Al hp nx hp' nx' → Res hp' d' out → P d' out → Rng nx nx' d' → K (.tup [d', iv 0]) hp' nx') → KW (kN (k + 7)) (.fn g) [d] hp nx K)
    (hcf : ∀ out d' hp nx (K : DV → Tr DObj → Nat → Prop), un = .ok out → Src hp d' out → P d' out → Old nx d' → (∀ hp' nx' d2, Al hp nx hp' nx' → Res hp' d2 (pk out) → Rng nx nx' d2 → K d2 hp' nx') → KW (kN (k + 7)) (.fn f) [d'] hp nx K)
    (hpl : ∀ out, un = .ok out → (pk out).length < 900000)
    (hE : ∀ e, un = .error e → ∀ hp' nx', Al hp nx hp' nx' → K (.tup [nilS, iv (errC e)]) hp' nx')
    (hF : ∀ out, un = .ok out → pk out ≠ b → ∀ hp' nx', Al hp nx hp' nx' → K (.tup [nilS, iv 7]) hp' nx')
    (hK : ∀ out, un = .ok out → pk out = b → ∀ hp' nx' d', Al hp nx hp' nx' → Res hp' d' out → Rng nx nx' d' → K (.tup [d', iv 0]) hp' nx') : KW (kN (k + 8)) (.fn 12) [iv c, d] hp nx K := by
  refine kn_2 (relW_n (by decide)) t12 (Nat.le_of_ble_eq_true rfl) fun es e1 e2 he => ?_
  have a0 : rawE es (.t .o) = iv c := he 0 _ rfl
  have a1 : rawE es (.t (.l .o)) = d := he 1 _ rfl
  unfold r12
  simp only [↓ew_s, ↓ew_n, ↓sw_q, ↓sw_m1, ↓sw_z, ↓then_n, xw_some, mk1_eq, List.map_cons, List.map_nil, rw_put, rw_other, n_c, hp_put, nx_put, ne_eq, reduceCtorEq, not_false_eq_true, ↓z_call, a0]
  refine kws (kn_codecs (k + 6) _ _ _ c fun hp1 nx1 hal1 => ?_)
  rw [hc]
  rw [e1, e2] at hal1
  simp only [↓sw_q, sl_put, ↓z_al]
  refine sws_al fun hp2 hg2 hk2 => ?_
  simp only [ne_eq] at hg2 hk2
  simp only [↓sw_q, sl_put, ↓z_st]
  refine sw_sta (n := 2) (id := nx1) (ds := [fnv f, fnv g]) (by simp only [rw_put, n_mk]) hg2 (by simp only [evt, rw_put, rw_other, n_mk, ne_eq, reduceCtorEq, not_false_eq_true, Pa.r.injEq]; exact live_nil rfl) rfl rfl fun hp3 hg3 hk3 => ?_
  simp only [ne_eq] at hg3 hk3
  have hld : ∀ hp : Tr DObj, hp.get nx1 = some (.row 54 [fnv f, fnv g]) → ldD hp none (.pt nx1 0) = some (fnv f) ∧ faD hp 0 (.pt nx1 0) = some (.pt nx1 0) ∧ ldD hp none (.pt nx1 1) = some (fnv g) ∧ faD hp 1 (.pt nx1 0) = some (.pt nx1 1) := fun hp h => ⟨by rw [ld_p h]; rfl, fa_p h, by rw [ld_p h]; rfl, fa_p h⟩
  obtain ⟨y1, y2, y3, y4⟩ := hld hp3 hg3
  have hal3 : Al hp nx hp3 (nx1 + 1) := ⟨by have := hal1.le; omega, fun j hj => by
    have := hal1.le
    rw [hk3 j (by omega), hk2 j (by omega)]
    exact hal1.same j hj⟩
  have hs3 : Src hp3 d b := hs.al ho hal3
  have hlen : ¬ (1056768 : Int) < (b.length : Int) := by omega
  simp only [put_n, ↓ew_s, ↓ew_n, ↓ew_b, ↓sw_q, ↓sw_z, ↓sw_x, ↓then_n, xw_some, x_ld, x_fa, rw_put, n_mk, sl_put, ↓z_nil, y1, y2]
  refine sws_nil false (by simp only [n_ev, rw_put, n_mk, p13]; rw [show liveE hp3 (fnv f) = fnv f from live_nil rfl]; rfl) rfl ?_
  simp only [↓ew_s, ↓ew_n, ↓ew_e, ↓ew_c', ↓sw_q, ↓sw_m1, ↓sw_z, ↓sw_x, ↓then_n, ↓blk_n, xw_some, cw_f, mk1_eq, x_len, x_ld, x_fa, rw_put, rw_other, n_c, n_mk, sl_put, x_bin, ne_eq, reduceCtorEq, not_false_eq_true, gt_iff_lt, decide_false, Pa.l.injEq, Pa.r.injEq, ↓z_cv, Bool.xor_false, a1, hs3.len, b_gtr, hlen, y3, y4]
  refine sws_f (f := g) (fs := []) (cs := []) (by rw [evt]; simp only [rw_put, rw_other, n_mk, ne_eq, reduceCtorEq, not_false_eq_true]; exact live_nil rfl) ?_
  simp only [List.map_cons, List.map_nil, List.nil_append, List.append_nil, rw_put, n_mk, sl_put]
  refine hcg _ _ _ hs3 (ho.mono hal3.le) (fun e hu hp4 nx4 h1 => ?_) (fun out hu hp4 nx4 d4 h1 h2 h3 h4 => ?_)
  · have x0 : extD hp4 (.tup [nilS, iv (errC e)]) 0 = some nilS := rfl
    have x1 : extD hp4 (.tup [nilS, iv (errC e)]) 1 = some (iv (errC e)) := rfl
    have li : ∀ c, liveE hp4 (iv c) = iv c := fun c => live_v _ _
    simp only [eq_self, ↓ew_s, ↓ew_n, ↓ew_e, ↓ew_c', ↓sw_q, ↓sw_m1, ↓sw_z, ↓sw_x, ↓then_n, ↓then_r, xw_some, cw_t, mk1_eq, rw_put, rw_other, n_c, n_mk, sl_put, x_bin, live_v, ne_eq, reduceCtorEq, not_false_eq_true, true_and, or_true, Pa.l.injEq, Pa.r.injEq, x_xe, p4, p5, x0, x1, li, errC_ne, live_v]
    exact hE e hu _ _ (hal3.trans h1)
  · have x0 : extD hp4 (.tup [d4, iv 0]) 0 = some d4 := ext20 h2.src
    have x1 : extD hp4 (.tup [d4, iv 0]) 1 = some (.v (.int .i64 0)) := ext21
    have n0 : binD .neq (.v (.int .i64 0)) (.v (.int .i64 0)) = some (.v (.bool false)) := rfl
    have hg4 : hp4.get nx1 = some (.row 54 [fnv f, fnv g]) := by rw [h1.same nx1 (by omega)]; exact hg3
    obtain ⟨y1, y2, _, _⟩ := hld hp4 hg4
    simp only [↓ew_s, ↓ew_n, ↓ew_e, ↓ew_c', ↓sw_q, ↓sw_m1, ↓sw_z, ↓sw_x, ↓then_n, xw_some, cw_f, mk1_eq, x_ld, x_fa, rw_put, rw_other, n_c, n_mk, sl_put, x_bin, ne_eq, reduceCtorEq, not_false_eq_true, Pa.l.injEq, Pa.r.injEq, ↓z_cv, x_xe, x0, x1, n0, y1, y2]
    refine sws_f (f := f) (fs := []) (cs := []) (by rw [evt]; simp only [rw_put, rw_other, n_mk, ne_eq, reduceCtorEq, not_false_eq_true]; exact live_nil rfl) ?_
    simp only [List.map_cons, List.map_nil, List.nil_append, List.append_nil, rw_put, n_mk, sl_put]
    refine hcf out d4 _ _ _ hu h2.src h3 (fun id hid => (h4 id hid).2) fun hp5 nx5 d5 g1 g2 g3 => ?_
    have hs5 : Src hp5 d b := (hs3.al (ho.mono hal3.le) h1).al (ho.mono (Nat.le_trans hal3.le h1.le)) g1
    have hr5 : Res hp5 d4 out := by
      rcases h2 with h | h
      · exact .inl (h.keep fun id hid => g1.same id (h4 id hid).2)
      · exact .inr h
    simp only [↓sw_q, ↓sw_m1, xw_some, mk1_eq, List.map_cons, List.map_nil, rw_put, rw_other, n_mk, sl_put, ne_eq, reduceCtorEq, not_false_eq_true, Pa.l.injEq, ↓z_call, a1]
    refine kws (kn_eqb (k + 6) _ _ _ d5 d (pk out) b g2.src hs5 (fun id hid => (g3 id hid).2) (ho.mono (Nat.le_trans hal3.le (Nat.le_trans h1.le g1.le))) (hpl out hu) fun nx6 hnx6 => ?_)
    have hal6 : Al hp nx hp5 nx6 := (hal3.trans (h1.trans g1)).step hnx6 fun _ _ => rfl
    by_cases hpb : pk out = b
    · simp only [eq_self, ↓ew_s, ↓ew_n, ↓ew_e, ↓ew_c', ↓sw_q, ↓sw_m1, ↓sw_z, ↓sw_x, ↓then_n, xw_some, cw_f, mk1_eq, rw_put, rw_other, n_c, n_mk, sl_put, x_un, n_not, live_v, ne_eq, reduceCtorEq, not_false_eq_true, true_and, or_true, Bool.not_true, decide_true, Pa.l.injEq, p4, p5, hpb, hr5.src.live, live_v]
      have := hal3.le
      exact hK out hu hpb _ _ _ hal6 hr5 (h4.mono (by omega) (Nat.le_trans g1.le hnx6))
    · simp only [eq_self, ↓ew_s, ↓ew_n, ↓ew_e, ↓ew_c', ↓sw_q, ↓sw_m1, ↓sw_z, ↓sw_x, ↓then_n, ↓then_r, xw_some, cw_t, mk1_eq, rw_put, rw_other, n_c, n_mk, sl_put, x_un, n_not, live_v, ne_eq, reduceCtorEq, not_false_eq_true, true_and, or_true, Bool.not_false, decide_false, p4, p5, hpb, live_v]
      exact hF out hu hpb _ _ hal6
end Go.DD

/- Chapter 03: Unpack. Conditions: those that each theorem states. -/
namespace Go.DD
open Go Go.Proofs

theorem copyN_mem {far : Nat} : ∀ (k : Nat) (o : List Nat), 1 ≤ far → far ≤ o.length → (∀ x ∈ o, x < 256) → ∀ x ∈ copyN far k o, x < 256
  | 0, o, _, _, h => h
  | k + 1, o, h1, h2, h => by
    refine copyN_mem k _ h1 (by simp; omega) fun x hx => ?_
    rcases List.mem_append.1 hx with hx | hx
    · exact h x hx
    · rw [List.mem_singleton] at hx
      subst hx
      exact byte_lt h _
theorem unItem_ok {rle : Bool} {o b o' r : List Nat} (hb : ∀ x ∈ b, x < 256) (ho : ∀ x ∈ o, x < 256) (h0 : 0 < b.length) (h : unItem rle o b = .ok (o', r)) : (∀ x ∈ o', x < 256) ∧ (∀ x ∈ r, x < 256) ∧ o'.length + 131 * r.length ≤ o.length + 131 * b.length ∧ r.length < b.length := by
  have b0 := byte_lt hb 0
  unfold unItem at h
  split at h
  · split at h
    · cases h
    · cases h
      refine ⟨fun x hx => ?_, fun x hx => hb x (List.mem_of_mem_drop hx), ?_, ?_⟩
      · rcases List.mem_append.1 hx with hx | hx
        · exact ho x hx
        · exact hb x (List.mem_of_mem_drop (List.mem_of_mem_take hx))
      · rw [List.length_append, List.length_take, List.length_drop, List.length_drop]; omega
      · rw [List.length_drop]; omega
  · split at h
    · split at h
      · cases h
      · cases h
        refine ⟨fun x hx => ?_, fun x hx => hb x (List.mem_of_mem_drop hx), ?_, ?_⟩
        · rcases List.mem_append.1 hx with hx | hx
          · exact ho x hx
          · rw [(List.mem_replicate.1 hx).2]; exact byte_lt hb 1
        · rw [List.length_append, List.length_replicate, List.length_drop]; omega
        · rw [List.length_drop]; omega
    · split at h
      · cases h
      · split at h
        · cases h
        · obtain ⟨h1, h2⟩ := Prod.mk.inj (Except.ok.inj h)
          rw [← h1, ← h2]
          refine ⟨copyN_mem _ _ (by omega) (by omega) ho, fun x hx => hb x (List.mem_of_mem_drop hx), ?_, ?_⟩
          · rw [copyN_len, List.length_drop]; omega
          · rw [List.length_drop]; omega
theorem unS_ok {rle : Bool} : ∀ (k : Nat) {o b out : List Nat}, (∀ x ∈ b, x < 256) → (∀ x ∈ o, x < 256) → unS rle k o b = .ok out → (∀ x ∈ out, x < 256) ∧ out.length ≤ o.length + 131 * b.length
  | 0, o, b, out, _, ho, h => by
    cases h
    exact ⟨ho, by omega⟩
  | k + 1, o, b, out, hb, ho, h => by
    by_cases h0 : 0 < b.length
    · rw [unS_step h0] at h
      cases hi : unItem rle o b with
      | error e => rw [hi] at h; cases h
      | ok p =>
        obtain ⟨o', r⟩ := p
        rw [hi] at h
        simp only at h
        split at h
        · cases h
        · obtain ⟨h1, h2, h3, h4⟩ := unItem_ok hb ho h0 hi
          obtain ⟨h5, h6⟩ := unS_ok k h2 h1 h
          exact ⟨h5, by omega⟩
    · rw [unS, if_pos (by omega)] at h
      cases h
      exact ⟨ho, by omega⟩
theorem kn_unpack (k : Nat) (hp : Tr DObj) (nx : Nat) (K : DV → Tr DObj → Nat → Prop) (c : Int) (d : DV) (b : List Nat) (hs : Src hp d b) (hkn : c = 1 → Kn d b) (ho : Old nx d) (hb : ∀ x ∈ b, x < 256) (hl : b.length ≤ 2000)
    (hN : c < 1 ∨ 3 < c → ∀ hp' nx', Al hp nx hp' nx' → K (.tup [nilS, iv 2]) hp' nx')
    (hE : ¬ (c < 1 ∨ 3 < c) → ∀ e, unC c b = .error e → ∀ hp' nx', Al hp nx hp' nx' → K (.tup [nilS, iv (errC e)]) hp' nx')
    (hF : ¬ (c < 1 ∨ 3 < c) → ∀ out, unC c b = .ok out → packC c out ≠ b → ∀ hp' nx', Al hp nx hp' nx' → K (.tup [nilS, iv 7]) hp' nx')
    (hK : ¬ (c < 1 ∨ 3 < c) → ∀ out, unC c b = .ok out → packC c out = b → ∀ hp' nx' d', Al hp nx hp' nx' → Res hp' d' out → Rng nx nx' d' → K (.tup [d', iv 0]) hp' nx') : KW (kN (k + 8)) (.fn 12) [iv c, d] hp nx K := by
  by_cases hc : c < 1 ∨ 3 < c
  · exact kn_unpackN (k + 6) hp nx K c d (by unfold codC; rw [if_neg (by omega), if_neg (by omega), if_neg (by omega)]) (hN hc)
  · have hE := hE hc
    have hF := hF hc
    have hK := hK hc
    have hok : ∀ out, unC c b = .ok out → (∀ x ∈ out, x < 256) ∧ out.length < 400000 := fun out h => by
      unfold unC at h
      split at h
      · cases h; exact ⟨hb, by omega⟩
      · have := unS_ok _ hb (fun _ h => by cases h) h
        exact ⟨this.1, by have := this.2; simp at this; omega⟩
    have hpl : ∀ out, unC c b = .ok out → (packC c out).length < 900000 := fun out h => by
      have := (hok out h).2
      have := packC_len (c := c) (b := out) (by omega)
      omega
    by_cases h1 : c = 1
    · have hpk : ∀ l, packC c l = l := fun l => by unfold packC; rw [if_neg hc, if_pos h1]
      have hun : unC c b = .ok b := by unfold unC; rw [if_pos h1]
      rw [hun] at hE hF hK hok hpl
      exact kn_unpackF k hp nx K c d b 32 33 (.ok b) (packC c) (fun d' l => Kn d' l) (by unfold codC; rw [if_pos h1]) hs ho (by omega)
        (fun hp nx K h2 h3 h4 h5 => kn_un1 (k + 5) hp nx K d b h2 (hkn h1) h3 (by omega) fun hp' nx' d' g1 g2 g3 g4 => h5 b rfl hp' nx' d' g1 g2 g3 g4)
        (fun out d' hp nx K hu h2 h3 h4 h5 => kn_pp (k + 5) hp nx K d' out h2 h3 h4 (by have := (hok out hu).2; omega) fun hp' nx' d2 g1 g2 _ g4 => h5 hp' nx' d2 g1 (by rw [hpk]; exact g2) g4) hpl hE hF hK
    · by_cases h2 : c = 2
      · have hpk : ∀ l, packC c l = pack itemR l := fun l => by unfold packC; rw [if_neg hc, if_neg h1, if_pos h2]
        have hun : unC c b = unS true b.length [] b := by unfold unC; rw [if_neg h1, decide_eq_true h2]
        rw [hun] at hE hF hK hok hpl
        exact kn_unpackF k hp nx K c d b 35 38 (unS true b.length [] b) (packC c) (fun _ _ => True) (by unfold codC; rw [if_neg h1, if_pos h2]) hs ho (by omega)
          (fun hp nx K h2 h3 h4 h5 => kn_un2 (k + 1) hp nx K d b h2 h3 hb (by omega) h4 fun out hu hp' nx' d' g1 g2 g3 => h5 out hu hp' nx' d' g1 (.inl g2) trivial g3)
          (fun out d' hp nx K hu h2 _ h4 h5 => kn_pr (k + 3) hp nx K d' out h2 h4 (hok out hu).2 fun hp' nx' d2 g1 g2 g4 => h5 hp' nx' d2 g1 (.inl (by rw [hpk]; exact g2)) g4) hpl hE hF hK
      · have hpk : ∀ l, packC c l = pack itemL l := fun l => by unfold packC; rw [if_neg hc, if_neg h1, if_neg h2]
        have hun : unC c b = unS false b.length [] b := by unfold unC; rw [if_neg h1, decide_eq_false h2]
        rw [hun] at hE hF hK hok hpl
        exact kn_unpackF k hp nx K c d b 41 43 (unS false b.length [] b) (packC c) (fun _ _ => True) (by unfold codC; rw [if_neg h1, if_neg h2, if_pos (by omega)]) hs ho (by omega)
          (fun hp nx K h2 h3 h4 h5 => kn_un3 (k + 1) hp nx K d b h2 h3 hb (by omega) h4 fun out hu hp' nx' d' g1 g2 g3 => h5 out hu hp' nx' d' g1 (.inl g2) trivial g3)
          (fun out d' hp nx K hu h2 _ h4 h5 => kn_pl k hp nx K d' out h2 h4 (hok out hu).1 (hok out hu).2 fun hp' nx' d2 g1 g2 g4 => h5 hp' nx' d2 g1 (.inl (by rw [hpk]; exact g2)) g4) hpl hE hF hK
end Go.DD

/- Chapter 03: ChunkBack returns true: as a contract. Conditions: the package's variable half holds what the text lays. -/
namespace Go.DD
open Go Go.Proofs

theorem step_byte {s : PS} {x : List Nat} (hs : ∀ y ∈ s.out, y < 256) (hx : ∀ y ∈ x, y < 256) : ∀ y ∈ (s.step x).out, y < 256 := by
  have h0 := byte_lt hx 0
  have hz : ∀ y ∈ s.out ++ [0, x.getD 0 0], y < 256 := fun y hy => by
    rcases List.mem_append.1 hy with hy | hy
    · exact hs y hy
    · simp only [List.mem_cons, List.mem_nil_iff, or_false] at hy
      omega
  unfold PS.step
  split
  · intro y hy
    rcases List.mem_append.1 hy with hy | hy
    · exact hs y hy
    · exact hx y hy
  · split
    · split
      · intro y hy
        rcases List.mem_append.1 hy with hy | hy
        · rcases List.mem_or_eq_of_mem_set hy with hy | hy
          · exact hs y hy
          · omega
        · rw [List.mem_singleton] at hy; omega
      · exact hz
    · exact hz
theorem packS_byte {item : List Nat → Nat → Nat × List Nat} {b : List Nat} (hx : ∀ i, ∀ y ∈ (item b i).2, y < 256) : ∀ (k i : Nat) (s : PS), (∀ y ∈ s.out, y < 256) → ∀ y ∈ (packS item b k i s).out, y < 256
  | 0, _, _, h => h
  | k + 1, i, s, h => by
    unfold packS
    split
    · exact packS_byte hx k _ _ (step_byte h (hx i))
    · exact h
theorem packC_byte {c : Int} {b : List Nat} (hb : ∀ x ∈ b, x < 256) : ∀ x ∈ packC c b, x < 256 := by
  unfold packC
  split
  · intro x h; cases h
  · split
    · exact hb
    · split
      · refine packS_byte (fun i y hy => ?_) _ _ _ (fun y h => by cases h)
        have h0 := byte_lt hb i
        have h1 := same_le b i (i + 1) 129
        unfold itemR at hy
        split at hy <;> (simp only [List.mem_cons, List.mem_nil_iff, or_false] at hy; omega)
      · refine packS_byte (fun i y hy => ?_) _ _ _ (fun y h => by cases h)
        have h0 := byte_lt hb i
        have h1 := lz_fact b i
        unfold itemL at hy
        split at hy <;> (simp only [List.mem_cons, List.mem_nil_iff, or_false] at hy; omega)
theorem unC_back {c : Int} {b : List Nat} (hc : ¬ (c < 1 ∨ 3 < c)) (hb : b.length ≤ 1048576) : unC c (packC c b) = .ok b := by
  unfold unC packC
  rw [if_neg hc]
  by_cases h1 : c = 1
  · rw [if_pos h1, if_pos h1]
  · rw [if_neg h1, if_neg h1]
    by_cases h2 : c = 2
    · rw [if_pos h2, decide_eq_true h2]
      exact back_un (back hb (itemR_ok hb) (itemR_x b) (itemR_1 b)).1
    · rw [if_neg h2, decide_eq_false h2]
      exact back_un (back hb (itemL_ok hb) (itemL_x b) (itemL_1 b)).1
theorem b_quo128 {a : Nat} (h : a < 9000000000000000000) : binD .quo (.v (.int .i64 (a : Int))) (.v (.int .i64 128)) = some (.v (.int .i64 ((a / 128 : Nat) : Int))) := by
  have e : IntKind.i64.wrap ((a : Int).tdiv 128) = ((a / 128 : Nat) : Int) := by
    rw [show (a : Int).tdiv 128 = ((a / 128 : Nat) : Int) from rfl, wrap_in (by omega)]
  simp [binD, binV, isSh, binI]
  rw [wrap_in (by omega)]
theorem law_back (c : Int) (b : List Nat) (hb : ∀ x ∈ b, x < 256) : Known Tryz.prog 6 [iv c, .sl (b.map ub) b.length] (.v (.bool true)) := by
  refine Known.run1 mixed te_ok (callN_ok (n := 1000000) mixed te_ok relW_ok 8) t6 (Nat.le_of_ble_eq_true rfl) (fun x hx => ?_) rfl (fun _ => rz_flat rfl) fun es he => ?_
  · simp only [List.mem_cons, List.mem_nil_iff, or_false] at hx
    rcases hx with rfl | rfl <;> rfl
  have a0 : rawE es (.t .o) = iv c := he 0 _ rfl
  have a1 : rawE es (.t (.l .o)) = .sl (b.map ub) b.length := he 1 _ rfl
  have hs : ∀ hp : Tr DObj, Src hp (.sl (b.map ub) b.length) b := fun hp => .sl b
  have hkn : Kn (.sl (b.map ub) b.length) b := by
    cases b with
    | nil => exact .inr (.inr rfl)
    | cons x l => exact .inl (by simp)
  have ho : ∀ n, Old n (.sl (b.map ub) b.length) := fun n id h => by cases h
  have hlen : ∀ hp : Tr DObj, lenD hp (.sl (b.map ub) b.length) = some (.v (.int .i64 (b.length : Int))) := fun hp => (hs hp).len
  generalize (DV.sl (b.map ub) b.length) = d at a1 hs hkn ho hlen
  unfold r6
  have e0 : binD .gtr (.v (.int .i64 (b.length : Int))) (.v (.int .i64 1500)) = some (.v (.bool (decide (1500 < b.length)))) := b_gtrL 1500 rfl
  by_cases h1 : 1500 < b.length
  · simp only [↓ew_s, ↓ew_n, ↓ew_c', ↓sw_q, ↓sw_m1, ↓sw_z, ↓sw_x, ↓then_n, xw_some, cw_t, mk1_eq, x_len, List.map_nil, rw_put, rw_other, n_c, hp_put, nx_put, x_bin, ne_eq, reduceCtorEq, not_false_eq_true, decide_true, ↓z_call, a1, hlen, e0, h1]
    refine kws (kn_works 7 _ _ _ ?_)
    simp only [eq_self, ↓ew_e, ↓sw_q, ↓sw_m1, ↓sw_z, ↓then_n, ↓then_r, xw_some, mk1_eq, rw_put, n_mk, sl_put, reduceCtorEq, or_true, and_self, p4]
  · have hpl := packC_len (c := c) (b := b) (by omega)
    simp only [↓ew_s, ↓ew_n, ↓ew_e, ↓ew_c', ↓sw_q, ↓sw_m1, ↓sw_z, ↓sw_x, ↓then_n, xw_some, cw_f, mk1_eq, x_len, List.map_cons, List.map_nil, rw_put, rw_other, n_c, hp_put, nx_put, x_bin, ne_eq, reduceCtorEq, not_false_eq_true, decide_false, Pa.l.injEq, ↓z_call, a0, a1, hlen, e0, h1]
    refine kws (kn_pack 0 _ _ _ c d b (hs _) hkn (ho _) hb (by omega) fun hp3 nx3 p hal3 hrp hkp hgp => ?_)
    have x0 : extD hp3 (.tup [p, iv (packE c)]) 0 = some p := ext20 hrp.src
    have x1 : extD hp3 (.tup [p, iv (packE c)]) 1 = some (iv (packE c)) := ext21
    by_cases hc : c < 1 ∨ 3 < c
    · have hpe : packE c = 2 := by unfold packE; rw [if_pos hc]
      have n2 : binD .neq (iv 2) (.v (.int .i64 0)) = some (.v (.bool true)) := rfl
      have q2 : binD .eql (iv 2) (.v (.int .i64 2)) = some (.v (.bool true)) := rfl
      rw [hpe] at x0 x1 ⊢
      simp only [↓ew_s, ↓ew_n, ↓ew_c', ↓sw_q, ↓sw_m1, ↓sw_z, ↓sw_x, ↓then_n, xw_some, cw_t, mk1_eq, List.map_cons, List.map_nil, rw_put, rw_other, n_c, n_mk, sl_put, x_bin, ne_eq, reduceCtorEq, not_false_eq_true, Pa.l.injEq, Pa.r.injEq, ↓z_call, x_xe, a0, a1, x0, x1, n2]
      refine kws (kn_unpack 0 _ _ _ c d b (hs _) (fun _ => hkn) (ho _) hb (by omega) (fun _ hp4 nx4 h4 => ?_) (fun h => absurd hc h) (fun h => absurd hc h) (fun h => absurd hc h))
      have y0 : extD hp4 (.tup [nilS, iv 2]) 0 = some nilS := rfl
      have y1 : extD hp4 (.tup [nilS, iv 2]) 1 = some (iv 2) := rfl
      have l1 : binD .lss (iv c) (.v (.int .i64 1)) = some (.v (.bool (decide (c < 1)))) := b_lss _ _ _
      have l3 : binD .gtr (iv c) (.v (.int .i64 3)) = some (.v (.bool (decide (3 < c)))) := b_gtr _ _ _
      by_cases hc1 : c < 1
      · simp only [eq_self, ↓ew_s, ↓ew_n, ↓sw_q, ↓sw_m1, ↓sw_z, ↓sw_x, ↓sw_g', gw_tt, gw_tf, ↓then_n, xw_some, mk1_eq, List.map_nil, rw_put, rw_other, n_c, n_mk, sl_put, x_bin, x_pick, pick_b, ne_eq, reduceCtorEq, not_false_eq_true, if_true, decide_true, Pa.l.injEq, Pa.r.injEq, ↓z_call, x_xe, a0, y0, y1, q2, l1, hc1]
        refine kws (kn_works 7 _ _ _ ?_)
        simp only [eq_self, ↓ew_e, ↓sw_q, ↓sw_m1, ↓sw_z, ↓sw_x, ↓then_n, ↓then_r, xw_some, mk1_eq, rw_put, rw_other, n_c, n_mk, sl_put, x_pick, pick_b, ne_eq, reduceCtorEq, not_false_eq_true, or_true, and_self, if_true, p4]
      · have hc3 : 3 < c := by omega
        simp only [eq_self, ↓ew_s, ↓ew_n, ↓sw_q, ↓sw_m1, ↓sw_z, ↓sw_x, ↓sw_g', gw_tt, gw_ff, ↓then_n, xw_some, mk1_eq, List.map_nil, rw_put, rw_other, n_c, n_mk, sl_put, x_bin, x_pick, pick_b, ne_eq, reduceCtorEq, not_false_eq_true, Bool.false_eq_true, if_true, if_false, decide_true, decide_false, Pa.l.injEq, Pa.r.injEq, ↓z_call, x_xe, a0, y0, y1, q2, l1, hc1, l3, hc3]
        refine kws (kn_works 7 _ _ _ ?_)
        simp only [eq_self, ↓ew_e, ↓sw_q, ↓sw_m1, ↓sw_z, ↓sw_x, ↓then_n, ↓then_r, xw_some, mk1_eq, rw_put, rw_other, n_c, n_mk, sl_put, x_pick, pick_b, ne_eq, reduceCtorEq, not_false_eq_true, or_true, and_self, if_true, p4]
    · have hpe : packE c = 0 := by unfold packE; rw [if_neg hc]
      have n2 : binD .neq (iv 0) (.v (.int .i64 0)) = some (.v (.bool false)) := rfl
      have q2 : binD .eql (iv 0) (.v (.int .i64 0)) = some (.v (.bool true)) := rfl
      rw [hpe] at x0 x1 ⊢
      simp only [↓ew_s, ↓ew_n, ↓ew_e, ↓ew_c', ↓sw_q, ↓sw_m1, ↓sw_z, ↓sw_x, ↓then_n, xw_some, cw_f, mk1_eq, List.map_cons, List.map_nil, rw_put, rw_other, n_c, n_mk, sl_put, x_bin, ne_eq, reduceCtorEq, not_false_eq_true, Pa.l.injEq, Pa.r.injEq, ↓z_call, x_xe, a0, x0, x1, n2]
      have hun := unC_back hc (show b.length ≤ 1048576 by omega)
      refine kws (kn_unpack 0 _ _ _ c p (packC c b) hrp.src (fun h => by have := hkp h; rw [show packC c b = b by unfold packC; rw [if_neg hc, if_pos h]]; exact this) (fun id hid => (hgp id hid).2) (packC_byte hb) (by omega) (fun h => absurd h hc) (fun _ e h => by rw [hun] at h; cases h) (fun _ out h hne => by rw [hun] at h; cases h; exact absurd rfl hne) (fun _ out h heq hp4 nx4 u h4 hu hgu => ?_))
      obtain rfl : b = out := by rw [hun] at h; exact Except.ok.inj h
      have y0 : extD hp4 (.tup [u, iv 0]) 0 = some u := ext20 hu.src
      have y1 : extD hp4 (.tup [u, iv 0]) 1 = some (iv 0) := ext21
      have hp4' : Src hp4 p (packC c b) := hrp.src.al (fun id hid => (hgp id hid).2) h4
      simp only [↓ew_s, ↓ew_n, ↓sw_q, ↓sw_m1, ↓sw_z, ↓sw_x, ↓sw_g', gw_tt, ↓then_n, xw_some, mk1_eq, rw_put, rw_other, n_c, n_mk, sl_put, x_bin, ne_eq, reduceCtorEq, not_false_eq_true, Pa.l.injEq, Pa.r.injEq, ↓z_b2s, x_xe, y0, y1, q2]
      refine sws_b2s (d := u) (l := b) (by simp only [rw_put, n_mk, p54]) hu.src ?_
      simp only [↓sw_q, ↓sw_m1, ↓sw_g', gw_tt, xw_some, mk1_eq, rw_put, rw_other, n_mk, sl_put, ne_eq, reduceCtorEq, not_false_eq_true, Pa.l.injEq, ↓z_b2s, a1]
      refine sws_b2s (d := d) (l := b) (by simp only [rw_put, n_mk, p56]) (hs _) ?_
      have c1 : binD .add (.v (.int .i64 (b.length : Int))) (.v (.int .i64 127)) = some (.v (.int .i64 ((b.length + 127 : Nat) : Int))) := b_addK 127 rfl (by omega)
      simp only [eq_self, ↓sw_q, ↓sw_m1, ↓sw_x, ↓sw_g', gw_tt, xw_some, mk1_eq, x_len, List.map_nil, rw_put, rw_other, n_c, n_mk, sl_put, x_bin, x_pick, pick_b, ne_eq, reduceCtorEq, not_false_eq_true, if_true, decide_true, Pa.l.injEq, Pa.r.injEq, ↓z_call, a1, b_eqlSS, hlen, hp4'.len, c1, b_quo128 (show b.length + 127 < _ by omega), b_addN (show b.length + (b.length + 127) / 128 < _ by omega), b_leqN, hpl]
      refine kws (kn_works 7 _ _ _ ?_)
      simp only [eq_self, ↓ew_e, ↓sw_q, ↓sw_m1, ↓sw_z, ↓sw_x, ↓then_n, xw_some, mk1_eq, rw_put, rw_other, n_c, n_mk, sl_put, x_pick, pick_b, ne_eq, reduceCtorEq, not_false_eq_true, or_true, and_self, if_true, p4]
end Go.DD
