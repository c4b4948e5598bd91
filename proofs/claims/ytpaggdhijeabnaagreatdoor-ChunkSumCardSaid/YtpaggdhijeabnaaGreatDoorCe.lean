/- ChunkSum returns true: as a contract. Conditions: the package's variable half holds what the text lays. -/
import Derived.Test.YtpaggdhijeabnaaGreatDoorCd
namespace Go.DD
open Go Go.Proofs

open Classical in
/-- What ChunkSum calls. -/
noncomputable def relS (bs : List (BitVec 8)) (f : Nat) (ds : List DV) : Option DV :=
  if (f = 8 ∨ f = 9) ∧ ds = [bytesD bs] ∧ bs.length ≤ 2000 then some (W (sumV bs))
  else if f = 7 ∧ ds = [] then some (.v (.bool true)) else none
theorem gS_ok (bs : List (BitVec 8)) : CallOK Tryz.prog (callG (relS bs)) := callG_ok fun f ds d h => by
  unfold relS at h
  split at h
  · rename_i hc
    obtain ⟨hf, rfl, hl⟩ := hc
    cases h
    rcases hf with rfl | rfl
    · exact kn_sum bs (by omega)
    · exact kn_rsum bs (by omega)
  · split at h
    · rename_i hc
      obtain ⟨rfl, rfl⟩ := hc
      cases h
      exact works
    · cases h
theorem kS1 (bs : List (BitVec 8)) (hl : bs.length ≤ 2000) (hp : Tr DObj) (nx : Nat) (K : DV → Tr DObj → Nat → Prop) : KW (callG (relS bs)) (.fn 8) [.sl (bs.map B) bs.length] hp nx K ↔ K (W (sumV bs)) hp nx :=
  kw_g (by unfold relS; rw [if_pos ⟨.inl rfl, rfl, hl⟩])
theorem kS2 (bs : List (BitVec 8)) (hl : bs.length ≤ 2000) (hp : Tr DObj) (nx : Nat) (K : DV → Tr DObj → Nat → Prop) : KW (callG (relS bs)) (.fn 9) [.sl (bs.map B) bs.length] hp nx K ↔ K (W (sumV bs)) hp nx :=
  kw_g (by unfold relS; rw [if_pos ⟨.inr rfl, rfl, hl⟩])
theorem kSw (bs : List (BitVec 8)) (hp : Tr DObj) (nx : Nat) (K : DV → Tr DObj → Nat → Prop) : KW (callG (relS bs)) (.fn 7) [] hp nx K ↔ K (.v (.bool true)) hp nx :=
  kw_g (by unfold relS; rw [if_neg (fun h => by have := h.2.1; cases this), if_pos ⟨rfl, rfl⟩])
theorem W_eql (x : BitVec 32) : binD .eql (W x) (W x) = some (.v (.bool true)) := by unfold W; rw [b_eql, beq_self_eq_true]

theorem kn_law (bs : List (BitVec 8)) : Known Tryz.prog 3 [bytesD bs] (.v (.bool true)) := by
  refine Known.run1 mixed te_ok (gS_ok bs) t3 (Nat.le_of_ble_eq_true rfl) (bytes_refs bs) rfl (fun _ => rz_flat rfl) fun es he => ?_
  have h : rawE es (.t .o) = .sl (bs.map B) bs.length := he 0 _ rfl
  unfold r3
  by_cases hl : bs.length ≤ 2000
  · have h2 : ¬ (bs.length : Int) > 2000 := by omega
    simp only [ew_s, ew_n, ew_e, ew_c', ew_b, sw_q, sw_m, sw_z, sw_x, sw_call, List.map_cons, List.map_nil, kS1 bs hl, kS2 bs hl, kSw, rw_mk, sl_put, hp_put, nx_put, thenE, blkE, rw_put, rw_other, rw_c, x_bin, b_gtr, W_eql, xLen, c_sl_s, forceN_eq, Int.ofNat_eq_natCast, h, h2, decide_false, sw_g', gw_b, gw_u, x_pick, pick_b, xw_some, cw_b, Bool.false_eq_true, Bool.true_eq_false, ne_eq, reduceCtorEq, not_false_eq_true, not_true_eq_false, true_imp_iff, false_imp_iff, and_true, true_and, or_true, if_true, Pa.l.injEq, Pa.r.injEq, show pth 2 = .r .o from rfl]
  · have h2 : (bs.length : Int) > 2000 := by omega
    simp only [ew_s, ew_n, ew_e, ew_c', ew_b, sw_q, sw_m, sw_z, sw_x, sw_call, List.map_cons, List.map_nil, kSw, rw_mk, sl_put, hp_put, nx_put, thenE, blkE, rw_put, rw_other, rw_c, x_bin, b_gtr, xLen, c_sl_s, forceN_eq, Int.ofNat_eq_natCast, h, h2, decide_true, sw_g', gw_b, gw_u, x_pick, pick_b, xw_some, cw_b, Bool.false_eq_true, Bool.true_eq_false, ne_eq, reduceCtorEq, not_false_eq_true, not_true_eq_false, true_imp_iff, false_imp_iff, and_true, true_and, or_true, if_true, Pa.l.injEq, Pa.r.injEq, show pth 2 = .r .o from rfl]
end Go.DD
