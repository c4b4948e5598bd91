/- Chapter 03: what Sum returns, in the program and in the reference. Conditions: fewer than a million bytes; the package's variable half holds what the text lays. -/
import Derived.Test.YtpaggdhijeabnaaGreatDoorRt
import Derived.Test.YtpaggdhijeabnaaGreatDoorCb
import Derived.Test.YtpaggdhijeabnaaGreatDoorCc
namespace Go.DD
open Go Go.Proofs

theorem te_ok : TbOK Tryz.prog 1000000 te := tbP_ok _ _
theorem g0_ok : CallOK Tryz.prog (callG fun _ _ => none) := callG_ok fun _ _ _ h => by cases h

def cviD (k : IntKind) : DV → Option DV
  | .v (.int _ n) => some (.v (.int k (k.wrap n)))
  | _ => none
theorem sw_cvi {k : IntKind} {t : Nat} {dst : Option Pa} {call : CallT} {es : ES} {Q : ES → Prop} : SW (sU dst (xAny (.cvi k (.tmp t)))) call es Q ↔ XW (cviD k (rawE es (.t (pth t)))) fun d => Q (es.putE dst d) := by
  have hr : es.ds.sv t = rawE es (.t (pth t)) := by
    rw [show EO.t (pth t) = EO.of (.tmp t) from rfl, rawE_eq]; rfl
  have hev : es.ds.ev (.tmp t) = if es.ds.live (rawE es (.t (pth t))) = true then rawE es (.t (pth t)) else .any := by
    simp only [DS.ev, hr]
  have hx : xAny (.cvi k (.tmp t)) es es.nx = (cviD k (rawE es (.t (pth t)))).map fun d => (d, Upd.keep) := by
    show execU es.nx es.ds (.cvi k (.tmp t)) = _
    simp only [execU, hev]
    cases rawE es (.t (pth t)) with
    | v x => cases x <;> simp [cviD, DS.live, DV.refs]
    | _ =>
      split
      · rename_i heq
        split at heq <;> cases heq
      · rfl
  unfold SW XW
  have hs : sU dst (xAny (.cvi k (.tmp t))) call es = (cviD k (rawE es (.t (pth t)))).map fun d => es.putE dst d := by
    unfold sU
    rw [hx]
    cases cviD k (rawE es (.t (pth t))) <;> rfl
  rw [hs]
  constructor
  · rintro ⟨es', h1, h2⟩
    obtain ⟨d, h3, rfl⟩ := Option.map_eq_some_iff.1 h1
    exact ⟨d, h3, h2⟩
  · rintro ⟨d, h1, h2⟩
    exact ⟨_, by rw [h1]; rfl, h2⟩
theorem cviB (b : BitVec 8) : cviD .u32 (B b) = some (W (b.setWidth 32)) := by
  show some (DV.v (.int .u32 (IntKind.u32.wrap (b.toNat : Int)))) = _
  rw [wrapB]; rfl

def bytesD (bs : List (BitVec 8)) : DV := .sl (bs.map B) bs.length
def step8 (r : BitVec 32) : BitVec 32 := step4 (step4 r)
def sumR (bs : List (BitVec 8)) (r : BitVec 32) : BitVec 32 := bs.foldl (fun r b => step8 (r ^^^ b.setWidth 32)) r
def sumV (bs : List (BitVec 8)) : BitVec 32 := 0xffffffff#32 ^^^ sumR bs 0xffffffff#32
theorem sumR_take (bs : List (BitVec 8)) (r : BitVec 32) (i : Nat) (h : i < bs.length) : sumR (bs.take (i + 1)) r = step8 (sumR (bs.take i) r ^^^ bs[i].setWidth 32) := by
  unfold sumR
  rw [List.take_add_one, List.getElem?_eq_getElem h, Option.toList_some, List.foldl_append]
  rfl
def tabL : List DV := (List.range 16).map fun k => W (tab k)
theorem half_eq : gvD 0 = .ia tabL := rfl
theorem part_tab (x : BitVec 32) : partD none (tabL.drop (x.toNat % 16 * 1)) = some (W (tab (x.toNat % 16))) := by
  have h : x.toNat % 16 < 16 := Nat.mod_lt _ (by decide)
  generalize x.toNat % 16 = k at h
  match k, h with
  | 0, _ => rfl | 1, _ => rfl | 2, _ => rfl | 3, _ => rfl | 4, _ => rfl | 5, _ => rfl | 6, _ => rfl | 7, _ => rfl
  | 8, _ => rfl | 9, _ => rfl | 10, _ => rfl | 11, _ => rfl | 12, _ => rfl | 13, _ => rfl | 14, _ => rfl | 15, _ => rfl
  | k + 16, h => omega
theorem part_b (bs : List (BitVec 8)) (i : Nat) (h : i < bs.length) : partD none ((bs.map B).drop (i * 1)) = some (B bs[i]) := by
  rw [Nat.mul_one, List.drop_eq_getElem_cons (by simpa using h)]
  simp [partD]
theorem bytes_refs (bs : List (BitVec 8)) : ∀ x ∈ [bytesD bs], x.refs = [] := by
  intro x hx
  rw [List.mem_singleton] at hx
  rw [hx]; rfl
theorem W0 : DV.v (.int .u32 4294967295) = W 0xffffffff#32 := rfl

theorem kn_sum (bs : List (BitVec 8)) (hl : bs.length < 1000000) : Known Tryz.prog 8 [bytesD bs] (W (sumV bs)) := by
  refine Known.run1 mixed te_ok g0_ok t8 (Nat.le_of_ble_eq_true rfl) (bytes_refs bs) rfl (fun _ => rz_flat rfl) fun es he => ?_
  have h : rawE es (.t .o) = .sl (bs.map B) bs.length := he 0 _ rfl
  unfold r8
  simp only [ew_s, ew_n, ew_e, sw_q, sw_m, sw_z, sw_x, thenE, rw_put, rw_other, rw_c, xLen, c_sl_s, forceN_eq, xw_some, h, Int.ofNat_eq_natCast, ne_eq, reduceCtorEq, not_false_eq_true, Pa.l.injEq, Pa.r.injEq]
  rw [ew_b]
  refine EW.l (I := fun k es1 => ∃ i : Nat, k = bs.length - i ∧ i ≤ bs.length ∧ rawE es1 (.t (.r (.r .o))) = .sl (bs.map B) bs.length ∧ rawE es1 (.t (.l (.l (.l .o)))) = .v (.int .i64 bs.length)
      ∧ rawE es1 (.t (.r (.l (.l .o)))) = .v (.int .i64 i) ∧ rawE es1 (.t (.l (.l .o))) = W (sumR (bs.take i) 0xffffffff#32)) ?_ bs.length 1000000 _ ?_ hl
  · rintro k es1 ⟨i, rfl, hi, g1, g2, g3, g4⟩
    by_cases h1 : i < bs.length
    · have hlt : (i : Int) < (bs.length : Int) := by omega
      have hw : IntKind.i64.wrap ((i : Int) + 1) = ((i + 1 : Nat) : Int) := by rw [wrap_in (by omega)]; rfl
      have hm : ∀ x : BitVec 32, x.toNat % 16 < 16 := fun x => Nat.mod_lt _ (by decide)
      simp only [ew_s, ew_n, ew_e, ew_c', ew_b, sw_q, sw_m, sw_z, sw_x, sw_cvi, thenE, blkE, rw_put, rw_other, rw_c, x_bin, b_lss, b_add, b_xorW, b_andW, b_shrW, hw, xIa, xFx, xLd, half_eq, c_sl_s, c_ad_i, c_i_i, c_ix, if_pos h1, if_pos (hm _), dropL_eq, partE_eq, part_b bs i h1, part_tab, cviB, xw_some, cw_b, g1, g2, g3, g4, hlt, decide_true, Bool.true_eq_false, reduceCtorEq, true_imp_iff, false_imp_iff, and_true, true_and, or_true, ne_eq, not_false_eq_true, Pa.l.injEq, Pa.r.injEq, show pth 13 = .l (.r (.r .o)) from rfl]
      exact ⟨bs.length - (i + 1), by omega, i + 1, rfl, by omega, rfl, by rw [sumR_take _ _ _ h1]; rfl⟩
    · have hlt : ¬ (i : Int) < (bs.length : Int) := by omega
      have hi' : i = bs.length := by omega
      subst hi'
      simp only [ew_s, ew_n, ew_e, ew_c', ew_b, sw_q, sw_m, sw_z, sw_x, thenE, blkE, rw_put, rw_other, rw_c, x_bin, b_lss, x_un, un_xorW, xw_some, cw_b, g1, g2, g3, g4, hlt, decide_false, Bool.false_eq_true, reduceCtorEq, true_imp_iff, false_imp_iff, and_true, true_and, or_true, if_true, ne_eq, not_false_eq_true, Pa.l.injEq, Pa.r.injEq]
      rw [show pth 2 = .r .o from rfl, rw_put, List.take_length]
      rfl
  · refine ⟨0, by simp, by omega, ?_⟩
    simp only [rw_put, rw_other, W0, h, List.take_zero, ne_eq, reduceCtorEq, not_false_eq_true, Pa.l.injEq, Pa.r.injEq]
    exact ⟨trivial, trivial, rfl, rfl⟩

/-- So many single bits. -/
def it : Nat → BitVec 32 → BitVec 32
  | 0, x => x
  | n + 1, x => step1 (it n x)
theorem it8 (x : BitVec 32) : it 8 x = step8 x := by
  show step1 (step1 (step1 (step1 (step1 (step1 (step1 (step1 x))))))) = _
  rw [step4_eq, step4_eq]; rfl
theorem lsb_mod (x : BitVec 32) : x.getLsbD 0 = decide (x.toNat % 2 = 1) := by
  rw [BitVec.getLsbD, Nat.testBit_zero]
theorem step1_o {x : BitVec 32} (h : (((x.toNat % 2 : Nat) : Int) == 1) = true) : (x >>> 1) ^^^ poly = step1 x := by
  have : x.toNat % 2 = 1 := by have := eq_of_beq h; omega
  unfold step1; rw [lsb_mod, if_pos (by simpa using this)]
theorem step1_e {x : BitVec 32} (h : (((x.toNat % 2 : Nat) : Int) == 1) = false) : x >>> 1 = step1 x := by
  have : ¬ x.toNat % 2 = 1 := by have := beq_eq_false_iff_ne.1 h; omega
  unfold step1; rw [lsb_mod, if_neg (by simpa using this)]; simp
theorem Wp : DV.v (.int .u32 2197175160) = W poly := rfl

theorem kn_rsum (bs : List (BitVec 8)) (hl : bs.length < 1000000) : Known Tryz.prog 9 [bytesD bs] (W (sumV bs)) := by
  refine Known.run1 mixed te_ok g0_ok t9 (Nat.le_of_ble_eq_true rfl) (bytes_refs bs) rfl (fun _ => rz_flat rfl) fun es he => ?_
  have h : rawE es (.t .o) = .sl (bs.map B) bs.length := he 0 _ rfl
  unfold r9
  simp only [ew_s, ew_n, ew_e, sw_q, sw_m, sw_z, sw_x, thenE, rw_put, rw_other, rw_c, xw_some, h, ne_eq, reduceCtorEq, not_false_eq_true, Pa.l.injEq, Pa.r.injEq]
  rw [ew_b]
  refine EW.l (I := fun k es1 => ∃ i : Nat, k = bs.length - i ∧ i ≤ bs.length ∧ rawE es1 (.t .o) = .sl (bs.map B) bs.length
      ∧ rawE es1 (.t (.r (.l .o))) = .v (.int .i64 i) ∧ rawE es1 (.t (.l (.l .o))) = W (sumR (bs.take i) 0xffffffff#32)) ?_ bs.length 1000000 _ ?_ hl
  · rintro k es1 ⟨i, rfl, hi, g1, g3, g4⟩
    by_cases h1 : i < bs.length
    · have hlt : (i : Int) < (bs.length : Int) := by omega
      have hw : IntKind.i64.wrap ((i : Int) + 1) = ((i + 1 : Nat) : Int) := by rw [wrap_in (by omega)]; rfl
      simp only [ew_s, ew_n, ew_e, ew_c', ew_b, sw_q, sw_m, sw_z, sw_x, sw_cvi, thenE, blkE, rw_put, rw_other, rw_c, x_bin, b_lss, b_xorW, xLen, xIa, xLd, c_sl_s, c_ad_i, c_i_i, c_ix, forceN_eq, if_pos h1, dropL_eq, partE_eq, part_b bs i h1, cviB, xw_some, cw_b, g1, g3, g4, Int.ofNat_eq_natCast, hlt, decide_true, Bool.true_eq_false, reduceCtorEq, true_imp_iff, false_imp_iff, and_true, true_and, or_true, ne_eq, not_false_eq_true, Pa.l.injEq, Pa.r.injEq, show pth 17 = .l (.r (.l (.l .o))) from rfl]
      refine EW.l (I := fun k es2 => ∃ n : Nat, k = 8 - n ∧ n ≤ 8 ∧ rawE es2 (.t .o) = .sl (bs.map B) bs.length ∧ rawE es2 (.t (.r (.l .o))) = .v (.int .i64 i)
          ∧ rawE es2 (.t (.l (.r .o))) = .v (.int .i64 n) ∧ rawE es2 (.t (.l (.l .o))) = W (it n (sumR (bs.take i) 0xffffffff#32 ^^^ bs[i].setWidth 32))) ?_ 8 1000000 _ ?_ (by omega)
      · rintro k es2 ⟨n, rfl, hn, q1, q2, q3, q4⟩
        by_cases h2 : n < 8
        · have hlt2 : (n : Int) < 8 := by omega
          have hw2 : IntKind.i64.wrap ((n : Int) + 1) = ((n + 1 : Nat) : Int) := by rw [wrap_in (by omega)]; rfl
          simp only [ew_s, ew_n, ew_e, ew_c', ew_b, sw_q, sw_m, sw_z, sw_x, thenE, blkE, rw_put, rw_other, rw_c, x_bin, b_lss, b_add, b_eql, b_remW, b_quoW, b_xorW, Wp, hw2, xw_some, cw_b, q1, q2, q3, q4, hlt2, decide_true, Bool.true_eq_false, reduceCtorEq, true_imp_iff, false_imp_iff, and_true, true_and, or_true, ne_eq, not_false_eq_true, Pa.l.injEq, Pa.r.injEq]
          refine ⟨fun ho => ?_, fun ho => ?_⟩
          · exact ⟨8 - (n + 1), by omega, n + 1, rfl, by omega, rfl, by rw [step1_o ho]; rfl⟩
          · exact ⟨8 - (n + 1), by omega, n + 1, rfl, by omega, rfl, by rw [step1_e ho]; rfl⟩
        · have hlt2 : ¬ (n : Int) < 8 := by omega
          have hn8 : n = 8 := by omega
          subst hn8
          simp only [ew_s, ew_n, ew_e, ew_c', ew_b, sw_q, sw_m, sw_z, sw_x, thenE, blkE, rw_put, rw_other, rw_c, x_bin, b_lss, b_add, hw, xw_some, cw_b, q1, q2, q3, q4, hlt2, decide_false, Bool.false_eq_true, reduceCtorEq, true_imp_iff, false_imp_iff, and_true, true_and, or_true, if_true, ne_eq, not_false_eq_true, Pa.l.injEq, Pa.r.injEq]
          exact ⟨bs.length - (i + 1), by omega, i + 1, rfl, by omega, rfl, by rw [it8, sumR_take _ _ _ h1]⟩
      · refine ⟨0, rfl, by omega, ?_⟩
        simp only [rw_put, rw_other, g1, g3, ne_eq, reduceCtorEq, not_false_eq_true, Pa.l.injEq, Pa.r.injEq]
        exact ⟨trivial, trivial, rfl, rfl⟩
    · have hlt : ¬ (i : Int) < (bs.length : Int) := by omega
      have hi' : i = bs.length := by omega
      subst hi'
      simp only [ew_s, ew_n, ew_e, ew_c', ew_b, sw_q, sw_m, sw_z, sw_x, thenE, blkE, rw_put, rw_other, rw_c, x_bin, b_lss, b_xorW, W0, xLen, c_sl_s, forceN_eq, Int.ofNat_eq_natCast, xw_some, cw_b, g1, g3, g4, hlt, decide_false, Bool.false_eq_true, reduceCtorEq, true_imp_iff, false_imp_iff, and_true, true_and, or_true, if_true, ne_eq, not_false_eq_true, Pa.l.injEq, Pa.r.injEq]
      rw [show pth 2 = .r .o from rfl, rw_put, List.take_length, BitVec.xor_comm]
      rfl
  · refine ⟨0, by simp, by omega, ?_⟩
    simp only [rw_put, rw_other, W0, h, List.take_zero, ne_eq, reduceCtorEq, not_false_eq_true, Pa.l.injEq, Pa.r.injEq]
    exact ⟨trivial, rfl, rfl⟩
end Go.DD
