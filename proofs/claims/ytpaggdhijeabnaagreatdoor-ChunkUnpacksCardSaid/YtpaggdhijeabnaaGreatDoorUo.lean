/- Chapter 03, the reference: an item is unpacked. Conditions: those that each theorem states. -/
import Derived.Test.YtpaggdhijeabnaaGreatDoorUn
import Derived.Test.YtpaggdhijeabnaaGreatDoorUh
namespace Go.DD
open Go Go.Proofs

def cRle (rle : Bool) : Int := if rle = true then 2 else 3
structure RItem (rle : Bool) (dout d : DV) (b0 : Nat) (hp : Tr DObj) (nx : Nat) (es : ES) : Prop where
  r0 : rawE es (.t .o) = iv (cRle rle)
  r1 : rawE es (.t (.l .o)) = dout
  r2 : rawE es (.t (.r .o)) = d
  r9 : rawE es (.t (.l (.r (.l .o)))) = ib b0
  h : es.hp = hp
  n : es.nx = nx
theorem kn_ritem (rle : Bool) (k : Nat) (hp : Tr DObj) (nx : Nat) (K : DV → Tr DObj → Nat → Prop) (dout d : DV) (out rest : List Nat) (how : Own hp dout out) (hs : Src hp d rest) (ho1 : Old nx dout) (ho : Old nx d) (hdis : ∀ id ∈ d.refs, id ∉ dout.refs) (hb : ∀ x ∈ rest, x < 256) (hl : out.length ≤ 1048576) (h0 : 0 < rest.length)
    (hE : ∀ e, unItem rle out rest = .error e → ∀ nx', nx ≤ nx' → K (.tup [nilS, nilS, iv (errC e)]) hp nx')
    (hL : ∀ o r, unItem rle out rest = .ok (o, r) → 1048576 < o.length → ∀ hp' nx', nx ≤ nx' → (∀ j, j < nx → j ∉ dout.refs → hp'.get j = hp.get j) → K (.tup [nilS, nilS, iv 8]) hp' nx')
    (hK : ∀ o r, unItem rle out rest = .ok (o, r) → ¬ 1048576 < o.length → ∀ hp' nx' d1 d2, nx ≤ nx' → (∀ j, j < nx → j ∉ dout.refs → hp'.get j = hp.get j) → Own hp' d1 o → Rng nx nx' d1 → Src hp' d2 r → (∀ id ∈ d2.refs, id ∈ d.refs) → K (.tup [d1, d2, iv 0]) hp' nx') :
    KW (kN (k + 1)) (.fn 22) [iv (cRle rle), dout, d] hp nx K := by
  refine kn_3 (relW_n (by decide)) t22 (Nat.le_of_ble_eq_true rfl) fun es e1 e2 he => ?_
  have a0 : rawE es (.t .o) = iv (cRle rle) := he 0 _ rfl
  have a1 : rawE es (.t (.l .o)) = dout := he 1 _ rfl
  have a2 : rawE es (.t (.r .o)) = d := he 2 _ rfl
  have hb0 := byte_lt hb 0
  have hb1 := byte_lt hb 1
  have hb2 := byte_lt hb 2
  have ia0 : iaD hp 1 d (.v (.int .i64 0)) = some (adr d 0) := hs.ia h0
  have ld0 := hs.ld h0
  have c1 : cviE .i64 (.v (.int .u8 (rest.getD 0 0 : Int))) = some (.v (.int .i64 (rest.getD 0 0 : Int))) := cvi_i64 (by omega)
  have l1 : binD .lss (.v (.int .i64 (rest.getD 0 0 : Int))) (.v (.int .i64 128)) = some (.v (.bool (decide (rest.getD 0 0 < 128)))) := b_lssM 128 rfl
  unfold r22
  refine EW.seq (fun es1 => rawE es1 (.t .o) = iv (cRle rle) ∧ rawE es1 (.t (.l .o)) = dout ∧ rawE es1 (.t (.r .o)) = d ∧ es1.hp = hp ∧ es1.nx = nx) ?_ fun es1 ⟨q0, q1, q2, qh, qn⟩ => ?_
  · simp only [↓ew_n, ↓sw_q, ↓sw_m1, ↓sw_z, ↓then_n, xw_some, mk1_eq, rw_other, n_c, hp_put, nx_put, ne_eq, reduceCtorEq, not_false_eq_true, Pa.l.injEq, Pa.r.injEq]
    exact ⟨a0, a1, a2, e1, e2⟩
  refine EW.seq (fun es1 => RItem rle dout d (rest.getD 0 0) hp nx es1) ?_ fun es2 hR2 => ?_
  · simp only [↓ew_n, ↓sw_q, ↓sw_m1, ↓sw_z, ↓sw_x, ↓then_n, xw_some, mk1_eq, x_ia, x_ld, rw_put, n_c, hp_put, live_v, ↓sw_cviE, n_ev, p16, q2, qh, ia0, ld0, ub, live_v, c1]
    refine ⟨?_, ?_, ?_, ?_, qh, qn⟩
    · simp only [rw_other, ne_eq, reduceCtorEq, not_false_eq_true]; exact q0
    · simp only [rw_other, ne_eq, reduceCtorEq, not_false_eq_true, Pa.l.injEq]; exact q1
    · simp only [rw_other, ne_eq, reduceCtorEq, not_false_eq_true, Pa.r.injEq]; exact q2
    · simp only [rw_put]; rfl
  refine EW.seq (fun es1 => RItem rle dout d (rest.getD 0 0) hp nx es1) ?_ fun es3 hR3 => ?_
  · obtain ⟨q0, q1, q2, q9, qh, qn⟩ := hR2
    simp only [↓ew_n, ↓sw_q, ↓sw_m1, ↓sw_z, ↓then_n, xw_some, mk1_eq, n_c]
    refine ⟨?_, ?_, ?_, ?_, qh, qn⟩
    · simp only [rw_other, ne_eq, reduceCtorEq, not_false_eq_true]; exact q0
    · simp only [rw_other, ne_eq, reduceCtorEq, not_false_eq_true]; exact q1
    · simp only [rw_other, ne_eq, reduceCtorEq, not_false_eq_true, Pa.r.injEq]; exact q2
    · simp only [rw_other, ne_eq, reduceCtorEq, not_false_eq_true]; exact q9
  obtain ⟨sz, hsz⟩ : ∃ sz, sz = if rest.getD 0 0 < 128 then rest.getD 0 0 + 2 else if rle = true then 2 else 3 := ⟨_, rfl⟩
  refine EW.seq (fun es1 => RItem rle dout d (rest.getD 0 0) hp nx es1 ∧ rawE es1 (.t (.r (.r (.l .o)))) = ib sz) ?_ fun es4 ⟨hR4, q10⟩ => ?_
  · obtain ⟨q0, q1, q2, q9, qh, qn⟩ := hR3
    by_cases h1 : rest.getD 0 0 < 128
    · have c2 : binD .add (.v (.int .i64 (rest.getD 0 0 : Int))) (.v (.int .i64 2)) = some (.v (.int .i64 ((rest.getD 0 0 + 2 : Nat) : Int))) := b_addK 2 rfl (by omega)
      rw [if_pos h1] at hsz
      simp only [↓ew_s, ↓ew_n, ↓ew_c', ↓ew_b, ↓sw_q, ↓sw_m1, ↓sw_z, ↓sw_x, ↓then_n, ↓blk_n, xw_some, cw_t, mk1_eq, rw_put, rw_other, n_c, x_bin, ne_eq, reduceCtorEq, not_false_eq_true, decide_true, Pa.l.injEq, q9, ib, l1, h1, c2]
      refine ⟨⟨?_, ?_, ?_, ?_, qh, qn⟩, ?_⟩
      · simp only [rw_other, ne_eq, reduceCtorEq, not_false_eq_true]; exact q0
      · simp only [rw_other, ne_eq, reduceCtorEq, not_false_eq_true, Pa.l.injEq]; exact q1
      · simp only [rw_other, ne_eq, reduceCtorEq, not_false_eq_true, Pa.r.injEq]; exact q2
      · simp only [rw_other, ne_eq, reduceCtorEq, not_false_eq_true, Pa.l.injEq, Pa.r.injEq]; exact q9
      · rw [hsz]
    · rw [if_neg h1] at hsz
      cases rle with
      | true =>
        have e2 : binD .eql (iv (cRle true)) (.v (.int .i64 2)) = some (.v (.bool true)) := rfl
        simp only [↓ew_s, ↓ew_n, ↓ew_c', ↓ew_b, ↓sw_q, ↓sw_m1, ↓sw_z, ↓sw_x, ↓then_n, ↓blk_n, xw_some, cw_t, cw_f, mk1_eq, rw_put, rw_other, n_c, x_bin, ne_eq, reduceCtorEq, not_false_eq_true, decide_false, q0, q9, ib, l1, h1, e2]
        refine ⟨⟨?_, ?_, ?_, ?_, qh, qn⟩, ?_⟩
        · simp only [rw_other, ne_eq, reduceCtorEq, not_false_eq_true]; exact q0
        · simp only [rw_other, ne_eq, reduceCtorEq, not_false_eq_true, Pa.l.injEq]; exact q1
        · simp only [rw_other, ne_eq, reduceCtorEq, not_false_eq_true, Pa.r.injEq]; exact q2
        · simp only [rw_other, ne_eq, reduceCtorEq, not_false_eq_true, Pa.l.injEq, Pa.r.injEq]; exact q9
        · rw [hsz]; rfl
      | false =>
        have e2 : binD .eql (iv (cRle false)) (.v (.int .i64 2)) = some (.v (.bool false)) := rfl
        simp only [↓ew_s, ↓ew_n, ↓ew_c', ↓ew_b, ↓sw_q, ↓sw_m1, ↓sw_z, ↓sw_x, ↓then_n, ↓blk_n, xw_some, cw_f, mk1_eq, rw_put, rw_other, n_c, x_bin, ne_eq, reduceCtorEq, not_false_eq_true, decide_false, q0, q9, ib, l1, h1, e2]
        refine ⟨⟨?_, ?_, ?_, ?_, qh, qn⟩, ?_⟩
        · simp only [rw_other, ne_eq, reduceCtorEq, not_false_eq_true]; exact q0
        · simp only [rw_other, ne_eq, reduceCtorEq, not_false_eq_true, Pa.l.injEq]; exact q1
        · simp only [rw_other, ne_eq, reduceCtorEq, not_false_eq_true, Pa.r.injEq]; exact q2
        · simp only [rw_other, ne_eq, reduceCtorEq, not_false_eq_true, Pa.l.injEq, Pa.r.injEq]; exact q9
        · rw [hsz]; rfl
  by_cases hlz : rest.length < sz
  · have hi : unItem rle out rest = .error 0 := by
      unfold unItem
      by_cases h1 : rest.getD 0 0 < 128
      · rw [if_pos h1] at hsz
        rw [if_pos h1, if_pos (by omega)]
      · rw [if_neg h1] at hsz
        rw [if_neg h1]
        cases rle with
        | true => rw [if_pos rfl] at hsz; rw [if_pos rfl, if_pos (by omega)]
        | false => rw [if_neg (by simp)] at hsz; rw [if_neg (by simp), if_pos (by omega)]
    obtain ⟨q0, q1, q2, q9, qh, qn⟩ := hR4
    simp only [eq_self, ↓ew_s, ↓ew_n, ↓ew_e, ↓ew_c', ↓sw_q, ↓sw_m1, ↓sw_z, ↓sw_x, ↓then_n, ↓then_r, xw_some, cw_t, mk1_eq, x_len, rw_put, rw_other, n_c, hp_put, nx_put, x_bin, live_v, ne_eq, reduceCtorEq, not_false_eq_true, true_and, or_true, decide_true, Pa.l.injEq, Pa.r.injEq, p6, p7, p8, q2, q10, qh, ib, hs.len, b_lssN, hlz, live_v]
    exact hE 0 hi _ (by omega)
  refine EW.seq (fun es1 => RItem rle dout d (rest.getD 0 0) hp nx es1 ∧ rawE es1 (.t (.r (.r (.l .o)))) = ib sz) ?_ fun es5 ⟨hR5, q10⟩ => ?_
  · obtain ⟨q0, q1, q2, q9, qh, qn⟩ := hR4
    simp only [eq_self, ↓ew_s, ↓ew_n, ↓ew_e, ↓ew_c', ↓sw_q, ↓sw_m1, ↓sw_z, ↓sw_x, ↓then_n, xw_some, cw_f, mk1_eq, x_len, rw_put, rw_other, hp_put, x_bin, ne_eq, reduceCtorEq, not_false_eq_true, and_true, decide_false, Pa.l.injEq, Pa.r.injEq, q2, q10, qh, ib, hs.len, b_lssN, hlz]
    refine ⟨?_, ?_, ?_, ?_, qh, qn⟩
    · simp only [rw_other, ne_eq, reduceCtorEq, not_false_eq_true]; exact q0
    · simp only [rw_other, ne_eq, reduceCtorEq, not_false_eq_true, Pa.l.injEq]; exact q1
    · simp only [rw_other, ne_eq, reduceCtorEq, not_false_eq_true, Pa.r.injEq]; exact q2
    · simp only [rw_other, ne_eq, reduceCtorEq, not_false_eq_true, Pa.l.injEq, Pa.r.injEq]; exact q9
  refine EW.seq (fun es1 => ∃ o d1, unItem rle out rest = .ok (o, rest.drop sz) ∧ rawE es1 (.t (.l .o)) = d1 ∧ rawE es1 (.t (.r .o)) = d ∧ rawE es1 (.t (.r (.r (.l .o)))) = ib sz ∧ Own es1.hp d1 o ∧ Rng nx es1.nx d1 ∧ nx ≤ es1.nx ∧ (∀ j, j < nx → j ∉ dout.refs → es1.hp.get j = hp.get j) ∧ o.length ≤ 1048576 + 1000) ?_ fun es6 ⟨o, d1, hi, v1, v2, v10, vw, vg, vn, vf, vl⟩ => ?_
  · obtain ⟨q0, q1, q2, q9, qh, qn⟩ := hR5
    have hsz3 : sz ≤ rest.length := by omega
    have how1 : Own es5.hp dout out := qh ▸ how
    have hs1 : Src es5.hp d rest := qh ▸ hs
    have ho2 : Old es5.nx d := qn ▸ ho
    have ho3 : Old es5.nx dout := qn ▸ ho1
    have frq : ∀ j, es5.hp.get j = hp.get j := fun j => by rw [qh]
    clear ia0 ld0
    by_cases h1 : rest.getD 0 0 < 128
    · rw [if_pos h1] at hsz
      have hi : unItem rle out rest = .ok (out ++ (rest.drop 1).take (rest.getD 0 0 + 1), rest.drop sz) := by unfold unItem; rw [if_pos h1, if_neg (by omega), hsz]
      have hm : ((rest.drop 1).take (rest.getD 0 0 + 1)).length = rest.getD 0 0 + 1 := by rw [List.length_take, List.length_drop]; omega
      simp only [↓ew_s, ↓ew_n, ↓ew_c', ↓ew_b, ↓sw_q, ↓sw_m1, ↓sw_z, ↓sw_x, ↓then_n, xw_some, cw_t, mk1_eq, rw_put, rw_other, n_c, x_bin, ne_eq, reduceCtorEq, not_false_eq_true, decide_true, Pa.l.injEq, Pa.r.injEq, ↓z_sli, q1, q2, q9, q10, ib, l1, h1]
      refine sw_sli (d := d) (a := 1) (z := sz) (l := rest) (by simp only [rw_put, rw_other, ne_eq, reduceCtorEq, not_false_eq_true, p72]) hs1 (by simp only [bndD_some, n_evc, n_ofi]; rfl) (fun n hn => by simp only [bndD_some, n_ev, rw_put, hp_put, p73, live_v]; rfl) (by omega) (by omega) fun d8 hd8 hr8 => ?_
      rw [show sz - 1 = rest.getD 0 0 + 1 by omega] at hd8
      simp only [↓sw_q, ↓z_app]
      refine sw_app (d := dout) (d2 := d8) (l := out) (m := (rest.drop 1).take (rest.getD 0 0 + 1)) (by simp only [rw_put, rw_other, ne_eq, reduceCtorEq, not_false_eq_true, Pa.l.injEq, p71]) how1 (by simp only [rw_put, p74]) hd8 (by omega) (by decide) fun hp5 hg5 hk5 => ?_
      simp only [hp_put, nx_put, ne_eq] at hg5 hk5
      simp only [↓sw_q, ↓sw_m1, ↓sw_z, ↓then_n, ↓blk_n, xw_some, mk1_eq, rw_put, rw_other, n_mk, nx_put, sl_put, ne_eq, reduceCtorEq, not_false_eq_true, Pa.l.injEq, Pa.r.injEq]
      exact ⟨_, _, hi, rfl, q2, q10, .ms _ _ hg5, .ms (by omega) (by omega), by omega, fun j hj hm => by rw [hk5 j (by omega) hm, frq], by rw [List.length_append, hm]; omega⟩
    · rw [if_neg h1] at hsz
      cases rle with
      | true =>
        rw [if_pos rfl] at hsz
        have hi : unItem true out rest = .ok (out ++ List.replicate (rest.getD 0 0 - 125) (rest.getD 1 0), rest.drop sz) := by unfold unItem; rw [if_neg h1, if_pos rfl, if_neg (by omega), hsz]
        have e2 : binD .eql (iv (cRle true)) (.v (.int .i64 2)) = some (.v (.bool true)) := rfl
        have s1 : binD .sub (.v (.int .i64 (rest.getD 0 0 : Int))) (.v (.int .i64 125)) = some (.v (.int .i64 ((rest.getD 0 0 - 125 : Nat) : Int))) := b_subL 125 rfl (by omega) (by omega)
        simp only [↓ew_s, ↓ew_n, ↓ew_c', ↓ew_b, ↓sw_q, ↓sw_m1, ↓sw_z, ↓sw_x, ↓then_n, xw_some, cw_t, cw_f, mk1_eq, rw_put, rw_other, n_c, x_bin, ne_eq, reduceCtorEq, not_false_eq_true, decide_false, ↓z_l, q0, q9, ib, l1, h1, e2]
        generalize hcnt : rest.getD 0 0 - 125 = cnt at hi s1
        refine EW.l (I := fun m es1 => ∃ i d1, m = cnt - i ∧ i ≤ cnt ∧ Own es1.hp d1 (out ++ List.replicate i (rest.getD 1 0)) ∧ (∀ id ∈ d1.refs, id < es1.nx ∧ ((id ∈ dout.refs ∧ i = 0) ∨ nx ≤ id)) ∧ nx ≤ es1.nx ∧ (∀ j, j < nx → j ∉ dout.refs → es1.hp.get j = hp.get j) ∧ rawE es1 (.t (.l .o)) = d1 ∧ rawE es1 (.t (.r .o)) = d ∧ rawE es1 (.t (.l (.r (.l .o)))) = ib (rest.getD 0 0) ∧ rawE es1 (.t (.r (.r (.l .o)))) = ib sz ∧ rawE es1 (.t (.l (.l (.r .o)))) = ib i) ?_ cnt 1000000 _ ⟨0, dout, rfl, Nat.zero_le _, by rw [List.replicate_zero, List.append_nil]; exact how1, fun id hid => ⟨ho3 id hid, .inl ⟨hid, rfl⟩⟩, by show nx ≤ es5.nx; omega, fun j _ _ => frq j, ?_, ?_, ?_, ?_, ?_⟩ (by omega)
        · rintro m es1 ⟨i, d1, rfl, hi1, ow, hrf, hnx, hfr, w1, w2, w9, w10, w11⟩
          unfold l22_1
          have u1 : Src es1.hp d rest := hs.keep fun id hid => hfr id (ho id hid) (hdis id hid)
          have x1 : iaD es1.hp 1 d (.v (.int .i64 1)) = some (adr d 1) := u1.ia (show 1 < rest.length by omega)
          have x2 := u1.ld (show 1 < rest.length by omega)
          by_cases h4 : i < cnt
          · simp only [↓ew_s, ↓ew_n, ↓ew_e, ↓ew_c', ↓ew_b, ↓sw_q, ↓sw_m1, ↓sw_z, ↓sw_x, ↓then_n, xw_some, cw_t, mk1_eq, x_ia, x_ld, rw_put, rw_other, n_c, hp_put, x_bin, ne_eq, reduceCtorEq, not_false_eq_true, decide_true, Pa.l.injEq, Pa.r.injEq, ↓z_bsl, w1, w2, w9, w11, ib, ub, s1, b_lssN, h4, x1, x2]
            refine sw_bsl (l := [rest.getD 1 0]) rfl rfl (by simp only [List.map_cons, List.map_nil, n_ev, rw_put, hp_put, p88]; exact fill1 _ _) fun hp2 hg2 hk2 => ?_
            simp only [hp_put, nx_put, ne_eq] at hg2 hk2
            have ow2 : Own hp2 d1 (out ++ List.replicate i (rest.getD 1 0)) := ow.keep fun id hid => hk2 id (by have := (hrf id hid).1; omega)
            simp only [↓sw_q, nx_put, sl_put, ↓z_app]
            refine sw_app (d := d1) (d2 := .ms es1.nx 0 1 1) (l := out ++ List.replicate i (rest.getD 1 0)) (m := [rest.getD 1 0]) (by simp only [rw_put, rw_other, n_mk, ne_eq, reduceCtorEq, not_false_eq_true, Pa.l.injEq, Pa.r.injEq, p85]) ow2 (by simp only [rw_put, n_mk, p89]; rfl) (Own.ms (hp := hp2) es1.nx [rest.getD 1 0] hg2).src (by simp; omega) (by decide) fun hp3 hg3 hk3 => ?_
            have er : out ++ List.replicate i (rest.getD 1 0) ++ [rest.getD 1 0] = out ++ List.replicate (i + 1) (rest.getD 1 0) := by rw [List.append_assoc, List.replicate_succ']
            simp only [ne_eq, er] at hg3 hk3
            simp only [eq_self, ↓ew_n, ↓sw_q, ↓sw_m1, ↓sw_z, ↓sw_x, ↓then_n, ↓blk_n, xw_some, mk1_eq, rw_put, rw_other, n_c, n_mk, sl_put, x_bin, ne_eq, reduceCtorEq, not_false_eq_true, true_and, Pa.l.injEq, Pa.r.injEq, er, w2, w9, w10, w11, ib, b_add1 (show i < _ by omega)]
            refine ⟨cnt - (i + 1), by omega, i + 1, _, rfl, by omega, .ms _ _ hg3, fun id hid => ?_, by omega, fun j hj hm => ?_, rfl, rfl⟩
            · have : id = es1.nx + 1 := by simpa [DV.refs] using hid
              exact ⟨by omega, .inr (by omega)⟩
            · rw [hk3 j (by omega) (fun h => (hrf j h).2.elim (fun h => hm h.1) (by omega)), hk2 j (by omega)]
              exact hfr j hj hm
          · obtain rfl : i = cnt := by omega
            simp only [eq_self, ↓ew_s, ↓ew_n, ↓ew_e, ↓ew_c', ↓sw_q, ↓sw_m1, ↓sw_z, ↓sw_x, ↓then_n, ↓then_x, ↓blk_n, ↓blk_x, xw_some, cw_f, mk1_eq, rw_put, rw_other, n_c, hp_put, nx_put, x_bin, ne_eq, reduceCtorEq, not_false_eq_true, true_and, decide_false, Pa.l.injEq, Pa.r.injEq, w1, w2, w9, w10, w11, ib, s1, b_lssN, h4]
            exact ⟨_, d1, hi, rfl, ow, fun id hid => ⟨(hrf id hid).2.elim (fun h => by omega) (fun h => h), (hrf id hid).1⟩, hnx, hfr, by rw [List.length_append, List.length_replicate]; omega⟩
        · simp only [rw_other, ne_eq, reduceCtorEq, not_false_eq_true, Pa.l.injEq]; exact q1
        · simp only [rw_other, ne_eq, reduceCtorEq, not_false_eq_true, Pa.r.injEq]; exact q2
        · simp only [rw_other, ne_eq, reduceCtorEq, not_false_eq_true, Pa.l.injEq, Pa.r.injEq]; exact q9
        · simp only [rw_other, ne_eq, reduceCtorEq, not_false_eq_true, Pa.r.injEq]; exact q10
        · simp only [rw_put]; rfl
      | false =>
        rw [if_neg (by simp)] at hsz
        have e2 : binD .eql (iv (cRle false)) (.v (.int .i64 2)) = some (.v (.bool false)) := rfl
        have x1 : iaD es5.hp 1 d (.v (.int .i64 1)) = some (adr d 1) := hs1.ia (show 1 < rest.length by omega)
        have x2 : iaD es5.hp 1 d (.v (.int .i64 2)) = some (adr d 2) := hs1.ia (show 2 < rest.length by omega)
        have y1 := hs1.ld (show 1 < rest.length by omega)
        have y2 := hs1.ld (show 2 < rest.length by omega)
        have z1 : cviE .i64 (.v (.int .u8 (rest.getD 1 0 : Int))) = some (.v (.int .i64 (rest.getD 1 0 : Int))) := cvi_i64 (by omega)
        have z2 : cviE .i64 (.v (.int .u8 (rest.getD 2 0 : Int))) = some (.v (.int .i64 (rest.getD 2 0 : Int))) := cvi_i64 (by omega)
        have m1 : binD .mul (.v (.int .i64 256)) (.v (.int .i64 (rest.getD 1 0 : Int))) = some (.v (.int .i64 ((256 * rest.getD 1 0 : Nat) : Int))) := by
          rw [b_mul, show (256 : Int) * (rest.getD 1 0 : Int) = ((256 * rest.getD 1 0 : Nat) : Int) by omega, wrap_in (by omega)]
        have m2 := b_addN (a := 256 * rest.getD 1 0) (b := rest.getD 2 0) (by omega)
        have hfar : 256 * rest.getD 1 0 + rest.getD 2 0 < 65536 := by omega
        have hcopy : ¬ (256 * rest.getD 1 0 + rest.getD 2 0 < 1 ∨ 1024 < 256 * rest.getD 1 0 + rest.getD 2 0 ∨ out.length < 256 * rest.getD 1 0 + rest.getD 2 0) → unItem false out rest = .ok (copyN (256 * rest.getD 1 0 + rest.getD 2 0) (rest.getD 0 0 - 124) out, rest.drop sz) := fun h => by
          unfold unItem; rw [if_neg h1, if_neg (by simp), if_neg (by omega), if_neg h, hsz]
        have hform : (256 * rest.getD 1 0 + rest.getD 2 0 < 1 ∨ 1024 < 256 * rest.getD 1 0 + rest.getD 2 0 ∨ out.length < 256 * rest.getD 1 0 + rest.getD 2 0) → unItem false out rest = .error 1 := fun h => by
          unfold unItem; rw [if_neg h1, if_neg (by simp), if_neg (by omega), if_pos h]
        generalize hfe : 256 * rest.getD 1 0 + rest.getD 2 0 = far at hcopy hform m2 hfar
        have g1 : binD .lss (.v (.int .i64 (far : Int))) (.v (.int .i64 1)) = some (.v (.bool (decide (far < 1)))) := b_lssM 1 rfl
        have g2 : binD .gtr (.v (.int .i64 (far : Int))) (.v (.int .i64 1024)) = some (.v (.bool (decide (1024 < far)))) := b_gtrL 1024 rfl
        have hfin : ∀ hp nx', hp = es5.hp → nx ≤ nx' → K (.tup [.v (.slice none 0 0), .v (.slice none 0 0), .v (.int .i64 7)]) hp nx' → True := fun _ _ _ _ _ => trivial
        by_cases k1 : far < 1
        · simp only [eq_self, ↓ew_s, ↓ew_n, ↓ew_e, ↓ew_c', ↓ew_b, ↓sw_q, ↓sw_m1, ↓sw_z, ↓sw_x, ↓sw_g', gw_tf, ↓then_n, ↓then_r, ↓blk_r, xw_some, cw_t, cw_f, mk1_eq, x_len, x_ia, x_ld, rw_put, rw_other, n_c, n_mk, hp_put, nx_put, sl_put, x_bin, x_pick, live_v, pick_b, ne_eq, reduceCtorEq, not_false_eq_true, and_true, true_and, or_true, and_self, if_true, decide_true, decide_false, Pa.l.injEq, Pa.r.injEq, ↓z_l, xk_cvi, ↓sw_reg, ↓tw_q, ↓tw_z, ↓tw_chk, ↓tw_read, ↓chk_nil, ↓chk_cons, ro_v, okl_nops, look_f, ↓refsL_cons, ↓refs_nil, List.append_nil, n_ev, p6, p7, p8, p32, p37, q0, q1, q2, q9, ib, ub, l1, h1, e2, hs1.ro ho2, hs1.roa ho2, x1, x2, y1, y2, z1, z2, m1, m2, g1, k1, live_v]
          rw [qh]
          exact hE 1 (hform (.inl k1)) _ (by omega)
        · by_cases k2 : 1024 < far
          · simp only [eq_self, ↓ew_s, ↓ew_n, ↓ew_e, ↓ew_c', ↓ew_b, ↓sw_q, ↓sw_m1, ↓sw_z, ↓sw_x, ↓sw_g', gw_ff, gw_tf, gw_u, ↓then_n, ↓then_r, ↓blk_r, xw_some, cw_t, cw_f, mk1_eq, x_len, x_ia, x_ld, rw_put, rw_other, n_c, n_mk, hp_put, nx_put, sl_put, x_bin, x_pick, live_v, pick_b, ne_eq, reduceCtorEq, not_false_eq_true, Bool.false_eq_true, and_true, true_and, or_true, and_self, if_true, if_false, decide_true, decide_false, Pa.l.injEq, Pa.r.injEq, ↓z_l, xk_cvi, ↓sw_reg, ↓tw_q, ↓tw_z, ↓tw_chk, ↓tw_read, ↓chk_nil, ↓chk_cons, ro_v, okl_nops, look_f, ↓refsL_cons, ↓refs_nil, List.append_nil, n_ev, p6, p7, p8, p32, p37, q0, q1, q2, q9, ib, ub, l1, h1, e2, hs1.ro ho2, hs1.roa ho2, x1, x2, y1, y2, z1, z2, m1, m2, g1, k1, g2, k2, live_v]
            rw [qh]
            exact hE 1 (hform (.inr (.inl k2))) _ (by omega)
          · by_cases k3 : out.length < far
            · simp only [eq_self, ↓ew_s, ↓ew_n, ↓ew_e, ↓ew_c', ↓ew_b, ↓sw_q, ↓sw_m1, ↓sw_z, ↓sw_x, ↓sw_g', gw_ff, gw_u, ↓then_n, ↓then_r, ↓blk_r, xw_some, cw_t, cw_f, mk1_eq, x_len, x_ia, x_ld, rw_put, rw_other, n_c, n_mk, hp_put, nx_put, sl_put, x_bin, x_pick, live_v, pick_b, ne_eq, reduceCtorEq, not_false_eq_true, Bool.false_eq_true, and_true, true_and, or_true, and_self, if_false, decide_true, decide_false, Pa.l.injEq, Pa.r.injEq, ↓z_l, xk_cvi, ↓sw_reg, ↓tw_q, ↓tw_z, ↓tw_chk, ↓tw_read, ↓chk_nil, ↓chk_cons, ro_v, okl_nops, look_f, ↓refsL_cons, ↓refs_nil, List.append_nil, n_ev, p6, p7, p8, p32, p37, q0, q1, q2, q9, ib, ub, l1, h1, e2, hs1.ro ho2, hs1.roa ho2, x1, x2, y1, y2, z1, z2, m1, m2, g1, k1, g2, k2, how1.src.len, b_gtrN, k3, live_v]
              rw [qh]
              exact hE 1 (hform (.inr (.inr k3))) _ (by omega)
            · have hi := hcopy (by omega)
              have s1 : binD .sub (.v (.int .i64 (rest.getD 0 0 : Int))) (.v (.int .i64 124)) = some (.v (.int .i64 ((rest.getD 0 0 - 124 : Nat) : Int))) := b_subL 124 rfl (by omega) (by omega)
              simp only [eq_self, ↓ew_s, ↓ew_n, ↓ew_e, ↓ew_c', ↓ew_b, ↓sw_q, ↓sw_m1, ↓sw_z, ↓sw_x, ↓sw_g', gw_ff, gw_u, ↓then_n, ↓then_r, ↓blk_r, xw_some, cw_f, mk1_eq, x_len, x_ia, x_ld, rw_put, rw_other, n_c, n_mk, hp_put, nx_put, sl_put, x_bin, x_pick, live_v, pick_b, ne_eq, reduceCtorEq, not_false_eq_true, Bool.false_eq_true, and_true, true_and, or_true, and_self, if_false, decide_false, Pa.l.injEq, Pa.r.injEq, ↓z_l, xk_cvi, ↓sw_reg, ↓tw_q, ↓tw_z, ↓tw_chk, ↓tw_read, ↓chk_nil, ↓chk_cons, ro_v, okl_nops, look_f, ↓refsL_cons, ↓refs_nil, List.append_nil, n_ev, p6, p7, p8, p32, p37, q0, q1, q2, q9, ib, ub, l1, h1, e2, hs1.ro ho2, hs1.roa ho2, x1, x2, y1, y2, z1, z2, m1, m2, g1, k1, g2, k2, how1.src.len, b_gtrN, k3, live_v]
              generalize hcnt : rest.getD 0 0 - 124 = cnt at hi s1
              refine EW.l (I := fun m es1 => ∃ i o1 d1, m = cnt - i ∧ i ≤ cnt ∧ o1.length = out.length + i ∧ copyN far (cnt - i) o1 = copyN far cnt out ∧ Own es1.hp d1 o1 ∧ (∀ id ∈ d1.refs, id < es1.nx ∧ ((id ∈ dout.refs ∧ i = 0) ∨ nx ≤ id)) ∧ nx ≤ es1.nx ∧ (∀ j, j < nx → j ∉ dout.refs → es1.hp.get j = hp.get j) ∧ rawE es1 (.t (.l .o)) = d1 ∧ rawE es1 (.t (.r .o)) = d ∧ rawE es1 (.t (.l (.r (.l .o)))) = ib (rest.getD 0 0) ∧ rawE es1 (.t (.r (.r (.l .o)))) = ib sz ∧ rawE es1 (.t (.r (.l (.r .o)))) = ib far ∧ rawE es1 (.t (.l (.r (.r .o)))) = ib i) ?_ cnt 1000000 _ ⟨0, out, dout, rfl, Nat.zero_le _, rfl, rfl, how1, fun id hid => ⟨by have := ho3 id hid; show id < es5.nx + 11; omega, .inl ⟨hid, rfl⟩⟩, by show nx ≤ es5.nx + 11; omega, fun j _ _ => frq j, ?_, ?_, ?_, ?_, ?_, ?_⟩ (by omega)
              · rintro m es1 ⟨i, o1, d1, rfl, hi1, hol, hst, ow, hrf, hnx, hfr, w1, w2, w9, w10, w12, w13⟩
                unfold l22_2
                by_cases h4 : i < cnt
                · have hia := ow.src.ia (show o1.length - far < o1.length by omega)
                  have hld := ow.src.ld (show o1.length - far < o1.length by omega)
                  simp only [↓ew_s, ↓ew_n, ↓ew_e, ↓ew_c', ↓ew_b, ↓sw_q, ↓sw_m1, ↓sw_z, ↓sw_x, ↓then_n, xw_some, cw_t, mk1_eq, x_len, x_ia, x_ld, rw_put, rw_other, n_c, hp_put, x_bin, ne_eq, reduceCtorEq, not_false_eq_true, decide_true, Pa.l.injEq, Pa.r.injEq, ↓z_bsl, w1, w9, w12, w13, ib, ub, s1, b_lssN, h4, ow.src.len, b_subN (show far ≤ o1.length by omega) (by omega), hia, hld]
                  refine sw_bsl (l := [o1.getD (o1.length - far) 0]) rfl rfl (by simp only [List.map_cons, List.map_nil, n_ev, rw_put, hp_put, p65]; exact fill1 _ _) fun hp2 hg2 hk2 => ?_
                  simp only [hp_put, nx_put, ne_eq] at hg2 hk2
                  have ow2 : Own hp2 d1 o1 := ow.keep fun id hid => hk2 id (by have := (hrf id hid).1; omega)
                  simp only [↓sw_q, nx_put, sl_put, ↓z_app]
                  refine sw_app (d := d1) (d2 := .ms es1.nx 0 1 1) (l := o1) (m := [o1.getD (o1.length - far) 0]) (by simp only [rw_put, rw_other, n_mk, ne_eq, reduceCtorEq, not_false_eq_true, Pa.l.injEq, Pa.r.injEq, p58]) ow2 (by simp only [rw_put, n_mk, p66]; rfl) (Own.ms (hp := hp2) es1.nx [o1.getD (o1.length - far) 0] hg2).src (by simp; omega) (by decide) fun hp3 hg3 hk3 => ?_
                  simp only [ne_eq] at hg3 hk3
                  simp only [eq_self, ↓ew_n, ↓sw_q, ↓sw_m1, ↓sw_z, ↓sw_x, ↓then_n, ↓blk_n, xw_some, mk1_eq, rw_put, rw_other, n_c, n_mk, sl_put, x_bin, ne_eq, reduceCtorEq, not_false_eq_true, true_and, Pa.l.injEq, Pa.r.injEq, w2, w9, w10, w12, w13, ib, b_add1 (show i < _ by omega)]
                  have hst' : copyN far (cnt - (i + 1)) (o1 ++ [o1.getD (o1.length - far) 0]) = copyN far cnt out := by
                    rw [← hst, show cnt - i = (cnt - (i + 1)) + 1 by omega]; rfl
                  refine ⟨cnt - (i + 1), by omega, i + 1, _, _, rfl, by omega, by simp; omega, hst', .ms _ _ hg3, fun id hid => ?_, by omega, fun j hj hm => ?_, rfl, rfl⟩
                  · have : id = es1.nx + 1 := by simpa [DV.refs] using hid
                    exact ⟨by omega, .inr (by omega)⟩
                  · rw [hk3 j (by omega) (fun h => (hrf j h).2.elim (fun h => hm h.1) (by omega)), hk2 j (by omega)]
                    exact hfr j hj hm
                · obtain rfl : i = cnt := by omega
                  have hst' : o1 = copyN far i out := by rw [← hst, Nat.sub_self]; rfl
                  simp only [eq_self, ↓ew_s, ↓ew_n, ↓ew_e, ↓ew_c', ↓sw_q, ↓sw_m1, ↓sw_z, ↓sw_x, ↓then_n, ↓then_x, ↓blk_n, ↓blk_x, xw_some, cw_f, mk1_eq, rw_put, rw_other, n_c, hp_put, nx_put, x_bin, ne_eq, reduceCtorEq, not_false_eq_true, true_and, decide_false, Pa.l.injEq, Pa.r.injEq, w1, w2, w9, w10, w13, ib, s1, b_lssN, h4]
                  exact ⟨_, d1, hi, rfl, hst' ▸ ow, fun id hid => ⟨(hrf id hid).2.elim (fun h => by omega) (fun h => h), (hrf id hid).1⟩, hnx, hfr, by rw [copyN_len]; omega⟩
              · simp only [rw_other, n_mk, ne_eq, reduceCtorEq, not_false_eq_true, Pa.l.injEq]; exact q1
              · simp only [rw_other, n_mk, ne_eq, reduceCtorEq, not_false_eq_true, Pa.r.injEq]; exact q2
              · simp only [rw_other, n_mk, ne_eq, reduceCtorEq, not_false_eq_true, Pa.l.injEq, Pa.r.injEq]; exact q9
              · simp only [rw_other, n_mk, ne_eq, reduceCtorEq, not_false_eq_true, Pa.l.injEq, Pa.r.injEq]; exact q10
              · simp only [rw_put, rw_other, n_mk, ne_eq, reduceCtorEq, not_false_eq_true, Pa.l.injEq, Pa.r.injEq]; rfl
              · simp only [rw_put, n_mk]; rfl
  · have hs6 : Src es6.hp d rest := hs.keep fun id hid => vf id (ho id hid) (hdis id hid)
    have od6 : Old es6.nx d := fun id hid => Nat.lt_of_lt_of_le (ho id hid) vn
    have od1 : Old es6.nx d1 := fun id hid => (vg id hid).2
    have eL : binD .gtr (.v (.int .i64 (o.length : Int))) (.v (.int .i64 1048576)) = some (.v (.bool (decide (1048576 < o.length)))) := b_gtrL 1048576 rfl
    by_cases h5 : 1048576 < o.length
    · simp only [eq_self, ↓ew_s, ↓ew_n, ↓ew_e, ↓ew_c', ↓sw_q, ↓sw_m1, ↓sw_z, ↓sw_x, ↓then_n, ↓then_r, xw_some, cw_t, mk1_eq, x_len, rw_put, rw_other, n_c, hp_put, nx_put, x_bin, live_v, ne_eq, reduceCtorEq, not_false_eq_true, true_and, or_true, decide_true, Pa.r.injEq, p6, p7, p8, v1, vw.src.len, eL, h5, live_v]
      exact hL o _ hi h5 _ _ vn vf
    · obtain ⟨d2, x1, x2, x3⟩ := hs6.sliE (a := sz) (z := rest.length) (lo := some (.v (.int .i64 (sz : Int)))) (hi := none) rfl (fun n hn => by rw [hn]; rfl) (by omega) (by omega)
      rw [List.take_of_length_le (by rw [List.length_drop]; omega)] at x2
      simp only [eq_self, ↓ew_s, ↓ew_n, ↓ew_e, ↓ew_c', ↓sw_q, ↓sw_m1, ↓sw_z, ↓sw_x, ↓then_n, xw_some, cw_f, mk1_eq, x_len, rw_put, rw_other, n_c, n_mk, hp_put, nx_put, sl_put, x_bin, live_v, ne_eq, reduceCtorEq, not_false_eq_true, and_true, true_and, or_true, and_self, decide_false, Pa.l.injEq, Pa.r.injEq, ↓sw_reg, ↓tw_q, ↓tw_z, ↓tw_chk, ↓tw_read, ↓chk_nil, ↓chk_cons, ro_v, okl_nops, look_f, ↓refsL_cons, ↓refs_nil, look_nil, refs_v, List.append_nil, xk_sli, Option.map_some, Option.map_none, n_ev, p6, p7, p8, p95, p96, v1, v2, v10, ib, vw.src.len, eL, h5, vw.src.ro od1, hs6.ro od6, hs6.live, live_v, x1]
      refine ⟨fun id hid => (okRef_iff _ _).2 ⟨x2.alive id hid, .inl (od6 id (x3 id hid))⟩, ?_⟩
      rw [vw.src.live, x2.live]
      exact hK o _ hi h5 _ _ d1 d2 (by omega) vf vw (vg.mono (Nat.le_refl _) (by omega)) x2 x3
end Go.DD

/- Chapter 03, the reference: Unpack. Conditions: those that each theorem states. -/
namespace Go.DD
open Go Go.Proofs

theorem sameAt_src' {H H' : Tr DObj} {d : DV} {l : List Nat} (h : Src H d l) : ∀ id ∈ d.refs, H'.get id = H.get id → sameAt H H' id = true := by
  cases h with
  | nil => intro id h; cases h
  | sl => intro id h; cases h
  | ms i off fl l h hl hc =>
    intro j hj he
    have : j = i := by simpa [DV.refs] using hj
    subst this
    exact sameAt_row' h he fun c hc => by obtain ⟨x, _, rfl⟩ := List.mem_map.1 hc; exact same_ub 5 x
theorem kn_packedC (rle : Bool) (k : Nat) (hp : Tr DObj) (nx : Nat) (K : DV → Tr DObj → Nat → Prop) (d : DV) (b : List Nat) (hs : Src hp d b) (ho : Old nx d) (hl : b.length < 400000)
    (hK : ∀ hp' nx' d', Al hp nx hp' nx' → Own hp' d' (packC (cRle rle) b) → Rng nx nx' d' → K d' hp' nx') : KW (kN (k + 3)) (.fn 20) [iv (cRle rle), d] hp nx K := by
  cases rle with
  | true => exact kn_packedR k hp nx K d b hs ho hl hK
  | false => exact kn_packedL k hp nx K d b hs ho hl hK
theorem unC_rle (rle : Bool) (b : List Nat) : unC (cRle rle) b = unS rle b.length [] b := by cases rle <;> rfl
theorem kn_runpackS (rle : Bool) (k : Nat) (hp : Tr DObj) (nx : Nat) (K : DV → Tr DObj → Nat → Prop) (d : DV) (b : List Nat) (hs : Src hp d b) (ho : Old nx d) (hb : ∀ x ∈ b, x < 256) (hl : b.length ≤ 2000)
    (hE : ∀ e, unS rle b.length [] b = .error e → ∀ hp' nx', Al hp nx hp' nx' → K (.tup [nilS, iv (errC e)]) hp' nx')
    (hF : ∀ out, unS rle b.length [] b = .ok out → packC (cRle rle) out ≠ b → ∀ hp' nx', Al hp nx hp' nx' → K (.tup [nilS, iv 7]) hp' nx')
    (hK : ∀ out, unS rle b.length [] b = .ok out → packC (cRle rle) out = b → ∀ hp' nx' d', Al hp nx hp' nx' → Own hp' d' out → Rng nx nx' d' → K (.tup [d', iv 0]) hp' nx') : KW (kN (k + 4)) (.fn 13) [iv (cRle rle), d] hp nx K := by
  refine kn_2 (relW_n (by decide)) t13 (Nat.le_of_ble_eq_true rfl) fun es e1 e2 he => ?_
  have a0 : rawE es (.t .o) = iv (cRle rle) := he 0 _ rfl
  have a1 : rawE es (.t (.l .o)) = d := he 1 _ rfl
  have hs1 : Src es.hp d b := e1 ▸ hs
  have l1 : binD .lss (iv (cRle rle)) (.v (.int .i64 1)) = some (.v (.bool false)) := by cases rle <;> rfl
  have l2 : binD .gtr (iv (cRle rle)) (.v (.int .i64 3)) = some (.v (.bool false)) := by cases rle <;> rfl
  have l3 : binD .eql (iv (cRle rle)) (.v (.int .i64 1)) = some (.v (.bool false)) := by cases rle <;> rfl
  have l4 : binD .gtr (.v (.int .i64 (b.length : Int))) (.v (.int .i64 1056768)) = some (.v (.bool false)) := by rw [b_gtr, decide_eq_false (by omega)]
  unfold r13
  simp only [↓ew_s, ↓ew_n, ↓ew_e, ↓ew_c', ↓ew_b, ↓sw_q, ↓sw_m1, ↓sw_z, ↓sw_x, ↓sw_g', gw_ff, gw_ft, ↓then_n, xw_some, cw_f, mk1_eq, x_len, rw_put, rw_other, n_c, hp_put, x_bin, x_pick, pick_b, ne_eq, reduceCtorEq, not_false_eq_true, Bool.false_eq_true, if_false, Pa.l.injEq, Pa.r.injEq, ↓z_l, a0, a1, l1, l2, l3, hs1.len, l4]
  refine EW.l (I := fun m es1 => ∃ rest out d0 d6, m = rest.length ∧ rest.length ≤ b.length ∧ rawE es1 (.t .o) = iv (cRle rle) ∧ rawE es1 (.t (.l .o)) = d ∧ rawE es1 (.t (.r (.r .o))) = d6 ∧ rawE es1 (.t (.l (.l (.l .o)))) = d0 ∧ Src es1.hp d0 rest ∧ (∀ id ∈ d0.refs, id ∈ d.refs) ∧ Own es1.hp d6 out ∧ Rng nx es1.nx d6 ∧ Al hp nx es1.hp es1.nx ∧ (∀ x ∈ rest, x < 256) ∧ (∀ x ∈ out, x < 256) ∧ out.length ≤ 1048576 ∧ ∃ k, rest.length ≤ k ∧ unS rle k out rest = unS rle b.length [] b) ?_ b.length 1000000 _ ⟨b, [], d, nilS, rfl, Nat.le_refl _, ?_, ?_, ?_, ?_, hs1, fun id h => h, .nil, Rng.nil _ _, ?_, hb, fun _ h => (by cases h), by simp, b.length, Nat.le_refl _, rfl⟩ (by omega)
  · rintro m es1 ⟨rest, out, d0, d6, rfl, hrl, q0, q1, q6, q7, s0, rf, ow, rg, al, hrb, hobb, hol, kk, hk1, hk2⟩
    unfold l13_1
    have od0 : Old es1.nx d0 := fun id hid => Nat.lt_of_lt_of_le (ho id (rf id hid)) al.le
    have eg : binD .gtr (.v (.int .i64 (rest.length : Int))) (.v (.int .i64 0)) = some (.v (.bool (decide (0 < rest.length)))) := b_gtr0 _ _
    by_cases h0 : 0 < rest.length
    · obtain ⟨k1, rfl⟩ : ∃ k1, kk = k1 + 1 := ⟨kk - 1, by omega⟩
      rw [unS_step h0] at hk2
      simp only [↓ew_s, ↓ew_n, ↓ew_e, ↓ew_c', ↓ew_b, ↓sw_q, ↓sw_m1, ↓sw_z, ↓sw_x, ↓then_n, xw_some, cw_t, mk1_eq, x_len, List.map_cons, List.map_nil, rw_put, rw_other, n_c, hp_put, nx_put, x_bin, ne_eq, reduceCtorEq, not_false_eq_true, decide_true, Pa.l.injEq, Pa.r.injEq, ↓z_call, q0, q6, q7, s0.len, eg, h0]
      have hfr : ∀ {hp2 : Tr DObj} {nx2 : Nat}, es1.nx ≤ nx2 → (∀ j, j < es1.nx → j ∉ d6.refs → hp2.get j = es1.hp.get j) → Al hp nx hp2 nx2 := fun h1 h2 => al.step h1 fun j hj => h2 j (by have := al.le; omega) (fun h => by have := (rg j h).1; omega)
      refine kws (kn_ritem rle (k + 2) _ _ _ d6 d0 out rest ow s0 (fun id hid => (rg id hid).2) od0 (fun id hid h => by have h1 := ho id (rf id hid); have h2 := (rg id h).1; omega) hrb hol h0 (fun e hi nx2 hnx2 => ?_) (fun o r hi ho5 hp2 nx2 hnx2 hf2 => ?_) (fun o r hi ho5 hp2 nx2 d1 d2 hnx2 hf2 w1 w2 w3 w4 => ?_))
      · have x0 : extD es1.hp (.tup [nilS, nilS, iv (errC e)]) 0 = some nilS := rfl
        have x1 : extD es1.hp (.tup [nilS, nilS, iv (errC e)]) 1 = some nilS := rfl
        have x2 : extD es1.hp (.tup [nilS, nilS, iv (errC e)]) 2 = some (iv (errC e)) := rfl
        have li : ∀ c, liveE es1.hp (iv c) = iv c := fun c => live_v _ _
        simp only [eq_self, ↓ew_s, ↓ew_n, ↓ew_e, ↓ew_c', ↓sw_q, ↓sw_m1, ↓sw_z, ↓sw_x, ↓then_n, ↓then_r, ↓blk_r, xw_some, cw_t, mk1_eq, rw_put, rw_other, n_c, n_mk, sl_put, x_bin, live_v, ne_eq, reduceCtorEq, not_false_eq_true, true_and, or_true, Pa.l.injEq, Pa.r.injEq, x_xe, p4, p5, x0, x1, x2, errC_ne, li, live_v]
        exact hE e (by rw [← hk2, hi]) _ _ (hfr hnx2 fun _ _ _ => rfl)
      · have x0 : extD hp2 (.tup [nilS, nilS, iv 8]) 0 = some nilS := rfl
        have x1 : extD hp2 (.tup [nilS, nilS, iv 8]) 1 = some nilS := rfl
        have x2 : extD hp2 (.tup [nilS, nilS, iv 8]) 2 = some (.v (.int .i64 8)) := rfl
        have n8 : binD .neq (.v (.int .i64 8)) (.v (.int .i64 0)) = some (.v (.bool true)) := rfl
        simp only [eq_self, ↓ew_s, ↓ew_n, ↓ew_e, ↓ew_c', ↓sw_q, ↓sw_m1, ↓sw_z, ↓sw_x, ↓then_n, ↓then_r, ↓blk_r, xw_some, cw_t, mk1_eq, rw_put, rw_other, n_c, n_mk, sl_put, x_bin, live_v, ne_eq, reduceCtorEq, not_false_eq_true, true_and, or_true, Pa.l.injEq, Pa.r.injEq, x_xe, p4, p5, x0, x1, x2, n8, live_v]
        exact hE 2 (by rw [← hk2, hi]; simp only [if_pos ho5]) _ _ (hfr hnx2 hf2)
      · have x0 : extD hp2 (.tup [d1, d2, iv 0]) 0 = some d1 := ext30 w1.src w3
        have x1 : extD hp2 (.tup [d1, d2, iv 0]) 1 = some d2 := ext31' w1.src w3
        have x2 : extD hp2 (.tup [d1, d2, iv 0]) 2 = some (.v (.int .i64 0)) := ext32
        have n0 : binD .neq (.v (.int .i64 0)) (.v (.int .i64 0)) = some (.v (.bool false)) := rfl
        have hio := unItem_ok hrb hobb h0 hi
        simp only [eq_self, ↓ew_s, ↓ew_n, ↓ew_e, ↓ew_c', ↓sw_q, ↓sw_m1, ↓sw_z, ↓sw_x, ↓then_n, ↓blk_n, xw_some, cw_f, mk1_eq, rw_put, rw_other, n_c, n_mk, sl_put, x_bin, ne_eq, reduceCtorEq, not_false_eq_true, true_and, Pa.l.injEq, Pa.r.injEq, x_xe, q0, q1, x0, x1, x2, n0]
        exact ⟨r.length, hio.2.2.2, r, o, d2, d1, rfl, by have := hio.2.2.2; omega, rfl, rfl, w3, fun id hid => rf id (w4 id hid), w1, w2.mono al.le (Nat.le_refl _), hfr hnx2 hf2, hio.2.1, hio.1, by omega, k1, by have := hio.2.2.2; omega, by rw [← hk2, hi]; simp only [if_neg ho5]⟩
    · have hrest : rest = [] := by
        cases rest with
        | nil => rfl
        | cons x l => simp at h0
      subst hrest
      have hfin : unS rle b.length [] b = .ok out := by
        rw [← hk2]
        cases kk with
        | zero => rfl
        | succ k => unfold unS; simp
      have hob := unS_ok _ hb (fun _ h => by cases h) hfin
      have hol4 : out.length < 400000 := by have := hob.2; simp at this; omega
      have sd : Src es1.hp d b := hs.al ho al
      have od : Old es1.nx d := ho.mono al.le
      have rov : ∀ f, RefsOK (iv (cRle rle)) f ↔ True := fun f => ro_v _ f
      have o6 : Old es1.nx d6 := fun id hid => (rg id hid).2
      simp only [↓ew_s, ↓ew_n, ↓ew_e, ↓ew_c', ↓sw_q, ↓sw_m1, ↓sw_z, ↓sw_x, ↓then_n, ↓then_x, ↓blk_x, xw_some, cw_f, mk1_eq, x_len, rw_put, rw_other, n_c, n_mk, hp_put, nx_put, sl_put, x_bin, ne_eq, reduceCtorEq, not_false_eq_true, true_and, and_self, decide_false, Pa.r.injEq, ↓sw_reg, ↓tw_q, ↓tw_chk, ↓tw_read, ↓z_main, ↓chk_nil, ↓chk_cons, look_f, ↓refsL_cons, ↓refs_nil, List.append_nil, q0, q6, q7, s0.len, eg, h0, ow.src.ro o6, rov]
      refine tws_main rfl (sws_call ?_)
      simp only [List.map_cons, List.map_nil, rw_put, rw_other, n_mk, nx_put, sl_put, ne_eq, reduceCtorEq, not_false_eq_true]
      refine kn_packedC rle k _ _ _ d6 out ow.src (fun id hid => by have := o6 id hid; omega) hol4 fun hp2 nx2 d9 hal2 hw2 hg2 => ?_
      have ha2 : es1.nx + 7 ≤ nx2 := hal2.le
      have hro9 : ∀ an, RefsOK d9 (fun id => okRef es1.nx 7 an hp2 id) := fun an id hid => (okRef_iff _ _).2 ⟨hw2.src.alive id hid, .inr (.inl (hg2 id hid).1)⟩
      have sm2 : ∀ j, j < es1.nx → hp2.get j = es1.hp.get j := fun j hj => hal2.same j (by omega)
      have sd2 : Src hp2 d b := sd.keep fun id hid => sm2 id (od id hid)
      have ow2 : Own hp2 d6 out := ow.keep fun id hid => sm2 id (o6 id hid)
      have hal : Al hp nx hp2 nx2 := al.step (by omega) fun j hj => sm2 j (by have := al.le; omega)
      have hlook : ∀ (an : List Nat), okLook es1.nx 7 (lookE 5 [4] true true d.refs es1.nx [] (lookE 4 [] true false d.refs es1.nx [] [])) [⟨2, an, es1.hp, hp2⟩] = true := fun an => by
        refine okl_look (fun id hid => ⟨od id hid, fun p hp => ?_⟩) (okl_look (fun id hid => ⟨od id hid, fun p hp => ?_⟩) (okl_nil _ _ _))
        · simp only [List.mem_singleton] at hp
          subst hp
          exact .inr (.inr (sameAt_src' sd id hid (sm2 id (od id hid))))
        · simp only [List.mem_singleton] at hp
          subst hp
          refine .inr (.inr ?_)
          show ((es1.hp.get id).isSome == (hp2.get id).isSome) = true
          rw [sm2 id (od id hid)]
          exact beq_self_eq_true _
      have hne : binD .neq (.v (.string (strB (packC (cRle rle) out)))) (.v (.string (strB b))) = some (.v (.bool (!decide (packC (cRle rle) out = b)))) := by
        rw [b_neqS, strB_eq (packC_byte hob.1) hb]
      by_cases hpb : packC (cRle rle) out = b
      · rw [decide_eq_true hpb] at hne
        simp only [eq_self, ↓ew_s, ↓ew_n, ↓ew_e, ↓ew_c', ↓sw_q, ↓sw_m1, ↓sw_z, ↓then_n, xw_some, cw_f, mk1_eq, rw_put, rw_other, n_c, n_mk, sl_put, x_bin, live_v, ne_eq, reduceCtorEq, not_false_eq_true, true_and, or_true, and_self, Bool.not_true, Pa.l.injEq, Pa.r.injEq, ↓tw_q, ↓tw_z, ↓tw_chk, ↓tw_read, ↓chk_nil, ↓chk_cons, ro_v, look_f, ↓refsL_cons, ↓refs_nil, look_nil, refs_v, List.append_nil, xk_b2s, n_ev, p4, p5, p53, p55, q1, q6, hro9, hw2.src.live, hw2.src.b2sE, sd2.live, sd2.b2sE, sd2.ro od, hne, ow2.src.live, live_v]
        exact ⟨ha2, hlook _, hK out hfin hpb _ _ _ hal ow2 (rg.mono (Nat.le_refl _) (by omega))⟩
      · rw [decide_eq_false hpb] at hne
        simp only [eq_self, ↓ew_s, ↓ew_n, ↓ew_e, ↓ew_c', ↓sw_q, ↓sw_m1, ↓sw_z, ↓then_n, ↓then_r, xw_some, cw_t, mk1_eq, rw_put, rw_other, n_c, n_mk, sl_put, x_bin, live_v, ne_eq, reduceCtorEq, not_false_eq_true, true_and, or_true, and_self, Bool.not_false, Pa.l.injEq, Pa.r.injEq, ↓tw_q, ↓tw_z, ↓tw_chk, ↓tw_read, ↓chk_nil, ↓chk_cons, ro_v, look_f, ↓refsL_cons, ↓refs_nil, look_nil, refs_v, List.append_nil, xk_b2s, n_ev, p4, p5, p53, p55, q1, hro9, hw2.src.live, hw2.src.b2sE, sd2.live, sd2.b2sE, sd2.ro od, hne, live_v]
        exact ⟨ha2, hlook _, hF out hfin hpb _ _ hal⟩
  · simp only [rw_other, ne_eq, reduceCtorEq, not_false_eq_true]; exact a0
  · simp only [rw_other, ne_eq, reduceCtorEq, not_false_eq_true, Pa.l.injEq]; exact a1
  · simp only [rw_put, rw_other, ne_eq, reduceCtorEq, not_false_eq_true, Pa.r.injEq]; rfl
  · simp only [rw_put]
  · show Al hp nx es.hp es.nx
    rw [e1, e2]; exact Al.refl _ _
end Go.DD

/- Chapter 03: ChunkUnpacks returns true: as a contract. Conditions: the package's variable half holds what the text lays. -/
namespace Go.DD
open Go Go.Proofs

theorem kn_runpack (k : Nat) (hp : Tr DObj) (nx : Nat) (K : DV → Tr DObj → Nat → Prop) (c : Int) (d : DV) (b : List Nat) (hs : Src hp d b) (ho : Old nx d) (hb : ∀ x ∈ b, x < 256) (hl : b.length ≤ 2000)
    (hN : c < 1 ∨ 3 < c → ∀ hp' nx', Al hp nx hp' nx' → K (.tup [nilS, iv 2]) hp' nx')
    (hE : ¬ (c < 1 ∨ 3 < c) → ∀ e, unC c b = .error e → ∀ hp' nx', Al hp nx hp' nx' → K (.tup [nilS, iv (errC e)]) hp' nx')
    (hF : ¬ (c < 1 ∨ 3 < c) → ∀ out, unC c b = .ok out → packC c out ≠ b → ∀ hp' nx', Al hp nx hp' nx' → K (.tup [nilS, iv 7]) hp' nx')
    (hK : ¬ (c < 1 ∨ 3 < c) → ∀ out, unC c b = .ok out → packC c out = b → ∀ hp' nx' d', Al hp nx hp' nx' → Own hp' d' out → Rng nx nx' d' → K (.tup [d', iv 0]) hp' nx') : KW (kN (k + 4)) (.fn 13) [iv c, d] hp nx K := by
  by_cases hr : c = 2 ∨ c = 3
  · obtain ⟨rle, rfl⟩ : ∃ rle, c = cRle rle := by
      rcases hr with h | h
      · exact ⟨true, h⟩
      · exact ⟨false, h⟩
    have hc : ¬ (cRle rle < 1 ∨ 3 < cRle rle) := by omega
    refine kn_runpackS rle k hp nx K d b hs ho hb hl (fun e h => hE hc e (by rw [unC_rle]; exact h)) (fun out h => hF hc out (by rw [unC_rle]; exact h)) (fun out h => hK hc out (by rw [unC_rle]; exact h))
  · refine kn_2 (relW_n (by decide)) t13 (Nat.le_of_ble_eq_true rfl) fun es e1 e2 he => ?_
    have a0 : rawE es (.t .o) = iv c := he 0 _ rfl
    have a1 : rawE es (.t (.l .o)) = d := he 1 _ rfl
    have hs1 : Src es.hp d b := e1 ▸ hs
    have l1 : binD .lss (iv c) (.v (.int .i64 1)) = some (.v (.bool (decide (c < 1)))) := b_lss _ _ _
    have l2 : binD .gtr (iv c) (.v (.int .i64 3)) = some (.v (.bool (decide (3 < c)))) := b_gtr _ _ _
    unfold r13
    by_cases h1 : c < 1
    · simp only [eq_self, ↓ew_s, ↓ew_n, ↓ew_e, ↓ew_c', ↓sw_q, ↓sw_m1, ↓sw_z, ↓sw_x, ↓sw_g', gw_tf, ↓then_n, ↓then_r, xw_some, cw_t, mk1_eq, rw_put, rw_other, n_c, hp_put, nx_put, x_bin, x_pick, live_v, pick_b, ne_eq, reduceCtorEq, not_false_eq_true, true_and, or_true, if_true, decide_true, Pa.l.injEq, p4, p5, a0, l1, h1, live_v]
      rw [e1, e2]
      exact hN (.inl h1) _ _ (Al.refl _ _)
    · by_cases h3 : 3 < c
      · simp only [eq_self, ↓ew_s, ↓ew_n, ↓ew_e, ↓ew_c', ↓sw_q, ↓sw_m1, ↓sw_z, ↓sw_x, ↓sw_g', gw_ff, ↓then_n, ↓then_r, xw_some, cw_t, mk1_eq, rw_put, rw_other, n_c, hp_put, nx_put, x_bin, x_pick, live_v, pick_b, ne_eq, reduceCtorEq, not_false_eq_true, Bool.false_eq_true, true_and, or_true, if_false, decide_true, decide_false, Pa.l.injEq, p4, p5, a0, l1, h1, l2, h3, live_v]
        rw [e1, e2]
        exact hN (.inr h3) _ _ (Al.refl _ _)
      · obtain rfl : c = 1 := by omega
        have l3 : binD .eql (iv 1) (.v (.int .i64 1)) = some (.v (.bool true)) := rfl
        have l4 : binD .gtr (.v (.int .i64 (b.length : Int))) (.v (.int .i64 1056768)) = some (.v (.bool false)) := by rw [b_gtr, decide_eq_false (by omega)]
        have l5 : binD .gtr (.v (.int .i64 (b.length : Int))) (.v (.int .i64 1048576)) = some (.v (.bool false)) := by rw [b_gtr, decide_eq_false (by omega)]
        simp only [eq_self, ↓ew_s, ↓ew_n, ↓ew_e, ↓ew_c', ↓sw_q, ↓sw_m1, ↓sw_z, ↓sw_x, ↓sw_g', gw_tt, gw_ff, ↓then_n, xw_some, cw_t, cw_f, mk1_eq, x_len, rw_put, rw_other, n_c, hp_put, x_bin, x_pick, pick_b, ne_eq, reduceCtorEq, not_false_eq_true, Bool.false_eq_true, if_true, if_false, decide_false, Pa.l.injEq, Pa.r.injEq, ↓z_bsl, a0, a1, l1, h1, l2, h3, l3, hs1.len, l4, l5]
        refine sw_bsl (n := 0) (z := [.int .u8 0]) (ps := []) (l := []) rfl rfl rfl fun hp1 hg1 hk1 => ?_
        simp only [hp_put, nx_put, ne_eq, e1, e2] at hg1 hk1
        simp only [↓sw_q, ↓sw_m1, xw_some, mk1_eq, rw_other, n_mk, nx_put, sl_put, ne_eq, reduceCtorEq, not_false_eq_true, Pa.l.injEq, ↓z_app, a1, e2]
        have hs2 : Src hp1 d b := hs.keep fun id hid => hk1 id (by have := ho id hid; omega)
        refine sw_app (d := .ms nx 0 0 1) (d2 := d) (l := []) (m := b) (by simp only [rw_put, rw_other, n_mk, ne_eq, reduceCtorEq, not_false_eq_true, p31]; rfl) (.ms nx [] hg1) (by simp only [rw_put, n_mk, p32]) hs2 (by simp; omega) (by decide) fun hp2 hg2 hk2 => ?_
        simp only [ne_eq, List.nil_append] at hg2 hk2
        simp only [eq_self, ↓ew_e, ↓sw_q, ↓sw_m1, ↓sw_z, ↓then_n, ↓then_r, xw_some, mk1_eq, rw_put, rw_other, n_c, n_mk, sl_put, live_v, ne_eq, reduceCtorEq, not_false_eq_true, true_and, or_true, p4, p5, live_ms hg2, live_v, List.nil_append]
        exact hK (by omega) b rfl rfl _ _ _ ⟨by omega, fun j hj => by rw [hk2 j (by omega) (by simp [DV.refs]; omega), hk1 j (by omega)]⟩ (.ms _ _ hg2) (.ms (by omega) (by omega))
/-- What both return. -/
def outC (c : Int) (b : List Nat) : List Nat × Int := if c < 1 ∨ 3 < c then ([], 2) else match unC c b with
  | .error e => ([], errC e)
  | .ok out => if packC c out = b then (out, 0) else ([], 7)
theorem outC_n {c : Int} {b : List Nat} (h : c < 1 ∨ 3 < c) : outC c b = ([], 2) := by unfold outC; rw [if_pos h]
theorem outC_e {c : Int} {b : List Nat} {e : Nat} (h : ¬ (c < 1 ∨ 3 < c)) (he : unC c b = .error e) : outC c b = ([], errC e) := by unfold outC; rw [if_neg h, he]
theorem outC_f {c : Int} {b out : List Nat} (h : ¬ (c < 1 ∨ 3 < c)) (he : unC c b = .ok out) (hp : packC c out ≠ b) : outC c b = ([], 7) := by unfold outC; rw [if_neg h, he]; simp only [if_neg hp]
theorem outC_k {c : Int} {b out : List Nat} (h : ¬ (c < 1 ∨ 3 < c)) (he : unC c b = .ok out) (hp : packC c out = b) : outC c b = (out, 0) := by unfold outC; rw [if_neg h, he]; simp only [if_pos hp]
theorem kn_unpackO (k : Nat) (hp : Tr DObj) (nx : Nat) (K : DV → Tr DObj → Nat → Prop) (c : Int) (d : DV) (b : List Nat) (hs : Src hp d b) (hkn : Kn d b) (ho : Old nx d) (hb : ∀ x ∈ b, x < 256) (hl : b.length ≤ 2000)
    (hK : ∀ hp' nx' d', Al hp nx hp' nx' → Res hp' d' (outC c b).1 → Rng nx nx' d' → K (.tup [d', iv (outC c b).2]) hp' nx') : KW (kN (k + 8)) (.fn 12) [iv c, d] hp nx K := by
  refine kn_unpack k hp nx K c d b hs (fun _ => hkn) ho hb hl (fun hc hp' nx' h => ?_) (fun hc e he hp' nx' h => ?_) (fun hc out he hne hp' nx' h => ?_) (fun hc out he heq hp' nx' d' h h2 h3 => ?_)
  · rw [outC_n hc] at hK
    exact hK _ _ nilS h (.inl .nil) (Rng.nil _ _)
  · rw [outC_e hc he] at hK
    exact hK _ _ nilS h (.inl .nil) (Rng.nil _ _)
  · rw [outC_f hc he hne] at hK
    exact hK _ _ nilS h (.inl .nil) (Rng.nil _ _)
  · rw [outC_k hc he heq] at hK
    exact hK _ _ d' h h2 h3
theorem kn_runpackO (k : Nat) (hp : Tr DObj) (nx : Nat) (K : DV → Tr DObj → Nat → Prop) (c : Int) (d : DV) (b : List Nat) (hs : Src hp d b) (ho : Old nx d) (hb : ∀ x ∈ b, x < 256) (hl : b.length ≤ 2000)
    (hK : ∀ hp' nx' d', Al hp nx hp' nx' → Res hp' d' (outC c b).1 → Rng nx nx' d' → K (.tup [d', iv (outC c b).2]) hp' nx') : KW (kN (k + 4)) (.fn 13) [iv c, d] hp nx K := by
  refine kn_runpack k hp nx K c d b hs ho hb hl (fun hc hp' nx' h => ?_) (fun hc e he hp' nx' h => ?_) (fun hc out he hne hp' nx' h => ?_) (fun hc out he heq hp' nx' d' h h2 h3 => ?_)
  · rw [outC_n hc] at hK
    exact hK _ _ nilS h (.inl .nil) (Rng.nil _ _)
  · rw [outC_e hc he] at hK
    exact hK _ _ nilS h (.inl .nil) (Rng.nil _ _)
  · rw [outC_f hc he hne] at hK
    exact hK _ _ nilS h (.inl .nil) (Rng.nil _ _)
  · rw [outC_k hc he heq] at hK
    exact hK _ _ d' h (.inl h2) h3
theorem law_unpacks (c : Int) (b : List Nat) (hb : ∀ x ∈ b, x < 256) : Known Tryz.prog 5 [iv c, .sl (b.map ub) b.length] (.v (.bool true)) := by
  refine Known.run1 mixed te_ok (callN_ok (n := 1000000) mixed te_ok relW_ok 8) t5 (Nat.le_of_ble_eq_true rfl) (fun x hx => ?_) rfl (fun _ => rz_flat rfl) fun es he => ?_
  · simp only [List.mem_cons, List.mem_nil_iff, or_false] at hx
    rcases hx with rfl | rfl <;> rfl
  have a0 : rawE es (.t .o) = iv c := he 0 _ rfl
  have a1 : rawE es (.t (.l .o)) = .sl (b.map ub) b.length := he 1 _ rfl
  have hs : ∀ hp : Tr DObj, Src hp (.sl (b.map ub) b.length) b := fun hp => .sl b
  have hkn : Kn (.sl (b.map ub) b.length) b := by
    cases b with
    | nil => exact .inr (.inr rfl)
    | cons x l => exact .inl (by simp)
  have ho : ∀ n, Old n (.sl (b.map ub) b.length) := fun n id h => by cases h
  have hlen : ∀ hp : Tr DObj, lenD hp (.sl (b.map ub) b.length) = some (.v (.int .i64 (b.length : Int))) := fun hp => (hs hp).len
  generalize (DV.sl (b.map ub) b.length) = d at a1 hs hkn ho hlen
  unfold r5
  have e0 : binD .gtr (.v (.int .i64 (b.length : Int))) (.v (.int .i64 400)) = some (.v (.bool (decide (400 < b.length)))) := b_gtrL 400 rfl
  by_cases h1 : 400 < b.length
  · simp only [↓ew_s, ↓ew_n, ↓ew_c', ↓sw_q, ↓sw_m1, ↓sw_z, ↓sw_x, ↓then_n, xw_some, cw_t, mk1_eq, x_len, List.map_nil, rw_put, rw_other, n_c, hp_put, nx_put, x_bin, ne_eq, reduceCtorEq, not_false_eq_true, decide_true, ↓z_call, a1, hlen, e0, h1]
    refine kws (kn_works 7 _ _ _ ?_)
    simp only [eq_self, ↓ew_e, ↓sw_q, ↓sw_m1, ↓sw_z, ↓then_n, ↓then_r, xw_some, mk1_eq, rw_put, n_mk, sl_put, reduceCtorEq, or_true, and_self, p4]
  · simp only [↓ew_s, ↓ew_n, ↓ew_e, ↓ew_c', ↓sw_q, ↓sw_m1, ↓sw_z, ↓sw_x, ↓then_n, xw_some, cw_f, mk1_eq, x_len, List.map_cons, List.map_nil, rw_put, rw_other, n_c, hp_put, nx_put, x_bin, ne_eq, reduceCtorEq, not_false_eq_true, decide_false, Pa.l.injEq, ↓z_call, a0, a1, hlen, e0, h1]
    have kr := fun hp nx K => kn_runpackO 4 hp nx K c d b (hs hp) (ho nx) hb (by omega)
    have kp := fun hp nx K => kn_unpackO 0 hp nx K c d b (hs hp) hkn (ho nx) hb (by omega)
    generalize outC c b = r at kr kp
    obtain ⟨l, e⟩ := r
    simp only at kr kp
    refine kws (kp _ _ _ fun hp3 nx3 p hal3 hrp hgp => ?_)
    have x0 : extD hp3 (.tup [p, iv e]) 0 = some p := ext20 hrp.src
    have x1 : extD hp3 (.tup [p, iv e]) 1 = some (iv e) := ext21
    simp only [↓ew_s, ↓ew_n, ↓sw_q, ↓sw_m1, ↓sw_z, ↓sw_x, ↓then_n, xw_some, mk1_eq, List.map_cons, List.map_nil, rw_put, rw_other, n_mk, sl_put, ne_eq, reduceCtorEq, not_false_eq_true, Pa.l.injEq, Pa.r.injEq, ↓z_call, x_xe, a0, a1, x0, x1]
    refine kws (kr _ _ _ fun hp4 nx4 q hal4 hrq hgq => ?_)
    have y0 : extD hp4 (.tup [q, iv e]) 0 = some q := ext20 hrq.src
    have y1 : extD hp4 (.tup [q, iv e]) 1 = some (iv e) := ext21
    have hp4' : Src hp4 p l := hrp.src.al (fun id hid => (hgp id hid).2) hal4
    have ee : binD .eql (iv e) (iv e) = some (.v (.bool true)) := by unfold iv; rw [b_eql, beq_self_eq_true]
    simp only [↓ew_s, ↓ew_n, ↓sw_q, ↓sw_m1, ↓sw_z, ↓sw_x, ↓then_n, xw_some, mk1_eq, rw_put, rw_other, n_mk, sl_put, ne_eq, reduceCtorEq, not_false_eq_true, Pa.l.injEq, Pa.r.injEq, ↓z_b2s, x_xe, y0, y1]
    refine sws_b2s (d := p) (l := l) (by simp only [rw_put, n_mk, p25]) hp4' ?_
    simp only [↓sw_q, ↓sw_m1, xw_some, mk1_eq, rw_put, rw_other, n_mk, sl_put, ne_eq, reduceCtorEq, not_false_eq_true, Pa.l.injEq, ↓z_b2s]
    refine sws_b2s (d := q) (l := l) (by simp only [rw_put, n_mk, p27]) hrq.src ?_
    simp only [eq_self, ↓sw_q, ↓sw_m1, ↓sw_x, ↓sw_g', gw_tt, xw_some, mk1_eq, List.map_nil, rw_put, rw_other, n_c, n_mk, sl_put, x_bin, x_pick, pick_b, ne_eq, reduceCtorEq, not_false_eq_true, if_true, Pa.l.injEq, Pa.r.injEq, ↓z_call, b_eqlSS, ee]
    refine kws (kn_works 7 _ _ _ ?_)
    simp only [eq_self, ↓ew_e, ↓sw_q, ↓sw_m1, ↓sw_z, ↓sw_x, ↓then_n, xw_some, mk1_eq, rw_put, rw_other, n_c, n_mk, sl_put, x_pick, pick_b, ne_eq, reduceCtorEq, not_false_eq_true, or_true, and_self, if_true, p4]
end Go.DD
