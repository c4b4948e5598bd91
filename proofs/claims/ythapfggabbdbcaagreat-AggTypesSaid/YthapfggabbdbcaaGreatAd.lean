/- Chapter 05: what Type returns, in the program and in the reference; AggTypes returns true. -/
import Derived.Test.YthapfggabbdbcaaGreatRt
import Derived.Test.YthapfggabbdbcaaGreatJe
import Derived.Test.YthapfggabbdbcaaGreatAb
namespace Go.DD
open Go Go.Proofs

def iv (n : Int) : DV := .v (.int .i64 n)
/-- The type of a result, and the error. -/
def typD (f t : Int) : Int × Int :=
  if f < 1 ∨ 7 < f ∨ t < 1 ∨ 4 < t then (0, 2) else
  if f = 1 ∨ f = 7 then (2, 0) else
  if f = 4 ∨ f = 5 then (t, 0) else
  if ¬ (t = 2 ∨ t = 3) then (0, 12) else
  if f = 2 then (t, 0) else (3, 0)
theorem te_ok : TbOK Tryz.prog 1000000 te := tbP_ok _ _
theorem g0_ok : CallOK Tryz.prog (callG fun _ _ => none) := callG_ok fun _ _ _ h => by cases h
theorem iv2 (a b : Int) : ∀ x ∈ [iv a, iv b], x.refs = [] := by
  intro x hx
  simp only [List.mem_cons, List.not_mem_nil, or_false] at hx
  rcases hx with rfl | rfl <;> rfl

theorem kn_type (f t : Int) : Known Tryz.prog 5 [iv f, iv t] (.tup [iv (typD f t).1, iv (typD f t).2]) := by
  refine Known.run2 mixed te_ok g0_ok t5 (Nat.le_of_ble_eq_true rfl) (iv2 f t) rfl rfl (fun _ => rz_tup rfl) fun es he => ?_
  have h : rawE es (.t .o) = .v (.int .i64 f) := he 0 _ rfl
  have h2 : rawE es (.t (.l .o)) = .v (.int .i64 t) := he 1 _ rfl
  have key : f < 1 ∨ (¬ f < 1 ∧ 7 < f) ∨ (¬ f < 1 ∧ ¬ 7 < f ∧ t < 1) ∨ (¬ f < 1 ∧ ¬ 7 < f ∧ ¬ t < 1 ∧ 4 < t) ∨ ((f = 1 ∨ f = 2 ∨ f = 3 ∨ f = 4 ∨ f = 5 ∨ f = 6 ∨ f = 7) ∧ (t = 1 ∨ t = 2 ∨ t = 3 ∨ t = 4)) := by omega
  unfold r5
  rcases key with h1 | ⟨h1, h3⟩ | ⟨h1, h3, h4⟩ | ⟨h1, h3, h4, h5⟩ | ⟨h1, h3⟩
  · simp [ew_s, ew_n, ew_e, ew_c', ew_b, sw_q, sw_m, sw_z, sw_x, sw_g', gw_b, gw_u, x_pick, pick_b, x_un, un_not, thenE, blkE, rw_put, rw_other, rw_c, x_bin, b_lss, b_gtr, b_eql, xw_some, cw_b, h, h2, iv, typD, h1, show pth 4 = .r (.l .o) from rfl, show pth 5 = .l (.r .o) from rfl]
  · simp [ew_s, ew_n, ew_e, ew_c', ew_b, sw_q, sw_m, sw_z, sw_x, sw_g', gw_b, gw_u, x_pick, pick_b, x_un, un_not, thenE, blkE, rw_put, rw_other, rw_c, x_bin, b_lss, b_gtr, b_eql, xw_some, cw_b, h, h2, iv, typD, h1, h3, show pth 4 = .r (.l .o) from rfl, show pth 5 = .l (.r .o) from rfl]
  · simp [ew_s, ew_n, ew_e, ew_c', ew_b, sw_q, sw_m, sw_z, sw_x, sw_g', gw_b, gw_u, x_pick, pick_b, x_un, un_not, thenE, blkE, rw_put, rw_other, rw_c, x_bin, b_lss, b_gtr, b_eql, xw_some, cw_b, h, h2, iv, typD, h1, h3, h4, show pth 4 = .r (.l .o) from rfl, show pth 5 = .l (.r .o) from rfl]
  · simp [ew_s, ew_n, ew_e, ew_c', ew_b, sw_q, sw_m, sw_z, sw_x, sw_g', gw_b, gw_u, x_pick, pick_b, x_un, un_not, thenE, blkE, rw_put, rw_other, rw_c, x_bin, b_lss, b_gtr, b_eql, xw_some, cw_b, h, h2, iv, typD, h1, h3, h4, h5, show pth 4 = .r (.l .o) from rfl, show pth 5 = .l (.r .o) from rfl]
  · rcases h1 with rfl | rfl | rfl | rfl | rfl | rfl | rfl <;> rcases h3 with rfl | rfl | rfl | rfl <;>
    simp [ew_s, ew_n, ew_e, ew_c', ew_b, sw_q, sw_m, sw_z, sw_x, sw_g', gw_b, gw_u, x_pick, pick_b, x_un, un_not, thenE, blkE, rw_put, rw_other, rw_c, x_bin, b_lss, b_gtr, b_eql, xw_some, cw_b, h, h2, iv, typD, show pth 4 = .r (.l .o) from rfl, show pth 5 = .l (.r .o) from rfl]

theorem iv1 (a : Int) : ∀ x ∈ [iv a], x.refs = [] := by
  intro x hx
  rw [List.mem_singleton] at hx
  rw [hx]; rfl
theorem kn_is (f : Int) : Known Tryz.prog 23 [iv f] (.v (.bool (decide (1 ≤ f ∧ f ≤ 7)))) := by
  refine Known.run1 mixed te_ok g0_ok t23 (Nat.le_of_ble_eq_true rfl) (iv1 f) rfl (fun _ => rz_flat rfl) fun es he => ?_
  have h : rawE es (.t .o) = .v (.int .i64 f) := he 0 _ rfl
  unfold r23
  by_cases h1 : 1 ≤ f <;> by_cases h2 : f ≤ 7 <;>
  simp [ew_s, ew_n, ew_e, ew_c', ew_b, sw_q, sw_m, sw_z, sw_x, sw_g', gw_b, gw_u, x_pick, pick_b, x_un, un_not, thenE, blkE, rw_put, rw_other, rw_c, x_bin, b_lss, b_gtr, b_leq, b_geq, b_eql, xw_some, cw_b, h, h1, h2, show pth 1 = .l .o from rfl, show pth 2 = .r .o from rfl, show pth 3 = .l (.l .o) from rfl]
theorem kn_numeric (f : Int) : Known Tryz.prog 24 [iv f] (.v (.bool (decide (f = 2 ∨ f = 3 ∨ f = 6)))) := by
  refine Known.run1 mixed te_ok g0_ok t24 (Nat.le_of_ble_eq_true rfl) (iv1 f) rfl (fun _ => rz_flat rfl) fun es he => ?_
  have h : rawE es (.t .o) = .v (.int .i64 f) := he 0 _ rfl
  unfold r24
  by_cases h1 : f = 2
  · subst h1; simp [ew_s, ew_n, ew_e, ew_c', ew_b, sw_q, sw_m, sw_z, sw_x, sw_g', gw_b, gw_u, x_pick, pick_b, x_un, un_not, thenE, blkE, rw_put, rw_other, rw_c, x_bin, b_lss, b_gtr, b_leq, b_geq, b_eql, xw_some, cw_b, h, show pth 1 = .l .o from rfl, show pth 2 = .r .o from rfl, show pth 3 = .l (.l .o) from rfl]
  · by_cases h2 : f = 3
    · subst h2; simp [ew_s, ew_n, ew_e, ew_c', ew_b, sw_q, sw_m, sw_z, sw_x, sw_g', gw_b, gw_u, x_pick, pick_b, x_un, un_not, thenE, blkE, rw_put, rw_other, rw_c, x_bin, b_lss, b_gtr, b_leq, b_geq, b_eql, xw_some, cw_b, h, show pth 1 = .l .o from rfl, show pth 2 = .r .o from rfl, show pth 3 = .l (.l .o) from rfl]
    · by_cases h3 : f = 6
      · subst h3; simp [ew_s, ew_n, ew_e, ew_c', ew_b, sw_q, sw_m, sw_z, sw_x, sw_g', gw_b, gw_u, x_pick, pick_b, x_un, un_not, thenE, blkE, rw_put, rw_other, rw_c, x_bin, b_lss, b_gtr, b_leq, b_geq, b_eql, xw_some, cw_b, h, show pth 1 = .l .o from rfl, show pth 2 = .r .o from rfl, show pth 3 = .l (.l .o) from rfl]
      · simp [ew_s, ew_n, ew_e, ew_c', ew_b, sw_q, sw_m, sw_z, sw_x, sw_g', gw_b, gw_u, x_pick, pick_b, x_un, un_not, thenE, blkE, rw_put, rw_other, rw_c, x_bin, b_lss, b_gtr, b_leq, b_geq, b_eql, xw_some, cw_b, h, h1, h2, h3, show pth 1 = .l .o from rfl, show pth 2 = .r .o from rfl, show pth 3 = .l (.l .o) from rfl]

/-- What the reference calls. -/
def rel6 (f : Nat) (ds : List DV) : Option DV := match ds with
  | [.v (.int .i64 a)] => if f = 23 then some (.v (.bool (decide (1 ≤ a ∧ a ≤ 7)))) else if f = 24 then some (.v (.bool (decide (a = 2 ∨ a = 3 ∨ a = 6)))) else none
  | _ => none
theorem g6_ok : CallOK Tryz.prog (callG rel6) := callG_ok fun f ds d h => by
  unfold rel6 at h
  split at h
  · rename_i a
    split at h
    · rename_i hf; cases h; rw [hf]; exact kn_is a
    · split at h
      · rename_i hf; cases h; rw [hf]; exact kn_numeric a
      · cases h
  · cases h
theorem k6i (a : Int) (hp : Tr DObj) (nx : Nat) (K : DV → Tr DObj → Nat → Prop) : KW (callG rel6) (.fn 23) [.v (.int .i64 a)] hp nx K ↔ K (.v (.bool (decide (1 ≤ a ∧ a ≤ 7)))) hp nx := kw_g (by simp [rel6])
theorem k6n (a : Int) (hp : Tr DObj) (nx : Nat) (K : DV → Tr DObj → Nat → Prop) : KW (callG rel6) (.fn 24) [.v (.int .i64 a)] hp nx K ↔ K (.v (.bool (decide (a = 2 ∨ a = 3 ∨ a = 6)))) hp nx := kw_g (by simp [rel6])
theorem kn_rtypeI (f t : Int) (h1 : f = 1 ∨ f = 2 ∨ f = 3 ∨ f = 4 ∨ f = 5 ∨ f = 6 ∨ f = 7) (h3 : t = 1 ∨ t = 2 ∨ t = 3 ∨ t = 4) (es : ES) (he : Ent es [iv f, iv t]) :
    EW r6 (callG rel6) es fun e es' => (e = .normal ∨ e = .ret) ∧ rawE es' (.t (pth 4)) = iv (typD f t).1 ∧ rawE es' (.t (pth 5)) = iv (typD f t).2 := by
  have h : rawE es (.t .o) = .v (.int .i64 f) := he 0 _ rfl
  have h2 : rawE es (.t (.l .o)) = .v (.int .i64 t) := he 1 _ rfl
  have k1 : decide (1 ≤ f ∧ f ≤ 7) = true := by rcases h1 with rfl | rfl | rfl | rfl | rfl | rfl | rfl <;> rfl
  have k2 : decide (t < 1) = false := by rcases h3 with rfl | rfl | rfl | rfl <;> rfl
  have k3 : decide (t > 4) = false := by rcases h3 with rfl | rfl | rfl | rfl <;> rfl
  unfold r6
  simp only [ew_s, ew_n, ew_e, ew_c', ew_b, sw_q, sw_m, sw_z, sw_x, sw_call, List.map, k6i, k6n, rw_mk, sl_put, sw_g', gw_b, gw_u, x_pick, pick_b, x_un, un_not, thenE, blkE, rw_put, rw_other, rw_c, hp_put, nx_put, x_bin, b_lss, b_gtr, b_eql, b_neq, xw_some, cw_b, h, h2, iv, k1, k2, k3, ne_eq, reduceCtorEq, not_false_eq_true, Pa.l.injEq, Pa.r.injEq, Bool.not_true, Bool.false_eq_true, Bool.true_eq_false, true_imp_iff, false_imp_iff, not_true_eq_false, and_true, true_and, if_true, if_false, or_true, show pth 4 = .r (.l .o) from rfl, show pth 5 = .l (.r .o) from rfl]
  rcases h1 with rfl | rfl | rfl | rfl | rfl | rfl | rfl <;> rcases h3 with rfl | rfl | rfl | rfl <;>
  simp [typD, gw_b, gw_u, x_pick, pick_b, xw_some, cw_b, b_neq, b_eql, b_lss, b_gtr, x_bin, x_un, un_not, thenE, blkE, rw_put, rw_other, rw_c, h, h2]
theorem kn_rtype (f t : Int) : Known Tryz.prog 6 [iv f, iv t] (.tup [iv (typD f t).1, iv (typD f t).2]) := by
  refine Known.run2 mixed te_ok g6_ok t6 (Nat.le_of_ble_eq_true rfl) (iv2 f t) rfl rfl (fun _ => rz_tup rfl) fun es he => ?_
  have h : rawE es (.t .o) = .v (.int .i64 f) := he 0 _ rfl
  have h2 : rawE es (.t (.l .o)) = .v (.int .i64 t) := he 1 _ rfl
  have key : f < 1 ∨ (¬ f < 1 ∧ 7 < f) ∨ (¬ f < 1 ∧ ¬ 7 < f ∧ t < 1) ∨ (¬ f < 1 ∧ ¬ 7 < f ∧ ¬ t < 1 ∧ 4 < t) ∨ ((f = 1 ∨ f = 2 ∨ f = 3 ∨ f = 4 ∨ f = 5 ∨ f = 6 ∨ f = 7) ∧ (t = 1 ∨ t = 2 ∨ t = 3 ∨ t = 4)) := by omega
  unfold r6
  rcases key with h1 | ⟨h1, h3⟩ | ⟨h1, h3, h4⟩ | ⟨h1, h3, h4, h5⟩ | ⟨h1, h3⟩
  · have e1 : ¬ 1 ≤ f := by omega
    simp [ew_s, ew_n, ew_e, ew_c', ew_b, sw_q, sw_m, sw_z, sw_x, sw_call, k6i, k6n, rw_mk, sl_put, sw_g', gw_b, gw_u, x_pick, pick_b, x_un, un_not, thenE, blkE, rw_put, rw_other, rw_c, x_bin, b_lss, b_gtr, b_eql, b_neq, xw_some, cw_b, h, h2, iv, typD, h1, e1, show pth 4 = .r (.l .o) from rfl, show pth 5 = .l (.r .o) from rfl, show pth 2 = .r .o from rfl, show pth 3 = .l (.l .o) from rfl]
  · have e1 : 1 ≤ f := by omega
    have e2 : ¬ f ≤ 7 := by omega
    simp [ew_s, ew_n, ew_e, ew_c', ew_b, sw_q, sw_m, sw_z, sw_x, sw_call, k6i, k6n, rw_mk, sl_put, sw_g', gw_b, gw_u, x_pick, pick_b, x_un, un_not, thenE, blkE, rw_put, rw_other, rw_c, x_bin, b_lss, b_gtr, b_eql, b_neq, xw_some, cw_b, h, h2, iv, typD, h1, h3, e1, e2, show pth 4 = .r (.l .o) from rfl, show pth 5 = .l (.r .o) from rfl, show pth 2 = .r .o from rfl, show pth 3 = .l (.l .o) from rfl]
  · have e1 : 1 ≤ f := by omega
    have e2 : f ≤ 7 := by omega
    simp [ew_s, ew_n, ew_e, ew_c', ew_b, sw_q, sw_m, sw_z, sw_x, sw_call, k6i, k6n, rw_mk, sl_put, sw_g', gw_b, gw_u, x_pick, pick_b, x_un, un_not, thenE, blkE, rw_put, rw_other, rw_c, x_bin, b_lss, b_gtr, b_eql, b_neq, xw_some, cw_b, h, h2, iv, typD, h1, h3, h4, e1, e2, show pth 4 = .r (.l .o) from rfl, show pth 5 = .l (.r .o) from rfl, show pth 2 = .r .o from rfl, show pth 3 = .l (.l .o) from rfl]
  · have e1 : 1 ≤ f := by omega
    have e2 : f ≤ 7 := by omega
    simp [ew_s, ew_n, ew_e, ew_c', ew_b, sw_q, sw_m, sw_z, sw_x, sw_call, k6i, k6n, rw_mk, sl_put, sw_g', gw_b, gw_u, x_pick, pick_b, x_un, un_not, thenE, blkE, rw_put, rw_other, rw_c, x_bin, b_lss, b_gtr, b_eql, b_neq, xw_some, cw_b, h, h2, iv, typD, h1, h3, h4, h5, e1, e2, show pth 4 = .r (.l .o) from rfl, show pth 5 = .l (.r .o) from rfl, show pth 2 = .r .o from rfl, show pth 3 = .l (.l .o) from rfl]
  · have := kn_rtypeI f t h1 h3 es he
    unfold r6 at this
    exact this

/-- What AggTypes calls. -/
def rel3 (f : Nat) (ds : List DV) : Option DV := match ds with
  | [.v (.int .i64 a), .v (.int .i64 b)] => if f = 5 ∨ f = 6 then some (.tup [iv (typD a b).1, iv (typD a b).2]) else none
  | [] => if f = 7 then some (.v (.bool true)) else none
  | _ => none
theorem g3_ok : CallOK Tryz.prog (callG rel3) := callG_ok fun f ds d h => by
  unfold rel3 at h
  split at h
  · rename_i a b
    split at h
    · rename_i hf; cases h
      rcases hf with rfl | rfl
      · exact kn_type a b
      · exact kn_rtype a b
    · cases h
  · split at h
    · rename_i hf; cases h; rw [hf]; exact works
    · cases h
  · cases h
theorem k3a (a b : Int) (hp : Tr DObj) (nx : Nat) (K : DV → Tr DObj → Nat → Prop) : KW (callG rel3) (.fn 5) [.v (.int .i64 a), .v (.int .i64 b)] hp nx K ↔ K (.tup [iv (typD a b).1, iv (typD a b).2]) hp nx := kw_g (by simp [rel3])
theorem k3b (a b : Int) (hp : Tr DObj) (nx : Nat) (K : DV → Tr DObj → Nat → Prop) : KW (callG rel3) (.fn 6) [.v (.int .i64 a), .v (.int .i64 b)] hp nx K ↔ K (.tup [iv (typD a b).1, iv (typD a b).2]) hp nx := kw_g (by simp [rel3])
theorem k3w (hp : Tr DObj) (nx : Nat) (K : DV → Tr DObj → Nat → Prop) : KW (callG rel3) (.fn 7) [] hp nx K ↔ K (.v (.bool true)) hp nx := kw_g (by simp [rel3])
theorem tup_refs (a b : Int) : DV.refsL [iv a, iv b] = [] := rfl
theorem xe0 {es : ES} {p : Pa} {a b : Int} (h : rawE es (.t p) = .tup [.v (.int .i64 a), .v (.int .i64 b)]) {Q : DV → Prop} : XW (xExt (.t p) 0 es) Q ↔ Q (.v (.int .i64 a)) := by
  rw [x_ext h rfl]; exact xw_some
theorem xe1 {es : ES} {p : Pa} {a b : Int} (h : rawE es (.t p) = .tup [.v (.int .i64 a), .v (.int .i64 b)]) {Q : DV → Prop} : XW (xExt (.t p) 1 es) Q ↔ Q (.v (.int .i64 b)) := by
  rw [x_ext h rfl]; exact xw_some
theorem kn_law (f t : Int) : Known Tryz.prog 3 [iv f, iv t] (.v (.bool true)) := by
  refine Known.run1 mixed te_ok g3_ok t3 (Nat.le_of_ble_eq_true rfl) (iv2 f t) rfl (fun _ => rz_flat rfl) fun es he => ?_
  have h : rawE es (.t .o) = .v (.int .i64 f) := he 0 _ rfl
  have h2 : rawE es (.t (.l .o)) = .v (.int .i64 t) := he 1 _ rfl
  unfold r3
  have E0 : ∀ (es : ES) (p : Pa) (Q : DV → Prop), rawE es (.t p) = .tup [.v (.int .i64 (typD f t).1), .v (.int .i64 (typD f t).2)] → (XW (xExt (.t p) 0 es) Q ↔ Q (.v (.int .i64 (typD f t).1))) := fun es p Q h => xe0 h
  have E1 : ∀ (es : ES) (p : Pa) (Q : DV → Prop), rawE es (.t p) = .tup [.v (.int .i64 (typD f t).1), .v (.int .i64 (typD f t).2)] → (XW (xExt (.t p) 1 es) Q ↔ Q (.v (.int .i64 (typD f t).2))) := fun es p Q h => xe1 h
  simp only [E0, E1, ew_s, ew_n, ew_e, sw_q, sw_m, sw_z, sw_call, List.map, k3a, k3b, k3w, rw_mk, sl_put, hp_put, nx_put, thenE, rw_put, rw_other, rw_c, h, h2, ne_eq, reduceCtorEq, not_false_eq_true, Pa.l.injEq, Pa.r.injEq, sw_x, iv, xw_some, sw_g', gw_b, gw_u, x_pick, pick_b, x_bin, b_eql, beq_self_eq_true, true_imp_iff, not_true_eq_false, false_imp_iff, and_true, if_true, or_true, show pth 4 = .r (.l .o) from rfl]
end Go.DD
