/- The contract of a function, out of its body. -/
import Derived.Test.YtpaggdhijeabnaaGreatDoorHj
namespace Go.DD
open Go.RowKit (Below)

/-- What a body hands back. -/
def finD (s : DS) (rs : List (Nat × Option (Option Nat))) : Option DV :=
  match resV s rs with
  | some d => rz s.ho 6 d
  | none => none

/-- The contract of a function, out of its body. -/
theorem DCall.intro {P : Program} {f : FuncId} {fn : Func} {df : DF} {args : List DV} {R : DV → Prop} (hf : P.funcs[f]? = some fn) (hc : compFn P fn = some df) (hn : args.length ≤ df.nt)
    (h : ∀ (S : Nat → Prop) (w0 : World), DW ⟨P, S, fun _ => False, w0, df.nt, fun _ _ => False, fun _ => False, none, fun _ => none, fun _ => False⟩ df.code (fun e s => (e = .normal ∨ e = .ret) ∧ ∃ r, finD s df.res = some r ∧ R r) ⟨argF args, fun _ => none, 0⟩) : DCall P f args R := by
  intro w S vs hS hl hrel hglv
  unfold compFn at hc
  split at hc
  rotate_left
  · cases hc
  rename_i body hb
  split at hc
  rotate_left
  · cases hc
  rename_i c r hcc hcr
  cases hc
  refine callsIn_wide.1 (callsIn_of_wp_marks (n := 0) hf hb trivial ?_)
  have hhh : HH ⟨P, S, fun _ => False, w, fn.ntmps, fun _ _ => False, fun _ => False, none, fun _ => none, fun _ => False⟩ (Us ⟨P, S, fun _ => False, w, fn.ntmps, fun _ _ => False, fun _ => False, none, fun _ => none, fun _ => False⟩ 0) (vwF (fun _ => none) (fun _ => none)) (fun _ => none) w :=
    ⟨hS, ⟨rfl, rfl, rfl, Nat.le_refl _, fun _ _ _ => rfl⟩, fun _ _ h => (by cases h), fun _ _ _ h => (by cases h), fun _ _ => rfl, fun _ _ h => (by cases h)⟩
  have hentry := enters_ok (C := ⟨P, S, fun _ => False, w, fn.ntmps, fun _ _ => False, fun _ => False, none, fun _ => none, fun _ => False⟩) (ho := fun _ => none) (nx := 0) (args := args) (vs := vs) hhh
    (fun x d h => h.elim False.elim fun h => WV.flat (.imm _ _ ((hglv x d h).mono fun b hb => ⟨⟨.inl hb, hS b hb, fun _ h => (by cases h)⟩, rfl⟩)) (relI_refs (hglv x d h))) (fun _ _ h => (by cases h)) (fun _ h => h.elim) hn hl
    (fun j v d hv hd => WV.flat (.imm _ _ ((hrel j v d hv hd).mono fun b hb => ⟨⟨.inl hb, hS b hb, fun _ h => (by cases h)⟩, rfl⟩)) (relI_refs (hrel j v d hv hd)))
  refine wpIn_mono (h S w body hcc _ w ⟨fun _ h => h.elim, _, hentry⟩) ?_
  have hfin : ∀ (s : DS) (a : Act) (w' : World), Holds ⟨P, S, fun _ => False, w, fn.ntmps, fun _ _ => False, fun _ => False, none, fun _ => none, fun _ => False⟩ s a w' → (∃ d, finD s r = some d ∧ R d) → LeavesInM Fence.wide 0 P fn a.tmps (fun e w' => ∃ v' d, e = .returned v' ∧ R d ∧ Below w.heap.size w w' ∧ RelI w' (fun b => (S b ∨ w.heap.size ≤ b) ∧ b < w'.heap.size) v' d) a.defers .returning w' := by
    rintro s ⟨tmps, l⟩ w' ⟨_, β, hs⟩ ⟨d, hd, hR⟩
    unfold finD at hd
    split at hd
    · rename_i d0 hd0
      refine ends_ok hcr hd0 tmps (fun v w'' hs hr => ?_) l w' hs
      have hbl := hs.hh.bel
      exact ⟨v, d, rfl, hR, ⟨hbl.os, hbl.tape, hbl.output, hbl.size, fun k hk => hbl.block k hk (fun h => h)⟩, (rz_ok hs.hh (fun id o ho => vw_some ho) 6 v d0 d hr hd).mono fun b hb => ⟨⟨hb.1.imp id (fun h => h.resolve_right (fun h => h)), hb.2⟩, rfl⟩⟩
    · cases hd
  rintro e a w' ⟨s, ⟨h1, h2⟩, hs⟩
  rcases h1 with rfl | rfl
  · exact hfin s a w' hs h2
  · exact hfin s a w' hs h2

/-- .. out of a walk on an empty heap. -/
theorem DCall.of_callI {P : Program} {f : FuncId} {args : List DV} {R : DV → Prop} {sv : Nat → DV} (h : callI P f args ⟨sv, fun _ => none, 0⟩ fun s d => ∃ r, rz s.ho 6 d = some r ∧ R r) : DCall P f args R := by
  obtain ⟨fn, df, hf, hc, hn, hw⟩ := h
  refine DCall.intro hf hc hn fun S w0 => (hw S (fun _ => False) w0 (fun _ _ => False) (fun _ => False) (fun _ => none) (fun _ => False)).mono ?_
  rintro e s ⟨h1, d, h2, r, h3, h4⟩
  refine ⟨h1, r, ?_, h4⟩
  unfold finD
  rw [h2]
  exact h3
end Go.DD
