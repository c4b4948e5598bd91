/- VersionDeltas, the statement: for every input the call returns true and each argument reads afterwards as before. Conditions: none. -/
import Derived.Test.YtnphfnhhpcelbaaGreatVn
import Derived.Test.YtnphfnhhpcelbaaGreatRows
import Derived.WalkKit
import Derived.ProofKit
import Derived.OpenShut
import Derived.ChangeSlices
import Derived.Carry
namespace Go.Proofs.YtnphfnhhpcelbaaGreat.versionDeltas
open Go.ChangeShapes Go.WideShapes Go.ChangeAt Go.RowKit Go.DD
set_option linter.unusedVariables false

theorem own : ownKnob Tryz.prog.godebug = none := by kernel_rfl
theorem u2 : Tryz.prog.underlying 2 = some (.int .i64) := by kernel_rfl
theorem u3 : Tryz.prog.underlying 3 = some (.int .i64) := by kernel_rfl
theorem u4 : Tryz.prog.underlying 4 = some .bool := by kernel_rfl
theorem u9 : Tryz.prog.underlying 9 = some .string := by kernel_rfl
theorem u22 : Tryz.prog.underlying 22 = some (.slice 129) := by kernel_rfl
theorem u23 : Tryz.prog.underlying 23 = some (.slice 131) := by kernel_rfl
theorem u24 : Tryz.prog.underlying 24 = some (.slice 39) := by kernel_rfl
theorem u36 : Tryz.prog.underlying 36 = some (.slice 3) := by kernel_rfl
theorem u37 : Tryz.prog.underlying 37 = some (.slice 41) := by kernel_rfl
noncomputable def fsOf (t : Nat) : Array Field := match Tryz.prog.underlying t with
  | some (.struct fs) => fs
  | _ => #[]
theorem uArr : Tryz.prog.underlying 26 = some (.struct (fsOf 26)) := by kernel_rfl
theorem uCell : Tryz.prog.underlying 39 = some (.struct (fsOf 39)) := by kernel_rfl
theorem uVal : Tryz.prog.underlying 41 = some (.struct (fsOf 41)) := by kernel_rfl
theorem uDim : Tryz.prog.underlying 129 = some (.struct (fsOf 129)) := by kernel_rfl
theorem uAttr : Tryz.prog.underlying 131 = some (.struct (fsOf 131)) := by kernel_rfl

section
variable {H : Type} {enc : TypeId × Value → H} {W : World}
set_option maxRecDepth 100000 in
theorem rdVal : Rd enc Tryz.prog W 41 (fun v : PVal => rVal.cells v) :=
  A63 (Bi7 (t0 := 3) (t1 := 2) (t2 := 2) (t3 := 9) (k0 := 1) (k1 := 1) (k2 := 1) (k3 := 1) uVal (by kernel_rfl) (by kernel_rfl) (by kernel_rfl) (by kernel_rfl) (by kernel_rfl) (by kernel_rfl) (Aw1 u3) (Aw1 u2) (Aw1 u2) (Bt5 u9)) (fun p => ⟨p.1, p.2.1, p.2.2.1, p.2.2.2⟩) fun _ => rfl
set_option maxRecDepth 100000 in
theorem rdDim : Rd enc Tryz.prog W 129 (fun v : PDim => rDim.cells v) :=
  A63 (Ay1 (t0 := 9) (t1 := 3) (t2 := 3) (k0 := 1) (k1 := 1) (k2 := 1) uDim (by kernel_rfl) (by kernel_rfl) (by kernel_rfl) (by kernel_rfl) (by kernel_rfl) (Bt5 u9) (Aw1 u3) (Aw1 u3)) (fun p => ⟨p.1, p.2.1, p.2.2⟩) fun _ => rfl
set_option maxRecDepth 100000 in
theorem Cn2 : Rd enc Tryz.prog W 131 (fun v : PAttr => rAttr.cells v) :=
  A63 (Ay0 (t0 := 9) (t1 := 3) (k0 := 1) (k1 := 1) uAttr (by kernel_rfl) (by kernel_rfl) (by kernel_rfl) (by kernel_rfl) (Bt5 u9) (Aw1 u3)) (fun p => ⟨p.1, p.2⟩) fun _ => rfl
set_option maxRecDepth 100000 in
theorem Cn3 : Rd enc Tryz.prog W 39 (fun v : PCell => rCell.cells v) :=
  A63 (Ay0 (t0 := 36) (t1 := 37) (k0 := 1) (k1 := 1) uCell (by kernel_rfl) (by kernel_rfl) (by kernel_rfl) (by kernel_rfl) (Ap6 (ce := 1) u36 (by kernel_rfl) (by decide) (Aw1 u3)) (Ap6 (ce := 4) u37 (by kernel_rfl) (by decide) rdVal)) (fun p => ⟨p.1, p.2⟩) fun _ => rfl
def arrC (x : PArr) : List DV := [.sl (x.dims.flatMap rDim.cells) x.dims.length, .sl (x.attrs.flatMap rAttr.cells) x.attrs.length, .sl (x.cells.flatMap rCell.cells) x.cells.length]
set_option maxRecDepth 100000 in
theorem rdArr : Rd enc Tryz.prog W 26 arrC :=
  A63 (Ay1 (t0 := 22) (t1 := 23) (t2 := 24) (k0 := 1) (k1 := 1) (k2 := 1) uArr (by kernel_rfl) (by kernel_rfl) (by kernel_rfl) (by kernel_rfl) (by kernel_rfl) (Ap6 (ce := 3) u22 (by kernel_rfl) (by decide) rdDim) (Ap6 (ce := 2) u23 (by kernel_rfl) (by decide) Cn2) (Ap6 (ce := 2) u24 (by kernel_rfl) (by decide) Cn3)) (fun p => ⟨p.1, p.2.1, p.2.2⟩) fun _ => rfl
set_option maxRecDepth 100000 in
/-- An argument that is an array. -/
theorem Bt6 {base : Nat} {v : Value} {d : DataW H} {p : List MemPlace} (hval : Value.okWide Tryz.prog W .any base 26 v) (h : DataW.Trod enc Tryz.prog W 0 (fun _ => true) true 26 v d p) : ∃ x : PArr, RelI W (fun b => b < W.heap.size) v (dArr x) := by
  obtain ⟨cs, e, _⟩ := okWide_struct uArr hval
  subst e
  obtain ⟨fuel, hf⟩ := h
  obtain ⟨x, hx⟩ := rdArr _ _ _ hf
  refine ⟨x, ?_⟩
  have this : RelI W (fun b => b < W.heap.size) (.agg cs.toList.toArray) (dArr x) := RelI.agg (w := W) (al := fun b => b < W.heap.size) cs.toList (arrC x) hx.len hx.one hx.rel
  rw [Array.toArray_toList] at this
  exact this
end
theorem walk (x y : PArr) {W : World} {v u : Value} (hv : RelI W (fun b => b < W.heap.size) v (dArr x)) (hu : RelI W (fun b => b < W.heap.size) u (dArr y)) :
    Calls Tryz.prog 7 #[v, u] W fun e w' => e = .returned (.bool true) ∧ Below W.heap.size W w' := by
  refine DCall.law (vs := [v, u]) (Bi6 x y).2.2 W rfl (fun j w d hw hd => ?_) (fun x d h => ?_)
  · match j with
    | 0 => cases hw; cases hd; exact hv
    | 1 => cases hw; cases hd; exact hu
    | j + 2 => cases hw
  · obtain ⟨g, cs, h, _⟩ := h
    cases h

set_option maxRecDepth 100000 in
theorem lifted (os : Os) (started : os.Started) (H : Type) (enc : TypeId × Value → H) :
    ReturnsInHanded {} Tryz.checked os 7 .any (Rows.versionDeltasSpec.pre6 enc Tryz.prog Tryz.f7 Rows.versionDeltasRow.domain false) (Rows.versionDeltasSpec.post enc Tryz.prog Tryz.f7 false true false false) := by
  refine returnsInHanded_of_change (C := Tryz.checked) own started (by kernel_rfl) Tryz.func7
    (ChangeSpec.witness6 (enc := enc) (C := Tryz.checked) false ⟨#[], #[.agg #[.slice none 0 0, .slice none 0 0, .slice none 0 0], .agg #[.slice none 0 0, .slice none 0 0, .slice none 0 0]], []⟩ 8 (by kernel_rfl) (by kernel_rfl) (by kernel_rfl) (by kernel_rfl)) ?_
  intro W base args ds gs before hval0 hW hcnd _
  have hval : ∀ (j : Nat) t v, Tryz.f7.params[j]? = some t → args[j]? = some v → Value.okWide Tryz.prog W .any base t v := hval0
  have hW' := hW
  have hlt := hW.lt
  obtain ⟨p, q, hA0, hV, rfl, hfz, hnd⟩ := hW
  have hA : DataW.TrodAll enc Tryz.prog W 0 (fun _ => true) true Tryz.f7.params.toList args.toList ds p := hA0
  rw [Tryz.params7] at hA hval
  obtain ⟨v0, v1, d0, d1, p0, p1, rfl, rfl, rfl, h0, h1⟩ := trodAll_two hA
  obtain ⟨rfl, rfl⟩ := trodVars_none hV
  obtain ⟨x, hx⟩ := Bt6 (hval 0 _ v0 rfl rfl) h0
  obtain ⟨y, hy⟩ := Bt6 (hval 1 _ v1 rfl rfl) h1
  clear hA0 hval0
  simp only [List.append_nil] at hW' hlt
  refine (walk x y hx hy).mono fun e W' ⟨he, hg⟩ => ?_
  subst he
  exact ⟨_, rfl, A24 (pa := p0 ++ p1) (pv := []) hW' (fun _ _ _ => trodAll_mk1 (shut_bool u4 _))
    (fun sp hsp => trodAll_mk2 (WideElems.Trod_stays (by kernel_rfl) (by kernel_rfl) (by decide +kernel) h0 (fun x hx => hg.same (hlt x (List.mem_append_left _ hx))) (fun x hx => hsp x (List.mem_append_left _ hx))) (WideElems.Trod_stays (by kernel_rfl) (by kernel_rfl) (by decide +kernel) h1 (fun x hx => hg.same (hlt x (List.mem_append_right _ hx))) (fun x hx => hsp x (List.mem_append_right _ hx))))
    (fun _ _ => rfl) (by simp) hg (ok_one (by kernel_rfl) rfl (okWide_bool_mk u4 _))⟩

theorem o1 : (Rows.versionDeltasRow.inPlace == Tryz.pinned.checked.prog.inPlace 7) = true := by kernel_rfl
theorem o2 : (Rows.versionDeltasRow.unfollowed == Tryz.pinned.checked.prog.unfollowed 7) = true := by kernel_rfl
theorem o3 : (Rows.versionDeltasRow.recurses == Tryz.pinned.checked.prog.recurses 7) = true := by kernel_rfl
theorem o4 : (Rows.versionDeltasRow.named == Tryz.pinned.checked.prog.varsNamed 7) = true := by kernel_rfl
theorem o5 : joinedFacts Tryz.pinned.checked.prog 7 Tryz.f7 Rows.versionDeltasSpec Rows.versionDeltasRow = true := by
  unfold joinedFacts
  rw [o1, o2, o3, o4]
  kernel_rfl
theorem over : Rows.versionDeltasRow.holds Tryz.pinned (OpenSpec.ofChange Rows.versionDeltasSpec) :=
  OpenClaim.holds_of_wide 7 Tryz.f7 rfl rfl rfl rfl rfl rfl rfl ⟨rfl, rfl, rfl, rfl, rfl⟩ rfl rfl rfl rfl rfl (by kernel_rfl) Tryz.func7 o5
    (of_decide_eq_true (by kernel_rfl)) (by unfold Func.isWrapper; first | (rw [if_pos (by decide +kernel)]; kernel_rfl) | (rw [if_neg (by decide +kernel)]; exact ⟨rfl, rfl⟩))
    (fun os started H enc _ => lifted os started H enc)

/-- The statement. -/
theorem proved : Rows.VersionDeltasSaid :=
  over
#print axioms proved
end Go.Proofs.YtnphfnhhpcelbaaGreat.versionDeltas
