/- ChunkUnpacks, the statement, tied to the program's text: for every input the call returns true and the arguments read afterwards as before. Conditions: the card's own. -/
import Derived.Test.YtpaggdhijeabnaaGreatDoorUo
import Derived.Test.YtpaggdhijeabnaaGreatDoorUp
namespace Go.Proofs.YtpaggdhijeabnaaGreatDoor.chunkUnpacks
open Go.ChangeShapes Go.WideShapes Go.ChangeAt Go.RowKit Go.DD Go.Proofs.YtpaggdhijeabnaaGreatDoor.chunkArgs
set_option linter.unusedVariables false

theorem u3 : Tryz.prog.underlying 3 = some (.int .i64) := by kernel_rfl
theorem walk {W : World} {c : Int} {v : Value} {l : List Nat} (hb : ∀ x ∈ l, x < 256) (hv : RelI W (fun b => b < W.heap.size) v (.sl (l.map ub) l.length)) (h : laidMetH Tryz.prog Rows.chunkUnpacksRow.laid W) :
    Calls Tryz.prog 5 #[.int .i64 c, v] W fun e w' => e = .returned (.bool true) ∧ Below W.heap.size W w' := by
  refine DCall.law (vs := [.int .i64 c, v]) (law_unpacks c l hb).2.2 W rfl (fun j u d hu hd => ?_) (glv_rel h)
  match j with
  | 0 => cases hu; cases hd; exact .v _
  | 1 => cases hu; cases hd; exact hv
  | j + 2 => cases hu

set_option maxRecDepth 100000 in
theorem lifted (os : Os) (started : os.Started) (H : Type) (enc : TypeId × Value → H) :
    ReturnsInHanded {} Tryz.checked os 5 .any (fun w args => (Rows.chunkUnpacksSpec.pre enc Tryz.prog Tryz.f5 Rows.chunkUnpacksRow.domain false w args ∧ laidMetH Tryz.prog Rows.chunkUnpacksRow.laid w) ∧ sizedMet enc Tryz.prog Tryz.f5 (OpenSpec.ofChange Rows.chunkUnpacksSpec) false w args)
      (Rows.chunkUnpacksSpec.post enc Tryz.prog Tryz.f5 false true false false) := by
  refine returnsInHanded_of_change_and (C := Tryz.checked) (X := fun w _ => laidMetH Tryz.prog Rows.chunkUnpacksRow.laid w) (fun _ _ _ hh h => h.of_heap hh) own started (by kernel_rfl) Tryz.func5
    (ChangeSpec.witness_shaped (enc := enc) (C := Tryz.checked) (os := os) (X := fun w _ => laidMetH Tryz.prog Rows.chunkUnpacksRow.laid w) false (World.laidAll Tryz.prog os Rows.chunkUnpacksRow.laid) #[.int .i64 0, .slice none 0 0] 8 (World.laidAll_os _ _ _)
      (World.shaped_of_ZipB (by kernel_rfl) (by kernel_rfl)) (by kernel_rfl) (by kernel_rfl) (by kernel_rfl)
      (by rw [MakeChecks.laidMetH_plain _ _ _ (by kernel_rfl)]; exact laidMet_laidAll _ (by kernel_rfl) (by kernel_rfl))) ?_
  intro W base args ds gs before hval0 hW hc _ hL _
  have hval : ∀ (j : Nat) t v, Tryz.f5.params[j]? = some t → args[j]? = some v → Value.okWide Tryz.prog W .any base t v := hval0
  have hW' := hW
  have hlt := hW.lt
  obtain ⟨p, q, hA0, hV, rfl, _, _⟩ := hW
  have hA : DataW.TrodAll enc Tryz.prog W 0 (fun _ => true) true Tryz.f5.params.toList args.toList ds p := hA0
  rw [Tryz.params5] at hA hval
  obtain ⟨v0, v1, d0, d1, p0, p1, rfl, rfl, rfl, h0, h1⟩ := trodAll_two hA
  obtain ⟨rfl, rfl⟩ := trodVars_none hV
  obtain ⟨c, rfl, rfl, rfl, w0⟩ := open_int u3 (hval 0 3 v0 rfl rfl) h0
  obtain ⟨l, hlb, hbs⟩ := bytes_rel (hval 1 22 v1 rfl rfl) h1
  simp only [List.append_nil, List.nil_append] at hW' hlt
  refine (walk hlb hbs hL).mono fun e W' ⟨he, hg⟩ => ?_
  subst he
  exact ⟨_, rfl, post_of_below (pa := p1) (pv := []) hW' (fun _ _ _ => trodAll_mk1 (shut_bool u4 _))
    (fun sp hsp => trodAll_mk2 (p := []) (shut_int u3 w0) (WideElems.Trod_stays (by kernel_rfl) (by kernel_rfl) (by decide +kernel) h1 (fun x hx => hg.same (hlt x hx)) (fun x hx => hsp x hx)))
    (fun _ _ => rfl) (by simp) hg (ok_one (by kernel_rfl) rfl (okWide_bool_mk u4 _))⟩

theorem over : Rows.ChunkUnpacksSaid :=
  OpenClaim.holds_of_wide 5 Tryz.f5 rfl rfl rfl rfl rfl rfl rfl ⟨rfl, rfl, rfl, rfl, rfl⟩ rfl rfl rfl rfl rfl (by kernel_rfl) Tryz.func5 (by kernel_rfl)
    (of_decide_eq_true (by kernel_rfl)) (by unfold Func.isWrapper; first | (rw [if_pos (by decide +kernel)]; kernel_rfl) | (rw [if_neg (by decide +kernel)]; exact ⟨rfl, rfl⟩))
    (fun os started H enc _ => lifted os started H enc)

/-- The tied card. -/
theorem proved : Rows.ChunkUnpacksCardSaid :=
  Claim7.holds_tied_plain_at .later [] [.data] true (true, "ebde7f26e88e278235f96648401d277cc21ce617ce258b0efe275e928707af34") true
    over (fun _ h => by cases h) (by kernel_rfl) (fun _ h => by cases h) chunkUnpacks_row_tie rfl ⟨rfl, rfl⟩ (by kernel_rfl) rfl
    (fun f fn hf hfn => by
      obtain rfl : f = 5 := Option.some.inj ((show Tryz.prog.funcNamed "tesseract/tesseractlaw03.ChunkUnpacks" = some 5 by kernel_rfl).symm.trans hf) |>.symm
      obtain rfl : fn = Tryz.f5 := (Option.some.inj (Tryz.func5.symm.trans hfn)).symm
      exact ⟨by kernel_rfl, fun j t ht => by
        rw [Tryz.params5] at ht
        have hm : t ∈ [3, 22] := by simpa using Array.mem_of_getElem? ht
        have hall : ([3, 22].all fun u => !Tryz.prog.wantsStandIn u) = true := by kernel_rfl
        exact (show Tryz.prog.wantsStandIn t = false by simpa using List.all_eq_true.1 hall t hm)⟩)
    (by kernel_rfl)
#print axioms proved
end Go.Proofs.YtpaggdhijeabnaaGreatDoor.chunkUnpacks
