/-
  No cell of these rows narrows 'for every input' (looked for: loops, veiled, ifaces, maps, wideKeys, modest, calm, conditions, laid).
  DERIVED. THE GIVEN ROWS OF THIS SEAT. 10 by the template 'for every input the law returns true; each argument reads behind the call as it read before'; 0 by the template 'total and deterministic' (their statements: YtnphfnhhpcelbaaGreatTotals.lean).
  GIVEN WITH THE SEED: the statements are not yours to turn. If you find one false, say at which input.
  Laid BY PROGRAM, IN A SANDBOX (cutbox-rows.mjs): the forced cells as the released guide's own fill.sh prints them over the translation dd207dfb49b224f5… (all of the seat's roots in one cut). By AI agents, Wed Nov 11 2026. No macro, syntax, notation, axiom, sorry.
-/
import Derived.Test.YtnphfnhhpcelbaaGreatChecked
import GoSem.Claim
import GoSem.ClaimJoined
import GoSem.ClaimMapViews
import Derived.JoinedTies
import Derived.KernelRfl
namespace Go.Proofs.YtnphfnhhpcelbaaGreat
/- THE CELL 'sum', in the pinned program and in every row, IS THE sha256 OF THE DUMP (.gsa) THAT YtnphfnhhpcelbaaGreatProg.lean LOADS. Nothing in Lean hashes anything: it is a label: what it is worth is what the hold of that sum in a sandbox is worth. -/
noncomputable def Tryz.pinned : Pinned := { name := "ytnphfnhhpcelbaagreat", sum := "dd207dfb49b224f58f9ef007cafd508d5dc9f84d0beddd276de4182a89929663", checked := Tryz.checked }
namespace Rows
def none {H : Type} : Left H := { results := [], args := [] }

/-- 'tesseractlaw08.VersionApplies': WHATEVER THE INPUT: true; the input reads as it did. -/
def versionAppliesSpec : ChangeSpec := { name := "versionApplies", fn := fun _ => fun
  | [d1, d2] => { results := [.lit (.bool true)], args := [d1, d2] }
  | _ => none }
def versionAppliesRow : OpenClaim := { program := "ytnphfnhhpcelbaagreat", sum := "dd207dfb49b224f58f9ef007cafd508d5dc9f84d0beddd276de4182a89929663", func := "tesseract/tesseractlaw08.VersionApplies", spec := "versionApplies", unfollowed := true, recurses := true, apart := false }
def VersionAppliesSaid : Prop := versionAppliesRow.holds Tryz.pinned (OpenSpec.ofChange versionAppliesSpec)

/-- ITS FALSE NEIGHBOUR: 'it returns false'. Refute it at one input. -/
def versionAppliesWrong : ChangeSpec := { name := "versionApplies", fn := fun _ => fun
  | [d1, d2] => { results := [.lit (.bool false)], args := [d1, d2] }
  | _ => none }
def VersionAppliesWrongFalsely : Prop := versionAppliesRow.holds Tryz.pinned (OpenSpec.ofChange versionAppliesWrong)

/-- 'tesseractlaw08.VersionMerges': WHATEVER THE INPUT: true; the input reads as it did. -/
def versionMergesSpec : ChangeSpec := { name := "versionMerges", fn := fun _ => fun
  | [d1, d2, d3] => { results := [.lit (.bool true)], args := [d1, d2, d3] }
  | _ => none }
def versionMergesRow : OpenClaim := { program := "ytnphfnhhpcelbaagreat", sum := "dd207dfb49b224f58f9ef007cafd508d5dc9f84d0beddd276de4182a89929663", func := "tesseract/tesseractlaw08.VersionMerges", spec := "versionMerges", unfollowed := true, recurses := true, apart := false }
def VersionMergesSaid : Prop := versionMergesRow.holds Tryz.pinned (OpenSpec.ofChange versionMergesSpec)

/-- ITS FALSE NEIGHBOUR: 'it returns false'. Refute it at one input. -/
def versionMergesWrong : ChangeSpec := { name := "versionMerges", fn := fun _ => fun
  | [d1, d2, d3] => { results := [.lit (.bool false)], args := [d1, d2, d3] }
  | _ => none }
def VersionMergesWrongFalsely : Prop := versionMergesRow.holds Tryz.pinned (OpenSpec.ofChange versionMergesWrong)

/-- 'tesseractlaw08.VersionSides': WHATEVER THE INPUT: true; the input reads as it did. -/
def versionSidesSpec : ChangeSpec := { name := "versionSides", fn := fun _ => fun
  | [d1, d2, d3] => { results := [.lit (.bool true)], args := [d1, d2, d3] }
  | _ => none }
def versionSidesRow : OpenClaim := { program := "ytnphfnhhpcelbaagreat", sum := "dd207dfb49b224f58f9ef007cafd508d5dc9f84d0beddd276de4182a89929663", func := "tesseract/tesseractlaw08.VersionSides", spec := "versionSides", unfollowed := true, recurses := true, apart := false }
def VersionSidesSaid : Prop := versionSidesRow.holds Tryz.pinned (OpenSpec.ofChange versionSidesSpec)

/-- ITS FALSE NEIGHBOUR: 'it returns false'. Refute it at one input. -/
def versionSidesWrong : ChangeSpec := { name := "versionSides", fn := fun _ => fun
  | [d1, d2, d3] => { results := [.lit (.bool false)], args := [d1, d2, d3] }
  | _ => none }
def VersionSidesWrongFalsely : Prop := versionSidesRow.holds Tryz.pinned (OpenSpec.ofChange versionSidesWrong)

/-- 'tesseractlaw08.VersionApart': WHATEVER THE INPUT: true; the input reads as it did. -/
def versionApartSpec : ChangeSpec := { name := "versionApart", fn := fun _ => fun
  | [d1, d2, d3] => { results := [.lit (.bool true)], args := [d1, d2, d3] }
  | _ => none }
def versionApartRow : OpenClaim := { program := "ytnphfnhhpcelbaagreat", sum := "dd207dfb49b224f58f9ef007cafd508d5dc9f84d0beddd276de4182a89929663", func := "tesseract/tesseractlaw08.VersionApart", spec := "versionApart", unfollowed := true, recurses := true, apart := false }
def VersionApartSaid : Prop := versionApartRow.holds Tryz.pinned (OpenSpec.ofChange versionApartSpec)

/-- ITS FALSE NEIGHBOUR: 'it returns false'. Refute it at one input. -/
def versionApartWrong : ChangeSpec := { name := "versionApart", fn := fun _ => fun
  | [d1, d2, d3] => { results := [.lit (.bool false)], args := [d1, d2, d3] }
  | _ => none }
def VersionApartWrongFalsely : Prop := versionApartRow.holds Tryz.pinned (OpenSpec.ofChange versionApartWrong)

/-- 'tesseractlaw08.VersionDeltas': WHATEVER THE INPUT: true; the input reads as it did. -/
def versionDeltasSpec : ChangeSpec := { name := "versionDeltas", fn := fun _ => fun
  | [d1, d2] => { results := [.lit (.bool true)], args := [d1, d2] }
  | _ => none }
def versionDeltasRow : OpenClaim := { program := "ytnphfnhhpcelbaagreat", sum := "dd207dfb49b224f58f9ef007cafd508d5dc9f84d0beddd276de4182a89929663", func := "tesseract/tesseractlaw08.VersionDeltas", spec := "versionDeltas", unfollowed := true, recurses := true, apart := false }
def VersionDeltasSaid : Prop := versionDeltasRow.holds Tryz.pinned (OpenSpec.ofChange versionDeltasSpec)

/-- ITS FALSE NEIGHBOUR: 'it returns false'. Refute it at one input. -/
def versionDeltasWrong : ChangeSpec := { name := "versionDeltas", fn := fun _ => fun
  | [d1, d2] => { results := [.lit (.bool false)], args := [d1, d2] }
  | _ => none }
def VersionDeltasWrongFalsely : Prop := versionDeltasRow.holds Tryz.pinned (OpenSpec.ofChange versionDeltasWrong)

/-- 'tesseractlaw08.VersionBack': WHATEVER THE INPUT: true; the input reads as it did. -/
def versionBackSpec : ChangeSpec := { name := "versionBack", fn := fun _ => fun
  | [d1, d2] => { results := [.lit (.bool true)], args := [d1, d2] }
  | _ => none }
def versionBackRow : OpenClaim := { program := "ytnphfnhhpcelbaagreat", sum := "dd207dfb49b224f58f9ef007cafd508d5dc9f84d0beddd276de4182a89929663", func := "tesseract/tesseractlaw08.VersionBack", spec := "versionBack", unfollowed := true, recurses := true, apart := false }
def VersionBackSaid : Prop := versionBackRow.holds Tryz.pinned (OpenSpec.ofChange versionBackSpec)

/-- ITS FALSE NEIGHBOUR: 'it returns false'. Refute it at one input. -/
def versionBackWrong : ChangeSpec := { name := "versionBack", fn := fun _ => fun
  | [d1, d2] => { results := [.lit (.bool false)], args := [d1, d2] }
  | _ => none }
def VersionBackWrongFalsely : Prop := versionBackRow.holds Tryz.pinned (OpenSpec.ofChange versionBackWrong)

/-- 'tesseractlaw08.VersionFold': WHATEVER THE INPUT: true; the input reads as it did. -/
def versionFoldSpec : ChangeSpec := { name := "versionFold", fn := fun _ => fun
  | [d1, d2, d3] => { results := [.lit (.bool true)], args := [d1, d2, d3] }
  | _ => none }
def versionFoldRow : OpenClaim := { program := "ytnphfnhhpcelbaagreat", sum := "dd207dfb49b224f58f9ef007cafd508d5dc9f84d0beddd276de4182a89929663", func := "tesseract/tesseractlaw08.VersionFold", spec := "versionFold", unfollowed := true, recurses := true, apart := false }
def VersionFoldSaid : Prop := versionFoldRow.holds Tryz.pinned (OpenSpec.ofChange versionFoldSpec)

/-- ITS FALSE NEIGHBOUR: 'it returns false'. Refute it at one input. -/
def versionFoldWrong : ChangeSpec := { name := "versionFold", fn := fun _ => fun
  | [d1, d2, d3] => { results := [.lit (.bool false)], args := [d1, d2, d3] }
  | _ => none }
def VersionFoldWrongFalsely : Prop := versionFoldRow.holds Tryz.pinned (OpenSpec.ofChange versionFoldWrong)

/-- 'tesseractlaw08.VersionFull': WHATEVER THE INPUT: true; the input reads as it did. -/
def versionFullSpec : ChangeSpec := { name := "versionFull", fn := fun _ => fun
  | [d] => { results := [.lit (.bool true)], args := [d] }
  | _ => none }
def versionFullRow : OpenClaim := { program := "ytnphfnhhpcelbaagreat", sum := "dd207dfb49b224f58f9ef007cafd508d5dc9f84d0beddd276de4182a89929663", func := "tesseract/tesseractlaw08.VersionFull", spec := "versionFull", unfollowed := true, recurses := true, apart := false }
def VersionFullSaid : Prop := versionFullRow.holds Tryz.pinned (OpenSpec.ofChange versionFullSpec)

/-- ITS FALSE NEIGHBOUR: 'it returns false'. Refute it at one input. -/
def versionFullWrong : ChangeSpec := { name := "versionFull", fn := fun _ => fun
  | [d] => { results := [.lit (.bool false)], args := [d] }
  | _ => none }
def VersionFullWrongFalsely : Prop := versionFullRow.holds Tryz.pinned (OpenSpec.ofChange versionFullWrong)

/-- 'tesseractlaw08.VersionReclaims': WHATEVER THE INPUT: true; the input reads as it did. -/
def versionReclaimsSpec : ChangeSpec := { name := "versionReclaims", fn := fun _ => fun
  | [d1, d2, d3] => { results := [.lit (.bool true)], args := [d1, d2, d3] }
  | _ => none }
def versionReclaimsRow : OpenClaim := { program := "ytnphfnhhpcelbaagreat", sum := "dd207dfb49b224f58f9ef007cafd508d5dc9f84d0beddd276de4182a89929663", func := "tesseract/tesseractlaw08.VersionReclaims", spec := "versionReclaims", inPlace := ["maps.clone"], unfollowed := true, recurses := true, apart := false }
def VersionReclaimsSaid : Prop := versionReclaimsRow.holds Tryz.pinned (OpenSpec.ofChange versionReclaimsSpec)

/-- ITS FALSE NEIGHBOUR: 'it returns false'. Refute it at one input. -/
def versionReclaimsWrong : ChangeSpec := { name := "versionReclaims", fn := fun _ => fun
  | [d1, d2, d3] => { results := [.lit (.bool false)], args := [d1, d2, d3] }
  | _ => none }
def VersionReclaimsWrongFalsely : Prop := versionReclaimsRow.holds Tryz.pinned (OpenSpec.ofChange versionReclaimsWrong)

/-- 'tesseractlaw08.VersionPlays': WHATEVER THE INPUT: true; the input reads as it did. -/
def versionPlaysSpec : ChangeSpec := { name := "versionPlays", fn := fun _ => fun
  | [d1, d2] => { results := [.lit (.bool true)], args := [d1, d2] }
  | _ => none }
def versionPlaysRow : OpenClaim := { program := "ytnphfnhhpcelbaagreat", sum := "dd207dfb49b224f58f9ef007cafd508d5dc9f84d0beddd276de4182a89929663", func := "tesseract/tesseractlaw08.VersionPlays", spec := "versionPlays", inPlace := ["maps.clone"], unfollowed := true, recurses := true, apart := false }
def VersionPlaysSaid : Prop := versionPlaysRow.holds Tryz.pinned (OpenSpec.ofChange versionPlaysSpec)

/-- ITS FALSE NEIGHBOUR: 'it returns false'. Refute it at one input. -/
def versionPlaysWrong : ChangeSpec := { name := "versionPlays", fn := fun _ => fun
  | [d1, d2] => { results := [.lit (.bool false)], args := [d1, d2] }
  | _ => none }
def VersionPlaysWrongFalsely : Prop := versionPlaysRow.holds Tryz.pinned (OpenSpec.ofChange versionPlaysWrong)

/- THE SECOND FORM. 'bulk': how many values and letters a reading holds, each counted each time it is reached (what is shared counts as often as it is met; a slice's spare places count too). A statement '..UptoSaid' is the law's where the arguments, and the package variables that the reading takes, are together of bulk at most 1048576: NARROWER than '..Said'. Prove '..Said' where nothing that the law and all that it calls make is longer than what came in: it says more and counts as full. Else prove '..UptoSaid'. A law counts once. -/
mutual
def uptoBulk {H : Type} : DataW H → Nat
  | .lit (.string bytes) => bytes.length + 1
  | .lit _ => 1
  | .nil => 1
  | .ptr d => uptoBulk d + 1
  | .slice elems spare => uptoBulkAll elems + uptoBulkAll spare + 1
  | .agg parts => uptoBulkAll parts + 1
  | .iface _ d => uptoBulk d + 1
  | .map entries => uptoBulkEntries entries + 1
  | .held _ => 1
def uptoBulkAll {H : Type} : List (DataW H) → Nat
  | [] => 0
  | d :: r => uptoBulk d + uptoBulkAll r
def uptoBulkEntries {H : Type} : List (Lit × DataW H) → Nat
  | [] => 0
  | x :: r => uptoBulkEntry x + uptoBulkEntries r
def uptoBulkEntry {H : Type} : Lit × DataW H → Nat
  | (.string bytes, d) => bytes.length + uptoBulk d + 1
  | (_, d) => uptoBulk d + 1
 end
def uptoSmall : (H : Type) → List (DataW H) → Bool := fun _ ds => decide (uptoBulkAll ds ≤ 1048576)
def OpenSpec.upto (s : _root_.Go.ChangeSpec) : _root_.Go.OpenSpec := { _root_.Go.OpenSpec.ofChange s with cond := some uptoSmall }

/-- 'tesseractlaw08.VersionApplies', WHERE WHAT IT READS IS OF BULK AT MOST 1048576: true; the input reads as it did. -/
def versionAppliesUptoRow : OpenClaim := { program := "ytnphfnhhpcelbaagreat", sum := "dd207dfb49b224f58f9ef007cafd508d5dc9f84d0beddd276de4182a89929663", func := "tesseract/tesseractlaw08.VersionApplies", spec := "versionApplies", unfollowed := true, recurses := true, apart := false, narrowed := true }
def VersionAppliesUptoSaid : Prop := versionAppliesUptoRow.holds Tryz.pinned (OpenSpec.upto versionAppliesSpec)

/-- 'tesseractlaw08.VersionMerges', WHERE WHAT IT READS IS OF BULK AT MOST 1048576: true; the input reads as it did. -/
def versionMergesUptoRow : OpenClaim := { program := "ytnphfnhhpcelbaagreat", sum := "dd207dfb49b224f58f9ef007cafd508d5dc9f84d0beddd276de4182a89929663", func := "tesseract/tesseractlaw08.VersionMerges", spec := "versionMerges", unfollowed := true, recurses := true, apart := false, narrowed := true }
def VersionMergesUptoSaid : Prop := versionMergesUptoRow.holds Tryz.pinned (OpenSpec.upto versionMergesSpec)

/-- 'tesseractlaw08.VersionSides', WHERE WHAT IT READS IS OF BULK AT MOST 1048576: true; the input reads as it did. -/
def versionSidesUptoRow : OpenClaim := { program := "ytnphfnhhpcelbaagreat", sum := "dd207dfb49b224f58f9ef007cafd508d5dc9f84d0beddd276de4182a89929663", func := "tesseract/tesseractlaw08.VersionSides", spec := "versionSides", unfollowed := true, recurses := true, apart := false, narrowed := true }
def VersionSidesUptoSaid : Prop := versionSidesUptoRow.holds Tryz.pinned (OpenSpec.upto versionSidesSpec)

/-- 'tesseractlaw08.VersionApart', WHERE WHAT IT READS IS OF BULK AT MOST 1048576: true; the input reads as it did. -/
def versionApartUptoRow : OpenClaim := { program := "ytnphfnhhpcelbaagreat", sum := "dd207dfb49b224f58f9ef007cafd508d5dc9f84d0beddd276de4182a89929663", func := "tesseract/tesseractlaw08.VersionApart", spec := "versionApart", unfollowed := true, recurses := true, apart := false, narrowed := true }
def VersionApartUptoSaid : Prop := versionApartUptoRow.holds Tryz.pinned (OpenSpec.upto versionApartSpec)

/-- 'tesseractlaw08.VersionDeltas', WHERE WHAT IT READS IS OF BULK AT MOST 1048576: true; the input reads as it did. -/
def versionDeltasUptoRow : OpenClaim := { program := "ytnphfnhhpcelbaagreat", sum := "dd207dfb49b224f58f9ef007cafd508d5dc9f84d0beddd276de4182a89929663", func := "tesseract/tesseractlaw08.VersionDeltas", spec := "versionDeltas", unfollowed := true, recurses := true, apart := false, narrowed := true }
def VersionDeltasUptoSaid : Prop := versionDeltasUptoRow.holds Tryz.pinned (OpenSpec.upto versionDeltasSpec)

/-- 'tesseractlaw08.VersionBack', WHERE WHAT IT READS IS OF BULK AT MOST 1048576: true; the input reads as it did. -/
def versionBackUptoRow : OpenClaim := { program := "ytnphfnhhpcelbaagreat", sum := "dd207dfb49b224f58f9ef007cafd508d5dc9f84d0beddd276de4182a89929663", func := "tesseract/tesseractlaw08.VersionBack", spec := "versionBack", unfollowed := true, recurses := true, apart := false, narrowed := true }
def VersionBackUptoSaid : Prop := versionBackUptoRow.holds Tryz.pinned (OpenSpec.upto versionBackSpec)

/-- 'tesseractlaw08.VersionFold', WHERE WHAT IT READS IS OF BULK AT MOST 1048576: true; the input reads as it did. -/
def versionFoldUptoRow : OpenClaim := { program := "ytnphfnhhpcelbaagreat", sum := "dd207dfb49b224f58f9ef007cafd508d5dc9f84d0beddd276de4182a89929663", func := "tesseract/tesseractlaw08.VersionFold", spec := "versionFold", unfollowed := true, recurses := true, apart := false, narrowed := true }
def VersionFoldUptoSaid : Prop := versionFoldUptoRow.holds Tryz.pinned (OpenSpec.upto versionFoldSpec)

/-- 'tesseractlaw08.VersionFull', WHERE WHAT IT READS IS OF BULK AT MOST 1048576: true; the input reads as it did. -/
def versionFullUptoRow : OpenClaim := { program := "ytnphfnhhpcelbaagreat", sum := "dd207dfb49b224f58f9ef007cafd508d5dc9f84d0beddd276de4182a89929663", func := "tesseract/tesseractlaw08.VersionFull", spec := "versionFull", unfollowed := true, recurses := true, apart := false, narrowed := true }
def VersionFullUptoSaid : Prop := versionFullUptoRow.holds Tryz.pinned (OpenSpec.upto versionFullSpec)

/-- 'tesseractlaw08.VersionReclaims', WHERE WHAT IT READS IS OF BULK AT MOST 1048576: true; the input reads as it did. -/
def versionReclaimsUptoRow : OpenClaim := { program := "ytnphfnhhpcelbaagreat", sum := "dd207dfb49b224f58f9ef007cafd508d5dc9f84d0beddd276de4182a89929663", func := "tesseract/tesseractlaw08.VersionReclaims", spec := "versionReclaims", inPlace := ["maps.clone"], unfollowed := true, recurses := true, apart := false, narrowed := true }
def VersionReclaimsUptoSaid : Prop := versionReclaimsUptoRow.holds Tryz.pinned (OpenSpec.upto versionReclaimsSpec)

/-- 'tesseractlaw08.VersionPlays', WHERE WHAT IT READS IS OF BULK AT MOST 1048576: true; the input reads as it did. -/
def versionPlaysUptoRow : OpenClaim := { program := "ytnphfnhhpcelbaagreat", sum := "dd207dfb49b224f58f9ef007cafd508d5dc9f84d0beddd276de4182a89929663", func := "tesseract/tesseractlaw08.VersionPlays", spec := "versionPlays", inPlace := ["maps.clone"], unfollowed := true, recurses := true, apart := false, narrowed := true }
def VersionPlaysUptoSaid : Prop := versionPlaysUptoRow.holds Tryz.pinned (OpenSpec.upto versionPlaysSpec)

end Rows
end Go.Proofs.YtnphfnhhpcelbaaGreat
