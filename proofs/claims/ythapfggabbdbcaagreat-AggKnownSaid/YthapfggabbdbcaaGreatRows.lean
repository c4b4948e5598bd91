/-
  No cell of these rows narrows 'for every input' (looked for: loops, veiled, ifaces, maps, wideKeys, modest, calm, conditions, laid).
  DERIVED. THE GIVEN ROWS OF THIS SEAT. 2 by the template 'for every input the law returns true; each argument reads behind the call as it read before'; 0 by the template 'total and deterministic' (their statements: YthapfggabbdbcaaGreatTotals.lean).
  GIVEN WITH THE SEED: the statements are not yours to turn. If you find one false, say at which input.
  Laid BY PROGRAM, IN A SANDBOX (cutbox-rows.mjs): the forced cells as the released guide's own fill.sh prints them over the translation 78d2e0a14dfaf668… (all of the seat's roots in one cut). By AI agents, Wed Nov 11 2026. No macro, syntax, notation, axiom, sorry.
-/
import Derived.Test.YthapfggabbdbcaaGreatChecked
import GoSem.Claim
import GoSem.ClaimJoined
import GoSem.ClaimMapViews
import Derived.JoinedTies
import Derived.KernelRfl
namespace Go.Proofs.YthapfggabbdbcaaGreat
/- THE CELL 'sum', in the pinned program and in every row, IS THE sha256 OF THE DUMP (.gsa) THAT YthapfggabbdbcaaGreatProg.lean LOADS. Nothing in Lean hashes anything: it is a label: what it is worth is what the hold of that sum in a sandbox is worth. -/
noncomputable def Tryz.pinned : Pinned := { name := "ythapfggabbdbcaagreat", sum := "78d2e0a14dfaf6686249ec290de3f8c5edf0efbf39629b92d80b0d477fe5bb19", checked := Tryz.checked }
namespace Rows
def none {H : Type} : Left H := { results := [], args := [] }

/-- 'tesseractlaw05.AggTypes': WHATEVER THE INPUT: true; the input reads as it did. -/
def aggTypesSpec : ChangeSpec := { name := "aggTypes", fn := fun _ => fun
  | [d1, d2] => { results := [.lit (.bool true)], args := [d1, d2] }
  | _ => none }
def aggTypesRow : OpenClaim := { program := "ythapfggabbdbcaagreat", sum := "78d2e0a14dfaf6686249ec290de3f8c5edf0efbf39629b92d80b0d477fe5bb19", func := "tesseract/tesseractlaw05.AggTypes", spec := "aggTypes", inPlace := ["internal/bytealg.abigen_runtime_cmpstring"], unfollowed := true, recurses := true, plainKeys := false, apart := false }
def AggTypesSaid : Prop := aggTypesRow.holds Tryz.pinned (OpenSpec.ofChange aggTypesSpec)

/-- ITS FALSE NEIGHBOUR: 'it returns false'. Refute it at one input. -/
def aggTypesWrong : ChangeSpec := { name := "aggTypes", fn := fun _ => fun
  | [d1, d2] => { results := [.lit (.bool false)], args := [d1, d2] }
  | _ => none }
def AggTypesWrongFalsely : Prop := aggTypesRow.holds Tryz.pinned (OpenSpec.ofChange aggTypesWrong)

/-- 'tesseractlaw05.AggKnown': WHATEVER THE INPUT: true; the input reads as it did. -/
def aggKnownSpec : ChangeSpec := { name := "aggKnown", fn := fun _ => fun
  | [] => { results := [.lit (.bool true)], args := [] }
  | _ => none }
def aggKnownRow : OpenClaim := { program := "ythapfggabbdbcaagreat", sum := "78d2e0a14dfaf6686249ec290de3f8c5edf0efbf39629b92d80b0d477fe5bb19", func := "tesseract/tesseractlaw05.AggKnown", spec := "aggKnown", inPlace := ["internal/bytealg.abigen_runtime_cmpstring"], unfollowed := true, recurses := true, plainKeys := false, apart := false }
def AggKnownSaid : Prop := aggKnownRow.holds Tryz.pinned (OpenSpec.ofChange aggKnownSpec)

/-- ITS FALSE NEIGHBOUR: 'it returns false'. Refute it at one input. -/
def aggKnownWrong : ChangeSpec := { name := "aggKnown", fn := fun _ => fun
  | [] => { results := [.lit (.bool false)], args := [] }
  | _ => none }
def AggKnownWrongFalsely : Prop := aggKnownRow.holds Tryz.pinned (OpenSpec.ofChange aggKnownWrong)

/- THE SECOND FORM. 'bulk': how many values and letters a reading holds, each counted each time it is reached (what is shared counts as often as it is met; a slice's spare places count too). A statement '..UptoSaid' is the law's where the arguments, and the package variables that the reading takes, are together of bulk at most 1048576: NARROWER than '..Said'. Prove '..Said' where nothing that the law and all that it calls make is longer than what came in: it says more and counts as full. Else prove '..UptoSaid'. A law counts once. -/
mutual
def uptoBulk {H : Type} : DataW H → Nat
  | .lit (.string bytes) => bytes.length + 1
  | .lit _ => 1
  | .nil => 1
  | .ptr d => uptoBulk d + 1
  | .slice elems spare => uptoBulkAll elems + uptoBulkAll spare + 1
  | .agg parts => uptoBulkAll parts + 1
  | .iface _ d => uptoBulk d + 1
  | .map entries => uptoBulkEntries entries + 1
  | .held _ => 1
def uptoBulkAll {H : Type} : List (DataW H) → Nat
  | [] => 0
  | d :: r => uptoBulk d + uptoBulkAll r
def uptoBulkEntries {H : Type} : List (Lit × DataW H) → Nat
  | [] => 0
  | x :: r => uptoBulkEntry x + uptoBulkEntries r
def uptoBulkEntry {H : Type} : Lit × DataW H → Nat
  | (.string bytes, d) => bytes.length + uptoBulk d + 1
  | (_, d) => uptoBulk d + 1
 end
def uptoSmall : (H : Type) → List (DataW H) → Bool := fun _ ds => decide (uptoBulkAll ds ≤ 1048576)
def OpenSpec.upto (s : _root_.Go.ChangeSpec) : _root_.Go.OpenSpec := { _root_.Go.OpenSpec.ofChange s with cond := some uptoSmall }

/-- 'tesseractlaw05.AggTypes', WHERE WHAT IT READS IS OF BULK AT MOST 1048576: true; the input reads as it did. -/
def aggTypesUptoRow : OpenClaim := { program := "ythapfggabbdbcaagreat", sum := "78d2e0a14dfaf6686249ec290de3f8c5edf0efbf39629b92d80b0d477fe5bb19", func := "tesseract/tesseractlaw05.AggTypes", spec := "aggTypes", inPlace := ["internal/bytealg.abigen_runtime_cmpstring"], unfollowed := true, recurses := true, plainKeys := false, apart := false, narrowed := true }
def AggTypesUptoSaid : Prop := aggTypesUptoRow.holds Tryz.pinned (OpenSpec.upto aggTypesSpec)

/-- 'tesseractlaw05.AggKnown', WHERE WHAT IT READS IS OF BULK AT MOST 1048576: true; the input reads as it did. -/
def aggKnownUptoRow : OpenClaim := { program := "ythapfggabbdbcaagreat", sum := "78d2e0a14dfaf6686249ec290de3f8c5edf0efbf39629b92d80b0d477fe5bb19", func := "tesseract/tesseractlaw05.AggKnown", spec := "aggKnown", inPlace := ["internal/bytealg.abigen_runtime_cmpstring"], unfollowed := true, recurses := true, plainKeys := false, apart := false, narrowed := true }
def AggKnownUptoSaid : Prop := aggKnownUptoRow.holds Tryz.pinned (OpenSpec.upto aggKnownSpec)

end Rows
end Go.Proofs.YthapfggabbdbcaaGreat
