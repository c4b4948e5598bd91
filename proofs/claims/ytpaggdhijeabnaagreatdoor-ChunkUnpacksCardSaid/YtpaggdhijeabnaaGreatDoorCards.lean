/-
  DERIVED. GIVEN WITH THE SEED: THE CARDS: each row of YtpaggdhijeabnaaGreatDoorRows.lean that lists a variable, with what it lists TIED to the program's text (the seventh form; the later family's looks); each row that meets fmt, with fmt's text TOLD by the authors' own Lean function (tested against real Go, not proved from fmt's source: count such statements apart). THE CARD IS WHAT COUNTS. Prove the row's statement (the work); the ties are given (YtpaggdhijeabnaaGreatDoorTie.lean); close each card by the builder's one call (the guide's Derived/Test/ToyasCard.lean, 'card_holds'). Laid BY PROGRAM, IN A SANDBOX (cutbox-door.mjs). By AI agents, Wed Nov 11 2026. No macro, syntax, notation, axiom, sorry.
-/
import Derived.Test.YtpaggdhijeabnaaGreatDoorRows
import GoSem.ClaimSeven
namespace Go.Proofs.YtpaggdhijeabnaaGreatDoor
namespace Rows

/-- THE TIED CARD OF 'tesseractlaw03.ChunkSum'. -/
def chunkSumCard : Claim7 := { stood := { row := chunkSumRow, standIns := [], harness := (true, "ebde7f26e88e278235f96648401d277cc21ce617ce258b0efe275e928707af34"), looks := true }, kinds := [], alts := [], laidByText := true, laidKinds := [.data], laidTests := true, laidLooks := .later }
def ChunkSumCardSaid : Prop := Claim7.holds Tryz.pinned (.plain (OpenSpec.ofChange chunkSumSpec)) chunkSumCard

/-- THE TIED CARD OF 'tesseractlaw03.ChunkPacks'. -/
def chunkPacksCard : Claim7 := { stood := { row := chunkPacksRow, standIns := [], harness := (true, "ebde7f26e88e278235f96648401d277cc21ce617ce258b0efe275e928707af34"), looks := true }, kinds := [], alts := [], laidByText := true, laidKinds := [.data], laidTests := true, laidLooks := .later }
def ChunkPacksCardSaid : Prop := Claim7.holds Tryz.pinned (.plain (OpenSpec.ofChange chunkPacksSpec)) chunkPacksCard

/-- THE TIED CARD OF 'tesseractlaw03.ChunkUnpacks'. -/
def chunkUnpacksCard : Claim7 := { stood := { row := chunkUnpacksRow, standIns := [], harness := (true, "ebde7f26e88e278235f96648401d277cc21ce617ce258b0efe275e928707af34"), looks := true }, kinds := [], alts := [], laidByText := true, laidKinds := [.data], laidTests := true, laidLooks := .later }
def ChunkUnpacksCardSaid : Prop := Claim7.holds Tryz.pinned (.plain (OpenSpec.ofChange chunkUnpacksSpec)) chunkUnpacksCard

/-- THE TIED CARD OF 'tesseractlaw03.ChunkBack'. -/
def chunkBackCard : Claim7 := { stood := { row := chunkBackRow, standIns := [], harness := (true, "ebde7f26e88e278235f96648401d277cc21ce617ce258b0efe275e928707af34"), looks := true }, kinds := [], alts := [], laidByText := true, laidKinds := [.data], laidTests := true, laidLooks := .later }
def ChunkBackCardSaid : Prop := Claim7.holds Tryz.pinned (.plain (OpenSpec.ofChange chunkBackSpec)) chunkBackCard

/-- THE SECOND FORM's CARD OF 'tesseractlaw03.ChunkSum'. -/
def chunkSumUptoCard : Claim7 := { stood := { row := chunkSumUptoRow, standIns := [], harness := (true, "ebde7f26e88e278235f96648401d277cc21ce617ce258b0efe275e928707af34"), looks := true }, kinds := [], alts := [], laidByText := true, laidKinds := [.data], laidTests := true, laidLooks := .later }
def ChunkSumUptoCardSaid : Prop := Claim7.holds Tryz.pinned (.plain (OpenSpec.upto chunkSumSpec)) chunkSumUptoCard

/-- THE SECOND FORM's CARD OF 'tesseractlaw03.ChunkPacks'. -/
def chunkPacksUptoCard : Claim7 := { stood := { row := chunkPacksUptoRow, standIns := [], harness := (true, "ebde7f26e88e278235f96648401d277cc21ce617ce258b0efe275e928707af34"), looks := true }, kinds := [], alts := [], laidByText := true, laidKinds := [.data], laidTests := true, laidLooks := .later }
def ChunkPacksUptoCardSaid : Prop := Claim7.holds Tryz.pinned (.plain (OpenSpec.upto chunkPacksSpec)) chunkPacksUptoCard

/-- THE SECOND FORM's CARD OF 'tesseractlaw03.ChunkUnpacks'. -/
def chunkUnpacksUptoCard : Claim7 := { stood := { row := chunkUnpacksUptoRow, standIns := [], harness := (true, "ebde7f26e88e278235f96648401d277cc21ce617ce258b0efe275e928707af34"), looks := true }, kinds := [], alts := [], laidByText := true, laidKinds := [.data], laidTests := true, laidLooks := .later }
def ChunkUnpacksUptoCardSaid : Prop := Claim7.holds Tryz.pinned (.plain (OpenSpec.upto chunkUnpacksSpec)) chunkUnpacksUptoCard

/-- THE SECOND FORM's CARD OF 'tesseractlaw03.ChunkBack'. -/
def chunkBackUptoCard : Claim7 := { stood := { row := chunkBackUptoRow, standIns := [], harness := (true, "ebde7f26e88e278235f96648401d277cc21ce617ce258b0efe275e928707af34"), looks := true }, kinds := [], alts := [], laidByText := true, laidKinds := [.data], laidTests := true, laidLooks := .later }
def ChunkBackUptoCardSaid : Prop := Claim7.holds Tryz.pinned (.plain (OpenSpec.upto chunkBackSpec)) chunkBackUptoCard
end Rows
end Go.Proofs.YtpaggdhijeabnaaGreatDoor
