/-
  DERIVED. GIVEN WITH THE SEED: THE CARDS: each row of YtehlnpncgkmoaaaGreatDoorRows.lean that lists a variable, with what it lists TIED to the program's text (the seventh form; the later family's looks); each row that meets fmt, with fmt's text TOLD by the authors' own Lean function (tested against real Go, not proved from fmt's source: count such statements apart). THE CARD IS WHAT COUNTS. Prove the row's statement (the work); the ties are given (YtehlnpncgkmoaaaGreatDoorTie.lean); close each card by the builder's one call (the guide's Derived/Test/ToyasCard.lean, 'card_holds'). Laid BY PROGRAM, IN A SANDBOX (cutbox-door.mjs). By AI agents, Wed Nov 11 2026. No macro, syntax, notation, axiom, sorry.
-/
import Derived.Test.YtehlnpncgkmoaaaGreatDoorRows
import GoSem.ClaimSeven
namespace Go.Proofs.YtehlnpncgkmoaaaGreatDoor
namespace Rows

/-- THE TIED CARD OF 'cadenzalaw38.ScriptFiles'. -/
def scriptFilesCard : Claim7 := { stood := { row := scriptFilesRow, standIns := [], harness := (true, "db5873510d6ba4ece8141c8e5a1d2d072963315d17ccab7e0b325ea4150975bc"), looks := false }, kinds := [], alts := [], laidByText := true, laidKinds := [.data], laidTests := true, laidLooks := .later }
def ScriptFilesCardSaid : Prop := Claim7.holds Tryz.pinned (.plain (OpenSpec.ofChange scriptFilesSpec)) scriptFilesCard

/-- THE TIED CARD OF 'cadenzalaw43.MemoryCoded'. -/
def memoryCodedCard : Claim7 := { stood := { row := memoryCodedRow, standIns := [], harness := (true, "db5873510d6ba4ece8141c8e5a1d2d072963315d17ccab7e0b325ea4150975bc"), looks := false }, kinds := [], alts := [], laidByText := true, laidKinds := [.data, .data, .data, .data], laidTests := true, laidLooks := .later }
def MemoryCodedCardSaid : Prop := Claim7.holds Tryz.pinned (.plain (OpenSpec.ofChange memoryCodedSpec)) memoryCodedCard

/-- THE TIED CARD OF 'cadenzalaw39.ChunksCuts'. -/
def chunksCutsCard : Claim7 := { stood := { row := chunksCutsRow, standIns := [], harness := (true, "db5873510d6ba4ece8141c8e5a1d2d072963315d17ccab7e0b325ea4150975bc"), looks := false }, kinds := [], alts := [], laidByText := true, laidKinds := [.data], laidTests := true, laidLooks := .later }
def ChunksCutsCardSaid : Prop := Claim7.holds Tryz.pinned (.plain (OpenSpec.ofChange chunksCutsSpec)) chunksCutsCard

/-- THE TIED CARD OF 'cadenzalaw42.OneshotEncodes'. -/
def oneshotEncodesCard : Claim7 := { stood := { row := oneshotEncodesRow, standIns := [], harness := (true, "db5873510d6ba4ece8141c8e5a1d2d072963315d17ccab7e0b325ea4150975bc"), looks := false }, kinds := [], alts := [], laidByText := true, laidKinds := [.data, .widerDeep, .data], laidTests := true, laidLooks := .later }
def OneshotEncodesCardSaid : Prop := Claim7.holds Tryz.pinned (.plain (OpenSpec.ofChange oneshotEncodesSpec)) oneshotEncodesCard

/-- THE SECOND FORM's CARD OF 'cadenzalaw38.ScriptFiles'. -/
def scriptFilesUptoCard : Claim7 := { stood := { row := scriptFilesUptoRow, standIns := [], harness := (true, "db5873510d6ba4ece8141c8e5a1d2d072963315d17ccab7e0b325ea4150975bc"), looks := false }, kinds := [], alts := [], laidByText := true, laidKinds := [.data], laidTests := true, laidLooks := .later }
def ScriptFilesUptoCardSaid : Prop := Claim7.holds Tryz.pinned (.plain (OpenSpec.upto scriptFilesSpec)) scriptFilesUptoCard

/-- THE SECOND FORM's CARD OF 'cadenzalaw43.MemoryCoded'. -/
def memoryCodedUptoCard : Claim7 := { stood := { row := memoryCodedUptoRow, standIns := [], harness := (true, "db5873510d6ba4ece8141c8e5a1d2d072963315d17ccab7e0b325ea4150975bc"), looks := false }, kinds := [], alts := [], laidByText := true, laidKinds := [.data, .data, .data, .data], laidTests := true, laidLooks := .later }
def MemoryCodedUptoCardSaid : Prop := Claim7.holds Tryz.pinned (.plain (OpenSpec.upto memoryCodedSpec)) memoryCodedUptoCard

/-- THE SECOND FORM's CARD OF 'cadenzalaw39.ChunksCuts'. -/
def chunksCutsUptoCard : Claim7 := { stood := { row := chunksCutsUptoRow, standIns := [], harness := (true, "db5873510d6ba4ece8141c8e5a1d2d072963315d17ccab7e0b325ea4150975bc"), looks := false }, kinds := [], alts := [], laidByText := true, laidKinds := [.data], laidTests := true, laidLooks := .later }
def ChunksCutsUptoCardSaid : Prop := Claim7.holds Tryz.pinned (.plain (OpenSpec.upto chunksCutsSpec)) chunksCutsUptoCard

/-- THE SECOND FORM's CARD OF 'cadenzalaw42.OneshotEncodes'. -/
def oneshotEncodesUptoCard : Claim7 := { stood := { row := oneshotEncodesUptoRow, standIns := [], harness := (true, "db5873510d6ba4ece8141c8e5a1d2d072963315d17ccab7e0b325ea4150975bc"), looks := false }, kinds := [], alts := [], laidByText := true, laidKinds := [.data, .widerDeep, .data], laidTests := true, laidLooks := .later }
def OneshotEncodesUptoCardSaid : Prop := Claim7.holds Tryz.pinned (.plain (OpenSpec.upto oneshotEncodesSpec)) oneshotEncodesUptoCard
end Rows
end Go.Proofs.YtehlnpncgkmoaaaGreatDoor
