/-
  DERIVED. GIVEN WITH THE SEED: THE CARDS: each row of YtgomgobgfhhahaaGreatDoorRows.lean that lists a variable, with what it lists TIED to the program's text (the seventh form; the later family's looks); each row that meets fmt, with fmt's text TOLD by the authors' own Lean function (tested against real Go, not proved from fmt's source: count such statements apart). THE CARD IS WHAT COUNTS. Prove the row's statement (the work); the ties are given (YtgomgobgfhhahaaGreatDoorTie.lean); close each card by the builder's one call (the guide's Derived/Test/ToyasCard.lean, 'card_holds'). Laid BY PROGRAM, IN A SANDBOX (cutbox-door.mjs). By AI agents, Wed Nov 11 2026. No macro, syntax, notation, axiom, sorry.
-/
import Derived.Test.YtgomgobgfhhahaaGreatDoorRows
import GoSem.ClaimSeven
namespace Go.Proofs.YtgomgobgfhhahaaGreatDoor
namespace Rows

/-- THE TIED CARD OF 'cadenzalaw42.OneshotSame'. -/
def oneshotSameCard : Claim7 := { stood := { row := oneshotSameRow, standIns := [], harness := (true, "0837406288599d0924220ecdd4fe27de9352924d0d28fcff89d503d131a00377"), looks := false }, kinds := [], alts := [], laidByText := true, laidKinds := [.data, .data, .data, .data], laidTests := true, laidLooks := .later }
def OneshotSameCardSaid : Prop := Claim7.holds Tryz.pinned (.plain (OpenSpec.ofChange oneshotSameSpec)) oneshotSameCard

/-- THE TIED CARD OF 'cadenzalaw42.OneshotBack'. -/
def oneshotBackCard : Claim7 := { stood := { row := oneshotBackRow, standIns := [], harness := (true, "0837406288599d0924220ecdd4fe27de9352924d0d28fcff89d503d131a00377"), looks := false }, kinds := [], alts := [], laidByText := true, laidKinds := [.data, .data, .data, .data], laidTests := true, laidLooks := .later }
def OneshotBackCardSaid : Prop := Claim7.holds Tryz.pinned (.plain (OpenSpec.ofChange oneshotBackSpec)) oneshotBackCard

/-- THE TIED CARD OF 'cadenzalaw39.ChunksMasks'. -/
def chunksMasksCard : Claim7 := { stood := { row := chunksMasksRow, standIns := [], harness := (true, "0837406288599d0924220ecdd4fe27de9352924d0d28fcff89d503d131a00377"), looks := false }, kinds := [], alts := [], laidByText := true, laidKinds := [.data, .data, .data, .data], laidTests := true, laidLooks := .later }
def ChunksMasksCardSaid : Prop := Claim7.holds Tryz.pinned (.plain (OpenSpec.ofChange chunksMasksSpec)) chunksMasksCard

/-- THE TIED CARD OF 'cadenzalaw39.ChunksBack'. -/
def chunksBackCard : Claim7 := { stood := { row := chunksBackRow, standIns := [], harness := (true, "0837406288599d0924220ecdd4fe27de9352924d0d28fcff89d503d131a00377"), looks := false }, kinds := [], alts := [], laidByText := true, laidKinds := [.data, .data, .data, .data], laidTests := true, laidLooks := .later }
def ChunksBackCardSaid : Prop := Claim7.holds Tryz.pinned (.plain (OpenSpec.ofChange chunksBackSpec)) chunksBackCard

/-- THE TIED CARD OF 'cadenzalaw39.ChunksNames'. -/
def chunksNamesCard : Claim7 := { stood := { row := chunksNamesRow, standIns := [], harness := (true, "0837406288599d0924220ecdd4fe27de9352924d0d28fcff89d503d131a00377"), looks := false }, kinds := [], alts := [], laidByText := true, laidKinds := [.data, .data, .data, .data], laidTests := true, laidLooks := .later }
def ChunksNamesCardSaid : Prop := Claim7.holds Tryz.pinned (.plain (OpenSpec.ofChange chunksNamesSpec)) chunksNamesCard

/-- THE SECOND FORM's CARD OF 'cadenzalaw42.OneshotSame'. -/
def oneshotSameUptoCard : Claim7 := { stood := { row := oneshotSameUptoRow, standIns := [], harness := (true, "0837406288599d0924220ecdd4fe27de9352924d0d28fcff89d503d131a00377"), looks := false }, kinds := [], alts := [], laidByText := true, laidKinds := [.data, .data, .data, .data], laidTests := true, laidLooks := .later }
def OneshotSameUptoCardSaid : Prop := Claim7.holds Tryz.pinned (.plain (OpenSpec.upto oneshotSameSpec)) oneshotSameUptoCard

/-- THE SECOND FORM's CARD OF 'cadenzalaw42.OneshotBack'. -/
def oneshotBackUptoCard : Claim7 := { stood := { row := oneshotBackUptoRow, standIns := [], harness := (true, "0837406288599d0924220ecdd4fe27de9352924d0d28fcff89d503d131a00377"), looks := false }, kinds := [], alts := [], laidByText := true, laidKinds := [.data, .data, .data, .data], laidTests := true, laidLooks := .later }
def OneshotBackUptoCardSaid : Prop := Claim7.holds Tryz.pinned (.plain (OpenSpec.upto oneshotBackSpec)) oneshotBackUptoCard

/-- THE SECOND FORM's CARD OF 'cadenzalaw39.ChunksMasks'. -/
def chunksMasksUptoCard : Claim7 := { stood := { row := chunksMasksUptoRow, standIns := [], harness := (true, "0837406288599d0924220ecdd4fe27de9352924d0d28fcff89d503d131a00377"), looks := false }, kinds := [], alts := [], laidByText := true, laidKinds := [.data, .data, .data, .data], laidTests := true, laidLooks := .later }
def ChunksMasksUptoCardSaid : Prop := Claim7.holds Tryz.pinned (.plain (OpenSpec.upto chunksMasksSpec)) chunksMasksUptoCard

/-- THE SECOND FORM's CARD OF 'cadenzalaw39.ChunksBack'. -/
def chunksBackUptoCard : Claim7 := { stood := { row := chunksBackUptoRow, standIns := [], harness := (true, "0837406288599d0924220ecdd4fe27de9352924d0d28fcff89d503d131a00377"), looks := false }, kinds := [], alts := [], laidByText := true, laidKinds := [.data, .data, .data, .data], laidTests := true, laidLooks := .later }
def ChunksBackUptoCardSaid : Prop := Claim7.holds Tryz.pinned (.plain (OpenSpec.upto chunksBackSpec)) chunksBackUptoCard

/-- THE SECOND FORM's CARD OF 'cadenzalaw39.ChunksNames'. -/
def chunksNamesUptoCard : Claim7 := { stood := { row := chunksNamesUptoRow, standIns := [], harness := (true, "0837406288599d0924220ecdd4fe27de9352924d0d28fcff89d503d131a00377"), looks := false }, kinds := [], alts := [], laidByText := true, laidKinds := [.data, .data, .data, .data], laidTests := true, laidLooks := .later }
def ChunksNamesUptoCardSaid : Prop := Claim7.holds Tryz.pinned (.plain (OpenSpec.upto chunksNamesSpec)) chunksNamesUptoCard
end Rows
end Go.Proofs.YtgomgobgfhhahaaGreatDoor
