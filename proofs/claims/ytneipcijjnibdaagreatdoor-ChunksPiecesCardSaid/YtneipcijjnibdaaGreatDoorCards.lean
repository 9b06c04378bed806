/-
  DERIVED. GIVEN WITH THE SEED: THE CARDS: each row of YtneipcijjnibdaaGreatDoorRows.lean that lists a variable, with what it lists TIED to the program's text (the seventh form; the later family's looks); each row that meets fmt, with fmt's text TOLD by the authors' own Lean function (tested against real Go, not proved from fmt's source: count such statements apart). THE CARD IS WHAT COUNTS. Prove the row's statement (the work); the ties are given (YtneipcijjnibdaaGreatDoorTie.lean); close each card by the builder's one call (the guide's Derived/Test/ToyasCard.lean, 'card_holds'). Laid BY PROGRAM, IN A SANDBOX (cutbox-door.mjs). By AI agents, Wed Nov 11 2026. No macro, syntax, notation, axiom, sorry.
-/
import Derived.Test.YtneipcijjnibdaaGreatDoorRows
import GoSem.ClaimSeven
namespace Go.Proofs.YtneipcijjnibdaaGreatDoor
namespace Rows

/-- THE TIED CARD OF 'cadenzalaw44.DamageUndo'. -/
def damageUndoCard : Claim7 := { stood := { row := damageUndoRow, standIns := [], harness := (true, "be01097f7a12734934952b7208dd5fe4e43780f3cfce8657ba25499fe62b9606"), looks := false }, kinds := [], alts := [], laidByText := true, laidKinds := [.data, .data], laidTests := true, laidLooks := .later }
def DamageUndoCardSaid : Prop := Claim7.holds Tryz.pinned (.plain (OpenSpec.ofChange damageUndoSpec)) damageUndoCard

/-- THE TIED CARD OF 'cadenzalaw39.ChunksPieces'. -/
def chunksPiecesCard : Claim7 := { stood := { row := chunksPiecesRow, standIns := [], harness := (true, "be01097f7a12734934952b7208dd5fe4e43780f3cfce8657ba25499fe62b9606"), looks := false }, kinds := [], alts := [], laidByText := true, laidKinds := [.data, .data, .data, .data], laidTests := true, laidLooks := .later }
def ChunksPiecesCardSaid : Prop := Claim7.holds Tryz.pinned (.plain (OpenSpec.ofChange chunksPiecesSpec)) chunksPiecesCard

/-- THE TIED CARD OF 'cadenzalaw39.ChunksDecodes'. -/
def chunksDecodesCard : Claim7 := { stood := { row := chunksDecodesRow, standIns := [], harness := (true, "be01097f7a12734934952b7208dd5fe4e43780f3cfce8657ba25499fe62b9606"), looks := false }, kinds := [], alts := [], laidByText := true, laidKinds := [.data, .data, .data, .data], laidTests := true, laidLooks := .later }
def ChunksDecodesCardSaid : Prop := Claim7.holds Tryz.pinned (.plain (OpenSpec.ofChange chunksDecodesSpec)) chunksDecodesCard

/-- THE TIED CARD OF 'cadenzalaw39.ChunksWays'. -/
def chunksWaysCard : Claim7 := { stood := { row := chunksWaysRow, standIns := [], harness := (true, "be01097f7a12734934952b7208dd5fe4e43780f3cfce8657ba25499fe62b9606"), looks := false }, kinds := [], alts := [], laidByText := true, laidKinds := [.data, .data, .data, .data], laidTests := true, laidLooks := .later }
def ChunksWaysCardSaid : Prop := Claim7.holds Tryz.pinned (.plain (OpenSpec.ofChange chunksWaysSpec)) chunksWaysCard

/-- THE TIED CARD OF 'cadenzalaw37.PushdecPieces'. -/
def pushdecPiecesCard : Claim7 := { stood := { row := pushdecPiecesRow, standIns := [], harness := (true, "be01097f7a12734934952b7208dd5fe4e43780f3cfce8657ba25499fe62b9606"), looks := false }, kinds := [], alts := [], laidByText := true, laidKinds := [.data, .data, .data, .data], laidTests := true, laidLooks := .later }
def PushdecPiecesCardSaid : Prop := Claim7.holds Tryz.pinned (.plain (OpenSpec.ofChange pushdecPiecesSpec)) pushdecPiecesCard

/-- THE TIED CARD OF 'cadenzalaw37.PushdecSticks'. -/
def pushdecSticksCard : Claim7 := { stood := { row := pushdecSticksRow, standIns := [], harness := (true, "be01097f7a12734934952b7208dd5fe4e43780f3cfce8657ba25499fe62b9606"), looks := false }, kinds := [], alts := [], laidByText := true, laidKinds := [.data, .data, .data, .data], laidTests := true, laidLooks := .later }
def PushdecSticksCardSaid : Prop := Claim7.holds Tryz.pinned (.plain (OpenSpec.ofChange pushdecSticksSpec)) pushdecSticksCard

/-- THE SECOND FORM's CARD OF 'cadenzalaw44.DamageUndo'. -/
def damageUndoUptoCard : Claim7 := { stood := { row := damageUndoUptoRow, standIns := [], harness := (true, "be01097f7a12734934952b7208dd5fe4e43780f3cfce8657ba25499fe62b9606"), looks := false }, kinds := [], alts := [], laidByText := true, laidKinds := [.data, .data], laidTests := true, laidLooks := .later }
def DamageUndoUptoCardSaid : Prop := Claim7.holds Tryz.pinned (.plain (OpenSpec.upto damageUndoSpec)) damageUndoUptoCard

/-- THE SECOND FORM's CARD OF 'cadenzalaw39.ChunksPieces'. -/
def chunksPiecesUptoCard : Claim7 := { stood := { row := chunksPiecesUptoRow, standIns := [], harness := (true, "be01097f7a12734934952b7208dd5fe4e43780f3cfce8657ba25499fe62b9606"), looks := false }, kinds := [], alts := [], laidByText := true, laidKinds := [.data, .data, .data, .data], laidTests := true, laidLooks := .later }
def ChunksPiecesUptoCardSaid : Prop := Claim7.holds Tryz.pinned (.plain (OpenSpec.upto chunksPiecesSpec)) chunksPiecesUptoCard

/-- THE SECOND FORM's CARD OF 'cadenzalaw39.ChunksDecodes'. -/
def chunksDecodesUptoCard : Claim7 := { stood := { row := chunksDecodesUptoRow, standIns := [], harness := (true, "be01097f7a12734934952b7208dd5fe4e43780f3cfce8657ba25499fe62b9606"), looks := false }, kinds := [], alts := [], laidByText := true, laidKinds := [.data, .data, .data, .data], laidTests := true, laidLooks := .later }
def ChunksDecodesUptoCardSaid : Prop := Claim7.holds Tryz.pinned (.plain (OpenSpec.upto chunksDecodesSpec)) chunksDecodesUptoCard

/-- THE SECOND FORM's CARD OF 'cadenzalaw39.ChunksWays'. -/
def chunksWaysUptoCard : Claim7 := { stood := { row := chunksWaysUptoRow, standIns := [], harness := (true, "be01097f7a12734934952b7208dd5fe4e43780f3cfce8657ba25499fe62b9606"), looks := false }, kinds := [], alts := [], laidByText := true, laidKinds := [.data, .data, .data, .data], laidTests := true, laidLooks := .later }
def ChunksWaysUptoCardSaid : Prop := Claim7.holds Tryz.pinned (.plain (OpenSpec.upto chunksWaysSpec)) chunksWaysUptoCard

/-- THE SECOND FORM's CARD OF 'cadenzalaw37.PushdecPieces'. -/
def pushdecPiecesUptoCard : Claim7 := { stood := { row := pushdecPiecesUptoRow, standIns := [], harness := (true, "be01097f7a12734934952b7208dd5fe4e43780f3cfce8657ba25499fe62b9606"), looks := false }, kinds := [], alts := [], laidByText := true, laidKinds := [.data, .data, .data, .data], laidTests := true, laidLooks := .later }
def PushdecPiecesUptoCardSaid : Prop := Claim7.holds Tryz.pinned (.plain (OpenSpec.upto pushdecPiecesSpec)) pushdecPiecesUptoCard

/-- THE SECOND FORM's CARD OF 'cadenzalaw37.PushdecSticks'. -/
def pushdecSticksUptoCard : Claim7 := { stood := { row := pushdecSticksUptoRow, standIns := [], harness := (true, "be01097f7a12734934952b7208dd5fe4e43780f3cfce8657ba25499fe62b9606"), looks := false }, kinds := [], alts := [], laidByText := true, laidKinds := [.data, .data, .data, .data], laidTests := true, laidLooks := .later }
def PushdecSticksUptoCardSaid : Prop := Claim7.holds Tryz.pinned (.plain (OpenSpec.upto pushdecSticksSpec)) pushdecSticksUptoCard
end Rows
end Go.Proofs.YtneipcijjnibdaaGreatDoor
