/-
  DERIVED. GIVEN WITH THE SEED: THE CARDS: each row of YtfcmocdmhnafcaaGreatDoorRows.lean that lists a variable, with what it lists TIED to the program's text (the seventh form; the later family's looks); each row that meets fmt, with fmt's text TOLD by the authors' own Lean function (tested against real Go, not proved from fmt's source: count such statements apart). THE CARD IS WHAT COUNTS. Prove the row's statement (the work); the ties are given (YtfcmocdmhnafcaaGreatDoorTie.lean); close each card by the builder's one call (the guide's Derived/Test/ToyasCard.lean, 'card_holds'). Laid BY PROGRAM, IN A SANDBOX (cutbox-door.mjs). By AI agents, Wed Nov 11 2026. No macro, syntax, notation, axiom, sorry.
-/
import Derived.Test.YtfcmocdmhnafcaaGreatDoorRows
import GoSem.ClaimSeven
namespace Go.Proofs.YtfcmocdmhnafcaaGreatDoor
namespace Rows

/-- THE TIED CARD OF 'cadenzalaw37.PushdecPieces'. -/
def pushdecPiecesCard : Claim7 := { stood := { row := pushdecPiecesRow, standIns := [], harness := (true, "334439e6ead436dcb546a1ab2229d196523d8b26cd1a273415b1a0acc4a4b252"), looks := false }, kinds := [], alts := [], laidByText := true, laidKinds := [.data, .data, .data, .data], laidTests := true, laidLooks := .later }
def PushdecPiecesCardSaid : Prop := Claim7.holds Tryz.pinned (.plain (OpenSpec.ofChange pushdecPiecesSpec)) pushdecPiecesCard

/-- THE TIED CARD OF 'cadenzalaw37.PushdecSticks'. -/
def pushdecSticksCard : Claim7 := { stood := { row := pushdecSticksRow, standIns := [], harness := (true, "334439e6ead436dcb546a1ab2229d196523d8b26cd1a273415b1a0acc4a4b252"), looks := false }, kinds := [], alts := [], laidByText := true, laidKinds := [.data, .data, .data, .data], laidTests := true, laidLooks := .later }
def PushdecSticksCardSaid : Prop := Claim7.holds Tryz.pinned (.plain (OpenSpec.ofChange pushdecSticksSpec)) pushdecSticksCard

/-- THE TIED CARD OF 'cadenzalaw39.ChunksWays'. -/
def chunksWaysCard : Claim7 := { stood := { row := chunksWaysRow, standIns := [], harness := (true, "334439e6ead436dcb546a1ab2229d196523d8b26cd1a273415b1a0acc4a4b252"), looks := false }, kinds := [], alts := [], laidByText := true, laidKinds := [.data, .data, .data, .data], laidTests := true, laidLooks := .later }
def ChunksWaysCardSaid : Prop := Claim7.holds Tryz.pinned (.plain (OpenSpec.ofChange chunksWaysSpec)) chunksWaysCard

/-- THE TIED CARD OF 'cadenzalaw40.SeektoFrames'. -/
def seektoFramesCard : Claim7 := { stood := { row := seektoFramesRow, standIns := [], harness := (true, "334439e6ead436dcb546a1ab2229d196523d8b26cd1a273415b1a0acc4a4b252"), looks := false }, kinds := [], alts := [], laidByText := true, laidKinds := [.data, .data], laidTests := true, laidLooks := .later }
def SeektoFramesCardSaid : Prop := Claim7.holds Tryz.pinned (.plain (OpenSpec.ofChange seektoFramesSpec)) seektoFramesCard

/-- THE TIED CARD OF 'cadenzalaw40.SeektoRest'. -/
def seektoRestCard : Claim7 := { stood := { row := seektoRestRow, standIns := [], harness := (true, "334439e6ead436dcb546a1ab2229d196523d8b26cd1a273415b1a0acc4a4b252"), looks := false }, kinds := [], alts := [], laidByText := true, laidKinds := [.data, .data], laidTests := true, laidLooks := .later }
def SeektoRestCardSaid : Prop := Claim7.holds Tryz.pinned (.plain (OpenSpec.ofChange seektoRestSpec)) seektoRestCard

/-- THE TIED CARD OF 'cadenzalaw41.PolicyValid'. -/
def policyValidCard : Claim7 := { stood := { row := policyValidRow, standIns := [], harness := (true, "334439e6ead436dcb546a1ab2229d196523d8b26cd1a273415b1a0acc4a4b252"), looks := false }, kinds := [], alts := [], laidByText := true, laidKinds := [.data, .data], laidTests := true, laidLooks := .later }
def PolicyValidCardSaid : Prop := Claim7.holds Tryz.pinned (.plain (OpenSpec.ofChange policyValidSpec)) policyValidCard

/-- THE SECOND FORM's CARD OF 'cadenzalaw37.PushdecPieces'. -/
def pushdecPiecesUptoCard : Claim7 := { stood := { row := pushdecPiecesUptoRow, standIns := [], harness := (true, "334439e6ead436dcb546a1ab2229d196523d8b26cd1a273415b1a0acc4a4b252"), looks := false }, kinds := [], alts := [], laidByText := true, laidKinds := [.data, .data, .data, .data], laidTests := true, laidLooks := .later }
def PushdecPiecesUptoCardSaid : Prop := Claim7.holds Tryz.pinned (.plain (OpenSpec.upto pushdecPiecesSpec)) pushdecPiecesUptoCard

/-- THE SECOND FORM's CARD OF 'cadenzalaw37.PushdecSticks'. -/
def pushdecSticksUptoCard : Claim7 := { stood := { row := pushdecSticksUptoRow, standIns := [], harness := (true, "334439e6ead436dcb546a1ab2229d196523d8b26cd1a273415b1a0acc4a4b252"), looks := false }, kinds := [], alts := [], laidByText := true, laidKinds := [.data, .data, .data, .data], laidTests := true, laidLooks := .later }
def PushdecSticksUptoCardSaid : Prop := Claim7.holds Tryz.pinned (.plain (OpenSpec.upto pushdecSticksSpec)) pushdecSticksUptoCard

/-- THE SECOND FORM's CARD OF 'cadenzalaw39.ChunksWays'. -/
def chunksWaysUptoCard : Claim7 := { stood := { row := chunksWaysUptoRow, standIns := [], harness := (true, "334439e6ead436dcb546a1ab2229d196523d8b26cd1a273415b1a0acc4a4b252"), looks := false }, kinds := [], alts := [], laidByText := true, laidKinds := [.data, .data, .data, .data], laidTests := true, laidLooks := .later }
def ChunksWaysUptoCardSaid : Prop := Claim7.holds Tryz.pinned (.plain (OpenSpec.upto chunksWaysSpec)) chunksWaysUptoCard

/-- THE SECOND FORM's CARD OF 'cadenzalaw40.SeektoFrames'. -/
def seektoFramesUptoCard : Claim7 := { stood := { row := seektoFramesUptoRow, standIns := [], harness := (true, "334439e6ead436dcb546a1ab2229d196523d8b26cd1a273415b1a0acc4a4b252"), looks := false }, kinds := [], alts := [], laidByText := true, laidKinds := [.data, .data], laidTests := true, laidLooks := .later }
def SeektoFramesUptoCardSaid : Prop := Claim7.holds Tryz.pinned (.plain (OpenSpec.upto seektoFramesSpec)) seektoFramesUptoCard

/-- THE SECOND FORM's CARD OF 'cadenzalaw40.SeektoRest'. -/
def seektoRestUptoCard : Claim7 := { stood := { row := seektoRestUptoRow, standIns := [], harness := (true, "334439e6ead436dcb546a1ab2229d196523d8b26cd1a273415b1a0acc4a4b252"), looks := false }, kinds := [], alts := [], laidByText := true, laidKinds := [.data, .data], laidTests := true, laidLooks := .later }
def SeektoRestUptoCardSaid : Prop := Claim7.holds Tryz.pinned (.plain (OpenSpec.upto seektoRestSpec)) seektoRestUptoCard

/-- THE SECOND FORM's CARD OF 'cadenzalaw41.PolicyValid'. -/
def policyValidUptoCard : Claim7 := { stood := { row := policyValidUptoRow, standIns := [], harness := (true, "334439e6ead436dcb546a1ab2229d196523d8b26cd1a273415b1a0acc4a4b252"), looks := false }, kinds := [], alts := [], laidByText := true, laidKinds := [.data, .data], laidTests := true, laidLooks := .later }
def PolicyValidUptoCardSaid : Prop := Claim7.holds Tryz.pinned (.plain (OpenSpec.upto policyValidSpec)) policyValidUptoCard
end Rows
end Go.Proofs.YtfcmocdmhnafcaaGreatDoor
