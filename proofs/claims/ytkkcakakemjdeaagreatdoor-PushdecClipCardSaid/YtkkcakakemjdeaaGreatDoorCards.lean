/-
  DERIVED. GIVEN WITH THE SEED: THE CARDS: each row of YtkkcakakemjdeaaGreatDoorRows.lean that lists a variable, with what it lists TIED to the program's text (the seventh form; the later family's looks); each row that meets fmt, with fmt's text TOLD by the authors' own Lean function (tested against real Go, not proved from fmt's source: count such statements apart). THE CARD IS WHAT COUNTS. Prove the row's statement (the work); the ties are given (YtkkcakakemjdeaaGreatDoorTie.lean); close each card by the builder's one call (the guide's Derived/Test/ToyasCard.lean, 'card_holds'). Laid BY PROGRAM, IN A SANDBOX (cutbox-door.mjs). By AI agents, Wed Nov 11 2026. No macro, syntax, notation, axiom, sorry.
-/
import Derived.Test.YtkkcakakemjdeaaGreatDoorRows
import GoSem.ClaimSeven
namespace Go.Proofs.YtkkcakakemjdeaaGreatDoor
namespace Rows

/-- THE TIED CARD OF 'cadenzalaw40.SeektoFrames'. -/
def seektoFramesCard : Claim7 := { stood := { row := seektoFramesRow, standIns := [], harness := (true, "2507560f7eb519c91e0d892682a75f1ce8747b26f34f8092e6ef027ef398613e"), looks := false }, kinds := [], alts := [], laidByText := true, laidKinds := [.data, .data], laidTests := true, laidLooks := .later }
def SeektoFramesCardSaid : Prop := Claim7.holds Tryz.pinned (.plain (OpenSpec.ofChange seektoFramesSpec)) seektoFramesCard

/-- THE TIED CARD OF 'cadenzalaw40.SeektoRest'. -/
def seektoRestCard : Claim7 := { stood := { row := seektoRestRow, standIns := [], harness := (true, "2507560f7eb519c91e0d892682a75f1ce8747b26f34f8092e6ef027ef398613e"), looks := false }, kinds := [], alts := [], laidByText := true, laidKinds := [.data, .data], laidTests := true, laidLooks := .later }
def SeektoRestCardSaid : Prop := Claim7.holds Tryz.pinned (.plain (OpenSpec.ofChange seektoRestSpec)) seektoRestCard

/-- THE TIED CARD OF 'cadenzalaw41.PolicySkips'. -/
def policySkipsCard : Claim7 := { stood := { row := policySkipsRow, standIns := [], harness := (true, "2507560f7eb519c91e0d892682a75f1ce8747b26f34f8092e6ef027ef398613e"), looks := false }, kinds := [], alts := [], laidByText := true, laidKinds := [.data, .data], laidTests := true, laidLooks := .later }
def PolicySkipsCardSaid : Prop := Claim7.holds Tryz.pinned (.plain (OpenSpec.ofChange policySkipsSpec)) policySkipsCard

/-- THE TIED CARD OF 'cadenzalaw44.DamagePlaces'. -/
def damagePlacesCard : Claim7 := { stood := { row := damagePlacesRow, standIns := [], harness := (true, "2507560f7eb519c91e0d892682a75f1ce8747b26f34f8092e6ef027ef398613e"), looks := false }, kinds := [], alts := [], laidByText := true, laidKinds := [.data, .data], laidTests := true, laidLooks := .later }
def DamagePlacesCardSaid : Prop := Claim7.holds Tryz.pinned (.plain (OpenSpec.ofChange damagePlacesSpec)) damagePlacesCard

/-- THE TIED CARD OF 'cadenzalaw37.PushdecClip'. -/
def pushdecClipCard : Claim7 := { stood := { row := pushdecClipRow, standIns := [], harness := (true, "2507560f7eb519c91e0d892682a75f1ce8747b26f34f8092e6ef027ef398613e"), looks := false }, kinds := [], alts := [], laidByText := true, laidKinds := [.data, .data, .data, .data], laidTests := true, laidLooks := .later }
def PushdecClipCardSaid : Prop := Claim7.holds Tryz.pinned (.plain (OpenSpec.ofChange pushdecClipSpec)) pushdecClipCard

/-- THE SECOND FORM's CARD OF 'cadenzalaw40.SeektoFrames'. -/
def seektoFramesUptoCard : Claim7 := { stood := { row := seektoFramesUptoRow, standIns := [], harness := (true, "2507560f7eb519c91e0d892682a75f1ce8747b26f34f8092e6ef027ef398613e"), looks := false }, kinds := [], alts := [], laidByText := true, laidKinds := [.data, .data], laidTests := true, laidLooks := .later }
def SeektoFramesUptoCardSaid : Prop := Claim7.holds Tryz.pinned (.plain (OpenSpec.upto seektoFramesSpec)) seektoFramesUptoCard

/-- THE SECOND FORM's CARD OF 'cadenzalaw40.SeektoRest'. -/
def seektoRestUptoCard : Claim7 := { stood := { row := seektoRestUptoRow, standIns := [], harness := (true, "2507560f7eb519c91e0d892682a75f1ce8747b26f34f8092e6ef027ef398613e"), looks := false }, kinds := [], alts := [], laidByText := true, laidKinds := [.data, .data], laidTests := true, laidLooks := .later }
def SeektoRestUptoCardSaid : Prop := Claim7.holds Tryz.pinned (.plain (OpenSpec.upto seektoRestSpec)) seektoRestUptoCard

/-- THE SECOND FORM's CARD OF 'cadenzalaw41.PolicySkips'. -/
def policySkipsUptoCard : Claim7 := { stood := { row := policySkipsUptoRow, standIns := [], harness := (true, "2507560f7eb519c91e0d892682a75f1ce8747b26f34f8092e6ef027ef398613e"), looks := false }, kinds := [], alts := [], laidByText := true, laidKinds := [.data, .data], laidTests := true, laidLooks := .later }
def PolicySkipsUptoCardSaid : Prop := Claim7.holds Tryz.pinned (.plain (OpenSpec.upto policySkipsSpec)) policySkipsUptoCard

/-- THE SECOND FORM's CARD OF 'cadenzalaw44.DamagePlaces'. -/
def damagePlacesUptoCard : Claim7 := { stood := { row := damagePlacesUptoRow, standIns := [], harness := (true, "2507560f7eb519c91e0d892682a75f1ce8747b26f34f8092e6ef027ef398613e"), looks := false }, kinds := [], alts := [], laidByText := true, laidKinds := [.data, .data], laidTests := true, laidLooks := .later }
def DamagePlacesUptoCardSaid : Prop := Claim7.holds Tryz.pinned (.plain (OpenSpec.upto damagePlacesSpec)) damagePlacesUptoCard

/-- THE SECOND FORM's CARD OF 'cadenzalaw37.PushdecClip'. -/
def pushdecClipUptoCard : Claim7 := { stood := { row := pushdecClipUptoRow, standIns := [], harness := (true, "2507560f7eb519c91e0d892682a75f1ce8747b26f34f8092e6ef027ef398613e"), looks := false }, kinds := [], alts := [], laidByText := true, laidKinds := [.data, .data, .data, .data], laidTests := true, laidLooks := .later }
def PushdecClipUptoCardSaid : Prop := Claim7.holds Tryz.pinned (.plain (OpenSpec.upto pushdecClipSpec)) pushdecClipUptoCard
end Rows
end Go.Proofs.YtkkcakakemjdeaaGreatDoor
