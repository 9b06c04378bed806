/-
  DERIVED. GIVEN WITH THE SEED: THE CARDS: each row of YtaicmmejgiaafaaGreatDoorRows.lean that lists a variable, with what it lists TIED to the program's text (the seventh form; the later family's looks); each row that meets fmt, with fmt's text TOLD by the authors' own Lean function (tested against real Go, not proved from fmt's source: count such statements apart). THE CARD IS WHAT COUNTS. Prove the row's statement (the work); the ties are given (YtaicmmejgiaafaaGreatDoorTie.lean); close each card by the builder's one call (the guide's Derived/Test/ToyasCard.lean, 'card_holds'). Laid BY PROGRAM, IN A SANDBOX (cutbox-door.mjs). By AI agents, Wed Nov 11 2026. No macro, syntax, notation, axiom, sorry.
-/
import Derived.Test.YtaicmmejgiaafaaGreatDoorRows
import GoSem.ClaimSeven
namespace Go.Proofs.YtaicmmejgiaafaaGreatDoor
namespace Rows

/-- THE TIED CARD OF 'cadenzalaw35.ValidNames'. -/
def validNamesCard : Claim7 := { stood := { row := validNamesRow, standIns := [], harness := (true, "659faeb288730bf0ced05240f19535d3f975c5e9500969a8f37aaf071ab15a35"), looks := false }, kinds := [], alts := [], laidByText := true, laidKinds := [.data, .sentinel, .data, .widerDeep, .data], laidTests := true, laidLooks := .later }
def ValidNamesCardSaid : Prop := Claim7.holds Tryz.pinned (.plain (OpenSpec.ofChange validNamesSpec)) validNamesCard

/-- THE TIED CARD OF 'cadenzalaw35.ValidOnly'. -/
def validOnlyCard : Claim7 := { stood := { row := validOnlyRow, standIns := [], harness := (true, "659faeb288730bf0ced05240f19535d3f975c5e9500969a8f37aaf071ab15a35"), looks := false }, kinds := [], alts := [], laidByText := true, laidKinds := [.data, .sentinel, .data, .widerDeep, .data], laidTests := true, laidLooks := .later }
def ValidOnlyCardSaid : Prop := Claim7.holds Tryz.pinned (.plain (OpenSpec.ofChange validOnlySpec)) validOnlyCard

/-- THE TIED CARD OF 'cadenzalaw35.ValidTags'. -/
def validTagsCard : Claim7 := { stood := { row := validTagsRow, standIns := [], harness := (true, "659faeb288730bf0ced05240f19535d3f975c5e9500969a8f37aaf071ab15a35"), looks := false }, kinds := [], alts := [], laidByText := true, laidKinds := [.data, .sentinel, .data, .widerDeep, .data], laidTests := true, laidLooks := .later }
def ValidTagsCardSaid : Prop := Claim7.holds Tryz.pinned (.plain (OpenSpec.ofChange validTagsSpec)) validTagsCard

/-- THE TIED CARD OF 'cadenzalaw42.OneshotWavs'. -/
def oneshotWavsCard : Claim7 := { stood := { row := oneshotWavsRow, standIns := [], harness := (true, "659faeb288730bf0ced05240f19535d3f975c5e9500969a8f37aaf071ab15a35"), looks := false }, kinds := [], alts := [], laidByText := true, laidKinds := [.data, .sentinel, .data, .widerDeep, .data, .data, .data], laidTests := true, laidLooks := .later }
def OneshotWavsCardSaid : Prop := Claim7.holds Tryz.pinned (.plain (OpenSpec.ofChange oneshotWavsSpec)) oneshotWavsCard

/-- THE SECOND FORM's CARD OF 'cadenzalaw35.ValidNames'. -/
def validNamesUptoCard : Claim7 := { stood := { row := validNamesUptoRow, standIns := [], harness := (true, "659faeb288730bf0ced05240f19535d3f975c5e9500969a8f37aaf071ab15a35"), looks := false }, kinds := [], alts := [], laidByText := true, laidKinds := [.data, .sentinel, .data, .widerDeep, .data], laidTests := true, laidLooks := .later }
def ValidNamesUptoCardSaid : Prop := Claim7.holds Tryz.pinned (.plain (OpenSpec.upto validNamesSpec)) validNamesUptoCard

/-- THE SECOND FORM's CARD OF 'cadenzalaw35.ValidOnly'. -/
def validOnlyUptoCard : Claim7 := { stood := { row := validOnlyUptoRow, standIns := [], harness := (true, "659faeb288730bf0ced05240f19535d3f975c5e9500969a8f37aaf071ab15a35"), looks := false }, kinds := [], alts := [], laidByText := true, laidKinds := [.data, .sentinel, .data, .widerDeep, .data], laidTests := true, laidLooks := .later }
def ValidOnlyUptoCardSaid : Prop := Claim7.holds Tryz.pinned (.plain (OpenSpec.upto validOnlySpec)) validOnlyUptoCard

/-- THE SECOND FORM's CARD OF 'cadenzalaw35.ValidTags'. -/
def validTagsUptoCard : Claim7 := { stood := { row := validTagsUptoRow, standIns := [], harness := (true, "659faeb288730bf0ced05240f19535d3f975c5e9500969a8f37aaf071ab15a35"), looks := false }, kinds := [], alts := [], laidByText := true, laidKinds := [.data, .sentinel, .data, .widerDeep, .data], laidTests := true, laidLooks := .later }
def ValidTagsUptoCardSaid : Prop := Claim7.holds Tryz.pinned (.plain (OpenSpec.upto validTagsSpec)) validTagsUptoCard

/-- THE SECOND FORM's CARD OF 'cadenzalaw42.OneshotWavs'. -/
def oneshotWavsUptoCard : Claim7 := { stood := { row := oneshotWavsUptoRow, standIns := [], harness := (true, "659faeb288730bf0ced05240f19535d3f975c5e9500969a8f37aaf071ab15a35"), looks := false }, kinds := [], alts := [], laidByText := true, laidKinds := [.data, .sentinel, .data, .widerDeep, .data, .data, .data], laidTests := true, laidLooks := .later }
def OneshotWavsUptoCardSaid : Prop := Claim7.holds Tryz.pinned (.plain (OpenSpec.upto oneshotWavsSpec)) oneshotWavsUptoCard
end Rows
end Go.Proofs.YtaicmmejgiaafaaGreatDoor
