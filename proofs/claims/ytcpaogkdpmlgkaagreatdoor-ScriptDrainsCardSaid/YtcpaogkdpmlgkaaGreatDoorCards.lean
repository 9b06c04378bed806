/-
  DERIVED. GIVEN WITH THE SEED: THE CARDS: each row of YtcpaogkdpmlgkaaGreatDoorRows.lean that lists a variable, with what it lists TIED to the program's text (the seventh form; the later family's looks); each row that meets fmt, with fmt's text TOLD by the authors' own Lean function (tested against real Go, not proved from fmt's source: count such statements apart). THE CARD IS WHAT COUNTS. Prove the row's statement (the work); the ties are given (YtcpaogkdpmlgkaaGreatDoorTie.lean); close each card by the builder's one call (the guide's Derived/Test/ToyasCard.lean, 'card_holds'). Laid BY PROGRAM, IN A SANDBOX (cutbox-door.mjs). By AI agents, Wed Nov 11 2026. No macro, syntax, notation, axiom, sorry.
-/
import Derived.Test.YtcpaogkdpmlgkaaGreatDoorRows
import GoSem.ClaimSeven
namespace Go.Proofs.YtcpaogkdpmlgkaaGreatDoor
namespace Rows

/-- THE TIED CARD OF 'cadenzalaw38.ScriptSays'. -/
def scriptSaysCard : Claim7 := { stood := { row := scriptSaysRow, standIns := [], harness := (true, "4d8bdc5b16ffdf3f46a70b2ae2510ba6abeeb12d74ffddbc8222bbe2a256177d"), looks := false }, kinds := [], alts := [], laidByText := true, laidKinds := [.data, .data, .data, .data], laidTests := true, laidLooks := .later }
def ScriptSaysCardSaid : Prop := Claim7.holds Tryz.pinned (.plain (OpenSpec.ofChange scriptSaysSpec)) scriptSaysCard

/-- THE TIED CARD OF 'cadenzalaw38.ScriptDrains'. -/
def scriptDrainsCard : Claim7 := { stood := { row := scriptDrainsRow, standIns := [], harness := (true, "4d8bdc5b16ffdf3f46a70b2ae2510ba6abeeb12d74ffddbc8222bbe2a256177d"), looks := false }, kinds := [], alts := [], laidByText := true, laidKinds := [.data, .data, .data, .data], laidTests := true, laidLooks := .later }
def ScriptDrainsCardSaid : Prop := Claim7.holds Tryz.pinned (.plain (OpenSpec.ofChange scriptDrainsSpec)) scriptDrainsCard

/-- THE SECOND FORM's CARD OF 'cadenzalaw38.ScriptSays'. -/
def scriptSaysUptoCard : Claim7 := { stood := { row := scriptSaysUptoRow, standIns := [], harness := (true, "4d8bdc5b16ffdf3f46a70b2ae2510ba6abeeb12d74ffddbc8222bbe2a256177d"), looks := false }, kinds := [], alts := [], laidByText := true, laidKinds := [.data, .data, .data, .data], laidTests := true, laidLooks := .later }
def ScriptSaysUptoCardSaid : Prop := Claim7.holds Tryz.pinned (.plain (OpenSpec.upto scriptSaysSpec)) scriptSaysUptoCard

/-- THE SECOND FORM's CARD OF 'cadenzalaw38.ScriptDrains'. -/
def scriptDrainsUptoCard : Claim7 := { stood := { row := scriptDrainsUptoRow, standIns := [], harness := (true, "4d8bdc5b16ffdf3f46a70b2ae2510ba6abeeb12d74ffddbc8222bbe2a256177d"), looks := false }, kinds := [], alts := [], laidByText := true, laidKinds := [.data, .data, .data, .data], laidTests := true, laidLooks := .later }
def ScriptDrainsUptoCardSaid : Prop := Claim7.holds Tryz.pinned (.plain (OpenSpec.upto scriptDrainsSpec)) scriptDrainsUptoCard
end Rows
end Go.Proofs.YtcpaogkdpmlgkaaGreatDoor
