/-
  DERIVED. GIVEN WITH THE SEED: THE CARDS: each row of YtnckeeijjkphaaaGreatDoorRows.lean that lists a variable, with what it lists TIED to the program's text (the seventh form; the later family's looks); each row that meets fmt, with fmt's text TOLD by the authors' own Lean function (tested against real Go, not proved from fmt's source: count such statements apart). THE CARD IS WHAT COUNTS. Prove the row's statement (the work); the ties are given (YtnckeeijjkphaaaGreatDoorTie.lean); close each card by the builder's one call (the guide's Derived/Test/ToyasCard.lean, 'card_holds'). Laid BY PROGRAM, IN A SANDBOX (cutbox-door.mjs). By AI agents, Wed Nov 11 2026. No macro, syntax, notation, axiom, sorry.
-/
import Derived.Test.YtnckeeijjkphaaaGreatDoorRows
import GoSem.ClaimSeven
namespace Go.Proofs.YtnckeeijjkphaaaGreatDoor
namespace Rows

/-- THE TIED CARD OF 'cadenzalaw35.ValidBack'. -/
def validBackCard : Claim7 := { stood := { row := validBackRow, standIns := [], harness := (true, "9ee7486c64909ca843a437884f8f4144aeb4335c1ce1c08850f9f4685cfe83b7"), looks := false }, kinds := [], alts := [], laidByText := true, laidKinds := [.data, .sentinel, .data, .widerDeep, .data], laidTests := true, laidLooks := .later }
def ValidBackCardSaid : Prop := Claim7.holds Tryz.pinned (.plain (OpenSpec.ofChange validBackSpec)) validBackCard

/-- THE TIED CARD OF 'cadenzalaw35.ValidCut'. -/
def validCutCard : Claim7 := { stood := { row := validCutRow, standIns := [], harness := (true, "9ee7486c64909ca843a437884f8f4144aeb4335c1ce1c08850f9f4685cfe83b7"), looks := false }, kinds := [], alts := [], laidByText := true, laidKinds := [.data, .sentinel, .data, .widerDeep, .data], laidTests := true, laidLooks := .later }
def ValidCutCardSaid : Prop := Claim7.holds Tryz.pinned (.plain (OpenSpec.ofChange validCutSpec)) validCutCard

/-- THE SECOND FORM's CARD OF 'cadenzalaw35.ValidBack'. -/
def validBackUptoCard : Claim7 := { stood := { row := validBackUptoRow, standIns := [], harness := (true, "9ee7486c64909ca843a437884f8f4144aeb4335c1ce1c08850f9f4685cfe83b7"), looks := false }, kinds := [], alts := [], laidByText := true, laidKinds := [.data, .sentinel, .data, .widerDeep, .data], laidTests := true, laidLooks := .later }
def ValidBackUptoCardSaid : Prop := Claim7.holds Tryz.pinned (.plain (OpenSpec.upto validBackSpec)) validBackUptoCard

/-- THE SECOND FORM's CARD OF 'cadenzalaw35.ValidCut'. -/
def validCutUptoCard : Claim7 := { stood := { row := validCutUptoRow, standIns := [], harness := (true, "9ee7486c64909ca843a437884f8f4144aeb4335c1ce1c08850f9f4685cfe83b7"), looks := false }, kinds := [], alts := [], laidByText := true, laidKinds := [.data, .sentinel, .data, .widerDeep, .data], laidTests := true, laidLooks := .later }
def ValidCutUptoCardSaid : Prop := Claim7.holds Tryz.pinned (.plain (OpenSpec.upto validCutSpec)) validCutUptoCard
end Rows
end Go.Proofs.YtnckeeijjkphaaaGreatDoor
