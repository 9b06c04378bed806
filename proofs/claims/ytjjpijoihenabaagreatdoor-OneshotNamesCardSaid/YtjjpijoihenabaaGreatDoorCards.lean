/-
  DERIVED. GIVEN WITH THE SEED: THE CARDS: each row of YtjjpijoihenabaaGreatDoorRows.lean that lists a variable, with what it lists TIED to the program's text (the seventh form; the later family's looks); each row that meets fmt, with fmt's text TOLD by the authors' own Lean function (tested against real Go, not proved from fmt's source: count such statements apart). THE CARD IS WHAT COUNTS. Prove the row's statement (the work); the ties are given (YtjjpijoihenabaaGreatDoorTie.lean); close each card by the builder's one call (the guide's Derived/Test/ToyasCard.lean, 'card_holds'). Laid BY PROGRAM, IN A SANDBOX (cutbox-door.mjs). By AI agents, Wed Nov 11 2026. No macro, syntax, notation, axiom, sorry.
-/
import Derived.Test.YtjjpijoihenabaaGreatDoorRows
import GoSem.ClaimSeven
namespace Go.Proofs.YtjjpijoihenabaaGreatDoor
namespace Rows

/-- THE TIED CARD OF 'cadenzalaw42.OneshotNames'. -/
def oneshotNamesCard : Claim7 := { stood := { row := oneshotNamesRow, standIns := [], harness := (true, "15e0093e7ccf9469609a4610a9b2c3a01bd7b5ca5093b4da3f2276adeb3440ae"), looks := false }, kinds := [], alts := [], laidByText := true, laidKinds := [.data, .sentinel, .data, .widerDeep, .data, .data, .data], laidTests := true, laidLooks := .later }
def OneshotNamesCardSaid : Prop := Claim7.holds Tryz.pinned (.plain (OpenSpec.ofChange oneshotNamesSpec)) oneshotNamesCard

/-- THE SECOND FORM's CARD OF 'cadenzalaw42.OneshotNames'. -/
def oneshotNamesUptoCard : Claim7 := { stood := { row := oneshotNamesUptoRow, standIns := [], harness := (true, "15e0093e7ccf9469609a4610a9b2c3a01bd7b5ca5093b4da3f2276adeb3440ae"), looks := false }, kinds := [], alts := [], laidByText := true, laidKinds := [.data, .sentinel, .data, .widerDeep, .data, .data, .data], laidTests := true, laidLooks := .later }
def OneshotNamesUptoCardSaid : Prop := Claim7.holds Tryz.pinned (.plain (OpenSpec.upto oneshotNamesSpec)) oneshotNamesUptoCard
end Rows
end Go.Proofs.YtjjpijoihenabaaGreatDoor
