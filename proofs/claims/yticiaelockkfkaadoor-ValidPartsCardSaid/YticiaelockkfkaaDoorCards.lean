/-
  DERIVED. GIVEN WITH THE SEED: THE CARDS: each row of YticiaelockkfkaaDoorRows.lean that lists a variable, with what it lists TIED to the program's text (the seventh form; the later family's looks); each row that meets fmt, with fmt's text TOLD by the authors' own Lean function (tested against real Go, not proved from fmt's source: count such statements apart). THE CARD IS WHAT COUNTS. Prove the row's statement (the work); the ties are given (YticiaelockkfkaaDoorTie.lean); close each card by the builder's one call (the guide's Derived/Test/ToyasCard.lean, 'card_holds'). Laid BY PROGRAM, IN A SANDBOX (cutbox-door.mjs). By AI agents, Wed Nov 11 2026. No macro, syntax, notation, axiom, sorry.
-/
import Derived.Test.YticiaelockkfkaaDoorRows
import GoSem.ClaimSeven
namespace Go.Proofs.YticiaelockkfkaaDoor
namespace Rows

/-- THE TIED CARD OF 'cadenzalaw35.ValidParts'. -/
def validPartsCard : Claim7 := { stood := { row := validPartsRow, standIns := [], harness := (true, "0cb6edf482e47b9d0624dba59c676126578affdd5794175f1899bec273447096"), looks := false }, kinds := [], alts := [], laidByText := true, laidKinds := [.data], laidTests := true, laidLooks := .later }
def ValidPartsCardSaid : Prop := Claim7.holds Tryd.pinned (.plain (OpenSpec.ofChange validPartsSpec)) validPartsCard

/-- THE SECOND FORM's CARD OF 'cadenzalaw35.ValidParts'. -/
def validPartsUptoCard : Claim7 := { stood := { row := validPartsUptoRow, standIns := [], harness := (true, "0cb6edf482e47b9d0624dba59c676126578affdd5794175f1899bec273447096"), looks := false }, kinds := [], alts := [], laidByText := true, laidKinds := [.data], laidTests := true, laidLooks := .later }
def ValidPartsUptoCardSaid : Prop := Claim7.holds Tryd.pinned (.plain (OpenSpec.upto validPartsSpec)) validPartsUptoCard
end Rows
end Go.Proofs.YticiaelockkfkaaDoor
