/-
  DERIVED. GIVEN WITH THE SEED: THE CARDS: each row of YtaokmgopghpikaaGreatDoorRows.lean that lists a variable, with what it lists TIED to the program's text (the seventh form; the later family's looks); each row that meets fmt, with fmt's text TOLD by the authors' own Lean function (tested against real Go, not proved from fmt's source: count such statements apart). THE CARD IS WHAT COUNTS. Prove the row's statement (the work); the ties are given (YtaokmgopghpikaaGreatDoorTie.lean); close each card by the builder's one call (the guide's Derived/Test/ToyasCard.lean, 'card_holds'). Laid BY PROGRAM, IN A SANDBOX (cutbox-door.mjs). By AI agents, Wed Nov 11 2026. No macro, syntax, notation, axiom, sorry.
-/
import Derived.Test.YtaokmgopghpikaaGreatDoorRows
import GoSem.ClaimSeven
namespace Go.Proofs.YtaokmgopghpikaaGreatDoor
namespace Rows

/-- THE TIED CARD OF 'cadenzalaw37.PushdecNames'. -/
def pushdecNamesCard : Claim7 := { stood := { row := pushdecNamesRow, standIns := [], harness := (true, "54de0d93d450f36441daac5992b037ce8152ab83c9106a9c3c58698680acd5a8"), looks := false }, kinds := [], alts := [], laidByText := true, laidKinds := [.data, .data, .data, .data], laidTests := true, laidLooks := .later }
def PushdecNamesCardSaid : Prop := Claim7.holds Tryz.pinned (.plain (OpenSpec.ofChange pushdecNamesSpec)) pushdecNamesCard

/-- THE TIED CARD OF 'cadenzalaw38.ScriptEven'. -/
def scriptEvenCard : Claim7 := { stood := { row := scriptEvenRow, standIns := [], harness := (true, "54de0d93d450f36441daac5992b037ce8152ab83c9106a9c3c58698680acd5a8"), looks := false }, kinds := [], alts := [], laidByText := true, laidKinds := [.data, .data, .data, .data], laidTests := true, laidLooks := .later }
def ScriptEvenCardSaid : Prop := Claim7.holds Tryz.pinned (.plain (OpenSpec.ofChange scriptEvenSpec)) scriptEvenCard

/-- THE TIED CARD OF 'cadenzalaw35.ValidTags'. -/
def validTagsCard : Claim7 := { stood := { row := validTagsRow, standIns := [], harness := (true, "54de0d93d450f36441daac5992b037ce8152ab83c9106a9c3c58698680acd5a8"), looks := false }, kinds := [], alts := [], laidByText := true, laidKinds := [.data, .sentinel, .data, .widerDeep, .data], laidTests := true, laidLooks := .later }
def ValidTagsCardSaid : Prop := Claim7.holds Tryz.pinned (.plain (OpenSpec.ofChange validTagsSpec)) validTagsCard

/-- THE SECOND FORM's CARD OF 'cadenzalaw37.PushdecNames'. -/
def pushdecNamesUptoCard : Claim7 := { stood := { row := pushdecNamesUptoRow, standIns := [], harness := (true, "54de0d93d450f36441daac5992b037ce8152ab83c9106a9c3c58698680acd5a8"), looks := false }, kinds := [], alts := [], laidByText := true, laidKinds := [.data, .data, .data, .data], laidTests := true, laidLooks := .later }
def PushdecNamesUptoCardSaid : Prop := Claim7.holds Tryz.pinned (.plain (OpenSpec.upto pushdecNamesSpec)) pushdecNamesUptoCard

/-- THE SECOND FORM's CARD OF 'cadenzalaw38.ScriptEven'. -/
def scriptEvenUptoCard : Claim7 := { stood := { row := scriptEvenUptoRow, standIns := [], harness := (true, "54de0d93d450f36441daac5992b037ce8152ab83c9106a9c3c58698680acd5a8"), looks := false }, kinds := [], alts := [], laidByText := true, laidKinds := [.data, .data, .data, .data], laidTests := true, laidLooks := .later }
def ScriptEvenUptoCardSaid : Prop := Claim7.holds Tryz.pinned (.plain (OpenSpec.upto scriptEvenSpec)) scriptEvenUptoCard

/-- THE SECOND FORM's CARD OF 'cadenzalaw35.ValidTags'. -/
def validTagsUptoCard : Claim7 := { stood := { row := validTagsUptoRow, standIns := [], harness := (true, "54de0d93d450f36441daac5992b037ce8152ab83c9106a9c3c58698680acd5a8"), looks := false }, kinds := [], alts := [], laidByText := true, laidKinds := [.data, .sentinel, .data, .widerDeep, .data], laidTests := true, laidLooks := .later }
def ValidTagsUptoCardSaid : Prop := Claim7.holds Tryz.pinned (.plain (OpenSpec.upto validTagsSpec)) validTagsUptoCard
end Rows
end Go.Proofs.YtaokmgopghpikaaGreatDoor
