/-
  DERIVED. GIVEN WITH THE SEED: THE CARDS: each row of YtmnpghdjdepelaaGreatDoorRows.lean that lists a variable, with what it lists TIED to the program's text (the seventh form; the later family's looks); each row that meets fmt, with fmt's text TOLD by the authors' own Lean function (tested against real Go, not proved from fmt's source: count such statements apart). THE CARD IS WHAT COUNTS. Prove the row's statement (the work); the ties are given (YtmnpghdjdepelaaGreatDoorTie.lean); close each card by the builder's one call (the guide's Derived/Test/ToyasCard.lean, 'card_holds'). Laid BY PROGRAM, IN A SANDBOX (cutbox-door.mjs). By AI agents, Wed Nov 11 2026. No macro, syntax, notation, axiom, sorry.
-/
import Derived.Test.YtmnpghdjdepelaaGreatDoorRows
import GoSem.ClaimSeven
namespace Go.Proofs.YtmnpghdjdepelaaGreatDoor
namespace Rows

/-- THE TIED CARD OF 'cadenzalaw37.PushdecNames'. -/
def pushdecNamesCard : Claim7 := { stood := { row := pushdecNamesRow, standIns := [], harness := (true, "82bd72716d7698fdf0ec656df55bd61cbe13ff1a6a70b59678f80b87a882d6fd"), looks := false }, kinds := [], alts := [], laidByText := true, laidKinds := [.data, .data, .data, .data], laidTests := true, laidLooks := .later }
def PushdecNamesCardSaid : Prop := Claim7.holds Tryz.pinned (.plain (OpenSpec.ofChange pushdecNamesSpec)) pushdecNamesCard

/-- THE TIED CARD OF 'cadenzalaw41.PolicyNames'. -/
def policyNamesCard : Claim7 := { stood := { row := policyNamesRow, standIns := [], harness := (true, "82bd72716d7698fdf0ec656df55bd61cbe13ff1a6a70b59678f80b87a882d6fd"), looks := false }, kinds := [], alts := [], laidByText := true, laidKinds := [.data, .data], laidTests := true, laidLooks := .later }
def PolicyNamesCardSaid : Prop := Claim7.holds Tryz.pinned (.plain (OpenSpec.ofChange policyNamesSpec)) policyNamesCard

/-- THE TIED CARD OF 'cadenzalaw38.ScriptNames'. -/
def scriptNamesCard : Claim7 := { stood := { row := scriptNamesRow, standIns := [], harness := (true, "82bd72716d7698fdf0ec656df55bd61cbe13ff1a6a70b59678f80b87a882d6fd"), looks := false }, kinds := [], alts := [], laidByText := true, laidKinds := [.data, .data, .data, .data], laidTests := true, laidLooks := .later }
def ScriptNamesCardSaid : Prop := Claim7.holds Tryz.pinned (.plain (OpenSpec.ofChange scriptNamesSpec)) scriptNamesCard

/-- THE TIED CARD OF 'cadenzalaw43.MemoryNames'. -/
def memoryNamesCard : Claim7 := { stood := { row := memoryNamesRow, standIns := [], harness := (true, "82bd72716d7698fdf0ec656df55bd61cbe13ff1a6a70b59678f80b87a882d6fd"), looks := false }, kinds := [], alts := [], laidByText := true, laidKinds := [.data, .data, .data, .data], laidTests := true, laidLooks := .later }
def MemoryNamesCardSaid : Prop := Claim7.holds Tryz.pinned (.plain (OpenSpec.ofChange memoryNamesSpec)) memoryNamesCard

/-- THE TIED CARD OF 'cadenzalaw42.OneshotNames'. -/
def oneshotNamesCard : Claim7 := { stood := { row := oneshotNamesRow, standIns := [], harness := (true, "82bd72716d7698fdf0ec656df55bd61cbe13ff1a6a70b59678f80b87a882d6fd"), looks := false }, kinds := [], alts := [], laidByText := true, laidKinds := [.data, .sentinel, .data, .widerDeep, .data, .data, .data], laidTests := true, laidLooks := .later }
def OneshotNamesCardSaid : Prop := Claim7.holds Tryz.pinned (.plain (OpenSpec.ofChange oneshotNamesSpec)) oneshotNamesCard

/-- THE SECOND FORM's CARD OF 'cadenzalaw37.PushdecNames'. -/
def pushdecNamesUptoCard : Claim7 := { stood := { row := pushdecNamesUptoRow, standIns := [], harness := (true, "82bd72716d7698fdf0ec656df55bd61cbe13ff1a6a70b59678f80b87a882d6fd"), looks := false }, kinds := [], alts := [], laidByText := true, laidKinds := [.data, .data, .data, .data], laidTests := true, laidLooks := .later }
def PushdecNamesUptoCardSaid : Prop := Claim7.holds Tryz.pinned (.plain (OpenSpec.upto pushdecNamesSpec)) pushdecNamesUptoCard

/-- THE SECOND FORM's CARD OF 'cadenzalaw41.PolicyNames'. -/
def policyNamesUptoCard : Claim7 := { stood := { row := policyNamesUptoRow, standIns := [], harness := (true, "82bd72716d7698fdf0ec656df55bd61cbe13ff1a6a70b59678f80b87a882d6fd"), looks := false }, kinds := [], alts := [], laidByText := true, laidKinds := [.data, .data], laidTests := true, laidLooks := .later }
def PolicyNamesUptoCardSaid : Prop := Claim7.holds Tryz.pinned (.plain (OpenSpec.upto policyNamesSpec)) policyNamesUptoCard

/-- THE SECOND FORM's CARD OF 'cadenzalaw38.ScriptNames'. -/
def scriptNamesUptoCard : Claim7 := { stood := { row := scriptNamesUptoRow, standIns := [], harness := (true, "82bd72716d7698fdf0ec656df55bd61cbe13ff1a6a70b59678f80b87a882d6fd"), looks := false }, kinds := [], alts := [], laidByText := true, laidKinds := [.data, .data, .data, .data], laidTests := true, laidLooks := .later }
def ScriptNamesUptoCardSaid : Prop := Claim7.holds Tryz.pinned (.plain (OpenSpec.upto scriptNamesSpec)) scriptNamesUptoCard

/-- THE SECOND FORM's CARD OF 'cadenzalaw43.MemoryNames'. -/
def memoryNamesUptoCard : Claim7 := { stood := { row := memoryNamesUptoRow, standIns := [], harness := (true, "82bd72716d7698fdf0ec656df55bd61cbe13ff1a6a70b59678f80b87a882d6fd"), looks := false }, kinds := [], alts := [], laidByText := true, laidKinds := [.data, .data, .data, .data], laidTests := true, laidLooks := .later }
def MemoryNamesUptoCardSaid : Prop := Claim7.holds Tryz.pinned (.plain (OpenSpec.upto memoryNamesSpec)) memoryNamesUptoCard

/-- THE SECOND FORM's CARD OF 'cadenzalaw42.OneshotNames'. -/
def oneshotNamesUptoCard : Claim7 := { stood := { row := oneshotNamesUptoRow, standIns := [], harness := (true, "82bd72716d7698fdf0ec656df55bd61cbe13ff1a6a70b59678f80b87a882d6fd"), looks := false }, kinds := [], alts := [], laidByText := true, laidKinds := [.data, .sentinel, .data, .widerDeep, .data, .data, .data], laidTests := true, laidLooks := .later }
def OneshotNamesUptoCardSaid : Prop := Claim7.holds Tryz.pinned (.plain (OpenSpec.upto oneshotNamesSpec)) oneshotNamesUptoCard
end Rows
end Go.Proofs.YtmnpghdjdepelaaGreatDoor
