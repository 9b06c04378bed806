/-
  DERIVED. GIVEN WITH THE SEED: THE CARDS: each row of YtnoflhhhiiaclaaGreatDoorRows.lean that lists a variable, with what it lists TIED to the program's text (the seventh form; the later family's looks); each row that meets fmt, with fmt's text TOLD by the authors' own Lean function (tested against real Go, not proved from fmt's source: count such statements apart). THE CARD IS WHAT COUNTS. Prove the row's statement (the work); the ties are given (YtnoflhhhiiaclaaGreatDoorTie.lean); close each card by the builder's one call (the guide's Derived/Test/ToyasCard.lean, 'card_holds'). Laid BY PROGRAM, IN A SANDBOX (cutbox-door.mjs). By AI agents, Wed Nov 11 2026. No macro, syntax, notation, axiom, sorry.
-/
import Derived.Test.YtnoflhhhiiaclaaGreatDoorRows
import GoSem.ClaimSeven
namespace Go.Proofs.YtnoflhhhiiaclaaGreatDoor
namespace Rows

/-- THE TIED CARD OF 'cadenzalaw37.PushdecChecks'. -/
def pushdecChecksCard : Claim7 := { stood := { row := pushdecChecksRow, standIns := [], harness := (true, "852e0b1a53d63c2206b835c307a35786591231a42a7f9a387dbd463a6e0db748"), looks := false }, kinds := [], alts := [], laidByText := true, laidKinds := [.data, .data, .data, .data], laidTests := true, laidLooks := .later }
def PushdecChecksCardSaid : Prop := Claim7.holds Tryz.pinned (.plain (OpenSpec.ofChange pushdecChecksSpec)) pushdecChecksCard

/-- THE TIED CARD OF 'cadenzalaw37.PushdecSteps'. -/
def pushdecStepsCard : Claim7 := { stood := { row := pushdecStepsRow, standIns := [], harness := (true, "852e0b1a53d63c2206b835c307a35786591231a42a7f9a387dbd463a6e0db748"), looks := false }, kinds := [], alts := [], laidByText := true, laidKinds := [.data, .data, .data, .data], laidTests := true, laidLooks := .later }
def PushdecStepsCardSaid : Prop := Claim7.holds Tryz.pinned (.plain (OpenSpec.ofChange pushdecStepsSpec)) pushdecStepsCard

/-- THE TIED CARD OF 'cadenzalaw35.ValidClips'. -/
def validClipsCard : Claim7 := { stood := { row := validClipsRow, standIns := [], harness := (true, "852e0b1a53d63c2206b835c307a35786591231a42a7f9a387dbd463a6e0db748"), looks := false }, kinds := [], alts := [], laidByText := true, laidKinds := [.data, .sentinel, .data, .widerDeep, .data], laidTests := true, laidLooks := .later }
def ValidClipsCardSaid : Prop := Claim7.holds Tryz.pinned (.plain (OpenSpec.ofChange validClipsSpec)) validClipsCard

/-- THE TIED CARD OF 'cadenzalaw43.MemoryTells'. -/
def memoryTellsCard : Claim7 := { stood := { row := memoryTellsRow, standIns := [], harness := (true, "852e0b1a53d63c2206b835c307a35786591231a42a7f9a387dbd463a6e0db748"), looks := false }, kinds := [], alts := [], laidByText := true, laidKinds := [.data, .data, .data, .data], laidTests := true, laidLooks := .later }
def MemoryTellsCardSaid : Prop := Claim7.holds Tryz.pinned (.plain (OpenSpec.ofChange memoryTellsSpec)) memoryTellsCard

/-- THE SECOND FORM's CARD OF 'cadenzalaw37.PushdecChecks'. -/
def pushdecChecksUptoCard : Claim7 := { stood := { row := pushdecChecksUptoRow, standIns := [], harness := (true, "852e0b1a53d63c2206b835c307a35786591231a42a7f9a387dbd463a6e0db748"), looks := false }, kinds := [], alts := [], laidByText := true, laidKinds := [.data, .data, .data, .data], laidTests := true, laidLooks := .later }
def PushdecChecksUptoCardSaid : Prop := Claim7.holds Tryz.pinned (.plain (OpenSpec.upto pushdecChecksSpec)) pushdecChecksUptoCard

/-- THE SECOND FORM's CARD OF 'cadenzalaw37.PushdecSteps'. -/
def pushdecStepsUptoCard : Claim7 := { stood := { row := pushdecStepsUptoRow, standIns := [], harness := (true, "852e0b1a53d63c2206b835c307a35786591231a42a7f9a387dbd463a6e0db748"), looks := false }, kinds := [], alts := [], laidByText := true, laidKinds := [.data, .data, .data, .data], laidTests := true, laidLooks := .later }
def PushdecStepsUptoCardSaid : Prop := Claim7.holds Tryz.pinned (.plain (OpenSpec.upto pushdecStepsSpec)) pushdecStepsUptoCard

/-- THE SECOND FORM's CARD OF 'cadenzalaw35.ValidClips'. -/
def validClipsUptoCard : Claim7 := { stood := { row := validClipsUptoRow, standIns := [], harness := (true, "852e0b1a53d63c2206b835c307a35786591231a42a7f9a387dbd463a6e0db748"), looks := false }, kinds := [], alts := [], laidByText := true, laidKinds := [.data, .sentinel, .data, .widerDeep, .data], laidTests := true, laidLooks := .later }
def ValidClipsUptoCardSaid : Prop := Claim7.holds Tryz.pinned (.plain (OpenSpec.upto validClipsSpec)) validClipsUptoCard

/-- THE SECOND FORM's CARD OF 'cadenzalaw43.MemoryTells'. -/
def memoryTellsUptoCard : Claim7 := { stood := { row := memoryTellsUptoRow, standIns := [], harness := (true, "852e0b1a53d63c2206b835c307a35786591231a42a7f9a387dbd463a6e0db748"), looks := false }, kinds := [], alts := [], laidByText := true, laidKinds := [.data, .data, .data, .data], laidTests := true, laidLooks := .later }
def MemoryTellsUptoCardSaid : Prop := Claim7.holds Tryz.pinned (.plain (OpenSpec.upto memoryTellsSpec)) memoryTellsUptoCard
end Rows
end Go.Proofs.YtnoflhhhiiaclaaGreatDoor
