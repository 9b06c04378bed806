/-
  DERIVED. GIVEN WITH THE SEED: THE CARDS: each row of YthkblcgadmdkgaaGreatDoorRows.lean that lists a variable, with what it lists TIED to the program's text (the seventh form; the later family's looks); each row that meets fmt, with fmt's text TOLD by the authors' own Lean function (tested against real Go, not proved from fmt's source: count such statements apart). THE CARD IS WHAT COUNTS. Prove the row's statement (the work); the ties are given (YthkblcgadmdkgaaGreatDoorTie.lean); close each card by the builder's one call (the guide's Derived/Test/ToyasCard.lean, 'card_holds'). Laid BY PROGRAM, IN A SANDBOX (cutbox-door.mjs). By AI agents, Wed Nov 11 2026. No macro, syntax, notation, axiom, sorry.
-/
import Derived.Test.YthkblcgadmdkgaaGreatDoorRows
import GoSem.ClaimSeven
namespace Go.Proofs.YthkblcgadmdkgaaGreatDoor
namespace Rows

/-- THE TIED CARD OF 'cadenzalaw37.PushdecChecks'. -/
def pushdecChecksCard : Claim7 := { stood := { row := pushdecChecksRow, standIns := [], harness := (true, "d235f32e89d7815f2e6e982eda038b6b6c5d61998920cf7d1a384fcbecd60898"), looks := false }, kinds := [], alts := [], laidByText := true, laidKinds := [.data, .data, .data, .data], laidTests := true, laidLooks := .later }
def PushdecChecksCardSaid : Prop := Claim7.holds Tryz.pinned (.plain (OpenSpec.ofChange pushdecChecksSpec)) pushdecChecksCard

/-- THE TIED CARD OF 'cadenzalaw37.PushdecSteps'. -/
def pushdecStepsCard : Claim7 := { stood := { row := pushdecStepsRow, standIns := [], harness := (true, "d235f32e89d7815f2e6e982eda038b6b6c5d61998920cf7d1a384fcbecd60898"), looks := false }, kinds := [], alts := [], laidByText := true, laidKinds := [.data, .data, .data, .data], laidTests := true, laidLooks := .later }
def PushdecStepsCardSaid : Prop := Claim7.holds Tryz.pinned (.plain (OpenSpec.ofChange pushdecStepsSpec)) pushdecStepsCard

/-- THE TIED CARD OF 'cadenzalaw44.DamageTells'. -/
def damageTellsCard : Claim7 := { stood := { row := damageTellsRow, standIns := [], harness := (true, "d235f32e89d7815f2e6e982eda038b6b6c5d61998920cf7d1a384fcbecd60898"), looks := false }, kinds := [], alts := [], laidByText := true, laidKinds := [.data, .data], laidTests := true, laidLooks := .later }
def DamageTellsCardSaid : Prop := Claim7.holds Tryz.pinned (.plain (OpenSpec.ofChange damageTellsSpec)) damageTellsCard

/-- THE TIED CARD OF 'cadenzalaw35.ValidClips'. -/
def validClipsCard : Claim7 := { stood := { row := validClipsRow, standIns := [], harness := (true, "d235f32e89d7815f2e6e982eda038b6b6c5d61998920cf7d1a384fcbecd60898"), looks := false }, kinds := [], alts := [], laidByText := true, laidKinds := [.data, .sentinel, .data, .widerDeep, .data], laidTests := true, laidLooks := .later }
def ValidClipsCardSaid : Prop := Claim7.holds Tryz.pinned (.plain (OpenSpec.ofChange validClipsSpec)) validClipsCard

/-- THE SECOND FORM's CARD OF 'cadenzalaw37.PushdecChecks'. -/
def pushdecChecksUptoCard : Claim7 := { stood := { row := pushdecChecksUptoRow, standIns := [], harness := (true, "d235f32e89d7815f2e6e982eda038b6b6c5d61998920cf7d1a384fcbecd60898"), looks := false }, kinds := [], alts := [], laidByText := true, laidKinds := [.data, .data, .data, .data], laidTests := true, laidLooks := .later }
def PushdecChecksUptoCardSaid : Prop := Claim7.holds Tryz.pinned (.plain (OpenSpec.upto pushdecChecksSpec)) pushdecChecksUptoCard

/-- THE SECOND FORM's CARD OF 'cadenzalaw37.PushdecSteps'. -/
def pushdecStepsUptoCard : Claim7 := { stood := { row := pushdecStepsUptoRow, standIns := [], harness := (true, "d235f32e89d7815f2e6e982eda038b6b6c5d61998920cf7d1a384fcbecd60898"), looks := false }, kinds := [], alts := [], laidByText := true, laidKinds := [.data, .data, .data, .data], laidTests := true, laidLooks := .later }
def PushdecStepsUptoCardSaid : Prop := Claim7.holds Tryz.pinned (.plain (OpenSpec.upto pushdecStepsSpec)) pushdecStepsUptoCard

/-- THE SECOND FORM's CARD OF 'cadenzalaw44.DamageTells'. -/
def damageTellsUptoCard : Claim7 := { stood := { row := damageTellsUptoRow, standIns := [], harness := (true, "d235f32e89d7815f2e6e982eda038b6b6c5d61998920cf7d1a384fcbecd60898"), looks := false }, kinds := [], alts := [], laidByText := true, laidKinds := [.data, .data], laidTests := true, laidLooks := .later }
def DamageTellsUptoCardSaid : Prop := Claim7.holds Tryz.pinned (.plain (OpenSpec.upto damageTellsSpec)) damageTellsUptoCard

/-- THE SECOND FORM's CARD OF 'cadenzalaw35.ValidClips'. -/
def validClipsUptoCard : Claim7 := { stood := { row := validClipsUptoRow, standIns := [], harness := (true, "d235f32e89d7815f2e6e982eda038b6b6c5d61998920cf7d1a384fcbecd60898"), looks := false }, kinds := [], alts := [], laidByText := true, laidKinds := [.data, .sentinel, .data, .widerDeep, .data], laidTests := true, laidLooks := .later }
def ValidClipsUptoCardSaid : Prop := Claim7.holds Tryz.pinned (.plain (OpenSpec.upto validClipsSpec)) validClipsUptoCard
end Rows
end Go.Proofs.YthkblcgadmdkgaaGreatDoor
