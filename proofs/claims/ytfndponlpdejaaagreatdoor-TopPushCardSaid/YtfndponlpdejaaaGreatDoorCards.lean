/-
  DERIVED. GIVEN WITH THE SEED: THE CARDS: each row of YtfndponlpdejaaaGreatDoorRows.lean that lists a variable, with what it lists TIED to the program's text (the seventh form; the later family's looks); each row that meets fmt, with fmt's text TOLD by the authors' own Lean function (tested against real Go, not proved from fmt's source: count such statements apart). THE CARD IS WHAT COUNTS. Prove the row's statement (the work); the ties are given (YtfndponlpdejaaaGreatDoorTie.lean); close each card by the builder's one call (the guide's Derived/Test/ToyasCard.lean, 'card_holds'). Laid BY PROGRAM, IN A SANDBOX (cutbox-door.mjs). By AI agents, Wed Nov 11 2026. No macro, syntax, notation, axiom, sorry.
-/
import Derived.Test.YtfndponlpdejaaaGreatDoorRows
import GoSem.ClaimSeven
namespace Go.Proofs.YtfndponlpdejaaaGreatDoor
namespace Rows

/-- THE TIED CARD OF 'cadenzatop.TopPush'. -/
def topPushCard : Claim7 := { stood := { row := topPushRow, standIns := [], harness := (true, "080867d855614c87d4ab21f7d46cf449422a0d8017f4def4e4b1c337d002c641"), looks := false }, kinds := [], alts := [], laidByText := true, laidKinds := [.data, .data, .data, .data], laidTests := true, laidLooks := .later }
def TopPushCardSaid : Prop := Claim7.holds Tryz.pinned (.plain (OpenSpec.ofChange topPushSpec)) topPushCard

/-- THE TIED CARD OF 'cadenzalaw43.MemoryPeaks'. -/
def memoryPeaksCard : Claim7 := { stood := { row := memoryPeaksRow, standIns := [], harness := (true, "080867d855614c87d4ab21f7d46cf449422a0d8017f4def4e4b1c337d002c641"), looks := false }, kinds := [], alts := [], laidByText := true, laidKinds := [.data, .data, .data, .data], laidTests := true, laidLooks := .later }
def MemoryPeaksCardSaid : Prop := Claim7.holds Tryz.pinned (.plain (OpenSpec.ofChange memoryPeaksSpec)) memoryPeaksCard

/-- THE TIED CARD OF 'cadenzalaw42.OneshotNames'. -/
def oneshotNamesCard : Claim7 := { stood := { row := oneshotNamesRow, standIns := [], harness := (true, "080867d855614c87d4ab21f7d46cf449422a0d8017f4def4e4b1c337d002c641"), looks := false }, kinds := [], alts := [], laidByText := true, laidKinds := [.data, .sentinel, .data, .widerDeep, .data, .data, .data], laidTests := true, laidLooks := .later }
def OneshotNamesCardSaid : Prop := Claim7.holds Tryz.pinned (.plain (OpenSpec.ofChange oneshotNamesSpec)) oneshotNamesCard

/-- THE SECOND FORM's CARD OF 'cadenzatop.TopPush'. -/
def topPushUptoCard : Claim7 := { stood := { row := topPushUptoRow, standIns := [], harness := (true, "080867d855614c87d4ab21f7d46cf449422a0d8017f4def4e4b1c337d002c641"), looks := false }, kinds := [], alts := [], laidByText := true, laidKinds := [.data, .data, .data, .data], laidTests := true, laidLooks := .later }
def TopPushUptoCardSaid : Prop := Claim7.holds Tryz.pinned (.plain (OpenSpec.upto topPushSpec)) topPushUptoCard

/-- THE SECOND FORM's CARD OF 'cadenzalaw43.MemoryPeaks'. -/
def memoryPeaksUptoCard : Claim7 := { stood := { row := memoryPeaksUptoRow, standIns := [], harness := (true, "080867d855614c87d4ab21f7d46cf449422a0d8017f4def4e4b1c337d002c641"), looks := false }, kinds := [], alts := [], laidByText := true, laidKinds := [.data, .data, .data, .data], laidTests := true, laidLooks := .later }
def MemoryPeaksUptoCardSaid : Prop := Claim7.holds Tryz.pinned (.plain (OpenSpec.upto memoryPeaksSpec)) memoryPeaksUptoCard

/-- THE SECOND FORM's CARD OF 'cadenzalaw42.OneshotNames'. -/
def oneshotNamesUptoCard : Claim7 := { stood := { row := oneshotNamesUptoRow, standIns := [], harness := (true, "080867d855614c87d4ab21f7d46cf449422a0d8017f4def4e4b1c337d002c641"), looks := false }, kinds := [], alts := [], laidByText := true, laidKinds := [.data, .sentinel, .data, .widerDeep, .data, .data, .data], laidTests := true, laidLooks := .later }
def OneshotNamesUptoCardSaid : Prop := Claim7.holds Tryz.pinned (.plain (OpenSpec.upto oneshotNamesSpec)) oneshotNamesUptoCard
end Rows
end Go.Proofs.YtfndponlpdejaaaGreatDoor
