/-
  DERIVED. GIVEN WITH THE SEED: THE CARDS: each row of YthchpoekjnapnaaGreatDoorRows.lean that lists a variable, with what it lists TIED to the program's text (the seventh form; the later family's looks); each row that meets fmt, with fmt's text TOLD by the authors' own Lean function (tested against real Go, not proved from fmt's source: count such statements apart). THE CARD IS WHAT COUNTS. Prove the row's statement (the work); the ties are given (YthchpoekjnapnaaGreatDoorTie.lean); close each card by the builder's one call (the guide's Derived/Test/ToyasCard.lean, 'card_holds'). Laid BY PROGRAM, IN A SANDBOX (cutbox-door.mjs). By AI agents, Wed Nov 11 2026. No macro, syntax, notation, axiom, sorry.
-/
import Derived.Test.YthchpoekjnapnaaGreatDoorRows
import GoSem.ClaimSeven
namespace Go.Proofs.YthchpoekjnapnaaGreatDoor
namespace Rows

/-- THE TIED CARD OF 'cadenzalaw40.SeektoOpens'. -/
def seektoOpensCard : Claim7 := { stood := { row := seektoOpensRow, standIns := [], harness := (true, "9120c41f71ecb88f23f6a3da1ca1530d35cf8f567045d69e20b3844548258f7a"), looks := false }, kinds := [], alts := [], laidByText := true, laidKinds := [.data, .data], laidTests := true, laidLooks := .later }
def SeektoOpensCardSaid : Prop := Claim7.holds Tryz.pinned (.plain (OpenSpec.ofChange seektoOpensSpec)) seektoOpensCard

/-- THE TIED CARD OF 'cadenzalaw41.PolicyBads'. -/
def policyBadsCard : Claim7 := { stood := { row := policyBadsRow, standIns := [], harness := (true, "9120c41f71ecb88f23f6a3da1ca1530d35cf8f567045d69e20b3844548258f7a"), looks := false }, kinds := [], alts := [], laidByText := true, laidKinds := [.data, .data], laidTests := true, laidLooks := .later }
def PolicyBadsCardSaid : Prop := Claim7.holds Tryz.pinned (.plain (OpenSpec.ofChange policyBadsSpec)) policyBadsCard

/-- THE TIED CARD OF 'cadenzalaw40.SeektoGoes'. -/
def seektoGoesCard : Claim7 := { stood := { row := seektoGoesRow, standIns := [], harness := (true, "9120c41f71ecb88f23f6a3da1ca1530d35cf8f567045d69e20b3844548258f7a"), looks := false }, kinds := [], alts := [], laidByText := true, laidKinds := [.data, .data], laidTests := true, laidLooks := .later }
def SeektoGoesCardSaid : Prop := Claim7.holds Tryz.pinned (.plain (OpenSpec.ofChange seektoGoesSpec)) seektoGoesCard

/-- THE TIED CARD OF 'cadenzalaw41.PolicyDecodes'. -/
def policyDecodesCard : Claim7 := { stood := { row := policyDecodesRow, standIns := [], harness := (true, "9120c41f71ecb88f23f6a3da1ca1530d35cf8f567045d69e20b3844548258f7a"), looks := false }, kinds := [], alts := [], laidByText := true, laidKinds := [.data, .data], laidTests := true, laidLooks := .later }
def PolicyDecodesCardSaid : Prop := Claim7.holds Tryz.pinned (.plain (OpenSpec.ofChange policyDecodesSpec)) policyDecodesCard

/-- THE SECOND FORM's CARD OF 'cadenzalaw40.SeektoOpens'. -/
def seektoOpensUptoCard : Claim7 := { stood := { row := seektoOpensUptoRow, standIns := [], harness := (true, "9120c41f71ecb88f23f6a3da1ca1530d35cf8f567045d69e20b3844548258f7a"), looks := false }, kinds := [], alts := [], laidByText := true, laidKinds := [.data, .data], laidTests := true, laidLooks := .later }
def SeektoOpensUptoCardSaid : Prop := Claim7.holds Tryz.pinned (.plain (OpenSpec.upto seektoOpensSpec)) seektoOpensUptoCard

/-- THE SECOND FORM's CARD OF 'cadenzalaw41.PolicyBads'. -/
def policyBadsUptoCard : Claim7 := { stood := { row := policyBadsUptoRow, standIns := [], harness := (true, "9120c41f71ecb88f23f6a3da1ca1530d35cf8f567045d69e20b3844548258f7a"), looks := false }, kinds := [], alts := [], laidByText := true, laidKinds := [.data, .data], laidTests := true, laidLooks := .later }
def PolicyBadsUptoCardSaid : Prop := Claim7.holds Tryz.pinned (.plain (OpenSpec.upto policyBadsSpec)) policyBadsUptoCard

/-- THE SECOND FORM's CARD OF 'cadenzalaw40.SeektoGoes'. -/
def seektoGoesUptoCard : Claim7 := { stood := { row := seektoGoesUptoRow, standIns := [], harness := (true, "9120c41f71ecb88f23f6a3da1ca1530d35cf8f567045d69e20b3844548258f7a"), looks := false }, kinds := [], alts := [], laidByText := true, laidKinds := [.data, .data], laidTests := true, laidLooks := .later }
def SeektoGoesUptoCardSaid : Prop := Claim7.holds Tryz.pinned (.plain (OpenSpec.upto seektoGoesSpec)) seektoGoesUptoCard

/-- THE SECOND FORM's CARD OF 'cadenzalaw41.PolicyDecodes'. -/
def policyDecodesUptoCard : Claim7 := { stood := { row := policyDecodesUptoRow, standIns := [], harness := (true, "9120c41f71ecb88f23f6a3da1ca1530d35cf8f567045d69e20b3844548258f7a"), looks := false }, kinds := [], alts := [], laidByText := true, laidKinds := [.data, .data], laidTests := true, laidLooks := .later }
def PolicyDecodesUptoCardSaid : Prop := Claim7.holds Tryz.pinned (.plain (OpenSpec.upto policyDecodesSpec)) policyDecodesUptoCard
end Rows
end Go.Proofs.YthchpoekjnapnaaGreatDoor
