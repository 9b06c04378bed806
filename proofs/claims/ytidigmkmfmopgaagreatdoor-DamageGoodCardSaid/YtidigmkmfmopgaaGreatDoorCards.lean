/-
  DERIVED. GIVEN WITH THE SEED: THE CARDS: each row of YtidigmkmfmopgaaGreatDoorRows.lean that lists a variable, with what it lists TIED to the program's text (the seventh form; the later family's looks); each row that meets fmt, with fmt's text TOLD by the authors' own Lean function (tested against real Go, not proved from fmt's source: count such statements apart). THE CARD IS WHAT COUNTS. Prove the row's statement (the work); the ties are given (YtidigmkmfmopgaaGreatDoorTie.lean); close each card by the builder's one call (the guide's Derived/Test/ToyasCard.lean, 'card_holds'). Laid BY PROGRAM, IN A SANDBOX (cutbox-door.mjs). By AI agents, Wed Nov 11 2026. No macro, syntax, notation, axiom, sorry.
-/
import Derived.Test.YtidigmkmfmopgaaGreatDoorRows
import GoSem.ClaimSeven
namespace Go.Proofs.YtidigmkmfmopgaaGreatDoor
namespace Rows

/-- THE TIED CARD OF 'cadenzalaw40.SeektoOthers'. -/
def seektoOthersCard : Claim7 := { stood := { row := seektoOthersRow, standIns := [], harness := (true, "4ac859ff1f194074e5a7b95d936d8d5ce33c3457a923fc85654f629d2d53c04a"), looks := false }, kinds := [], alts := [], laidByText := true, laidKinds := [.data, .data], laidTests := true, laidLooks := .later }
def SeektoOthersCardSaid : Prop := Claim7.holds Tryz.pinned (.plain (OpenSpec.ofChange seektoOthersSpec)) seektoOthersCard

/-- THE TIED CARD OF 'cadenzalaw37.PushdecFrames'. -/
def pushdecFramesCard : Claim7 := { stood := { row := pushdecFramesRow, standIns := [], harness := (true, "4ac859ff1f194074e5a7b95d936d8d5ce33c3457a923fc85654f629d2d53c04a"), looks := false }, kinds := [], alts := [], laidByText := true, laidKinds := [.data, .data, .data, .data], laidTests := true, laidLooks := .later }
def PushdecFramesCardSaid : Prop := Claim7.holds Tryz.pinned (.plain (OpenSpec.ofChange pushdecFramesSpec)) pushdecFramesCard

/-- THE TIED CARD OF 'cadenzalaw41.PolicyOthers'. -/
def policyOthersCard : Claim7 := { stood := { row := policyOthersRow, standIns := [], harness := (true, "4ac859ff1f194074e5a7b95d936d8d5ce33c3457a923fc85654f629d2d53c04a"), looks := false }, kinds := [], alts := [], laidByText := true, laidKinds := [.data, .data], laidTests := true, laidLooks := .later }
def PolicyOthersCardSaid : Prop := Claim7.holds Tryz.pinned (.plain (OpenSpec.ofChange policyOthersSpec)) policyOthersCard

/-- THE TIED CARD OF 'cadenzalaw44.DamageFound'. -/
def damageFoundCard : Claim7 := { stood := { row := damageFoundRow, standIns := [], harness := (true, "4ac859ff1f194074e5a7b95d936d8d5ce33c3457a923fc85654f629d2d53c04a"), looks := false }, kinds := [], alts := [], laidByText := true, laidKinds := [.data, .data], laidTests := true, laidLooks := .later }
def DamageFoundCardSaid : Prop := Claim7.holds Tryz.pinned (.plain (OpenSpec.ofChange damageFoundSpec)) damageFoundCard

/-- THE TIED CARD OF 'cadenzalaw44.DamageGood'. -/
def damageGoodCard : Claim7 := { stood := { row := damageGoodRow, standIns := [], harness := (true, "4ac859ff1f194074e5a7b95d936d8d5ce33c3457a923fc85654f629d2d53c04a"), looks := false }, kinds := [], alts := [], laidByText := true, laidKinds := [.data, .data, .data, .data], laidTests := true, laidLooks := .later }
def DamageGoodCardSaid : Prop := Claim7.holds Tryz.pinned (.plain (OpenSpec.ofChange damageGoodSpec)) damageGoodCard

/-- THE SECOND FORM's CARD OF 'cadenzalaw40.SeektoOthers'. -/
def seektoOthersUptoCard : Claim7 := { stood := { row := seektoOthersUptoRow, standIns := [], harness := (true, "4ac859ff1f194074e5a7b95d936d8d5ce33c3457a923fc85654f629d2d53c04a"), looks := false }, kinds := [], alts := [], laidByText := true, laidKinds := [.data, .data], laidTests := true, laidLooks := .later }
def SeektoOthersUptoCardSaid : Prop := Claim7.holds Tryz.pinned (.plain (OpenSpec.upto seektoOthersSpec)) seektoOthersUptoCard

/-- THE SECOND FORM's CARD OF 'cadenzalaw37.PushdecFrames'. -/
def pushdecFramesUptoCard : Claim7 := { stood := { row := pushdecFramesUptoRow, standIns := [], harness := (true, "4ac859ff1f194074e5a7b95d936d8d5ce33c3457a923fc85654f629d2d53c04a"), looks := false }, kinds := [], alts := [], laidByText := true, laidKinds := [.data, .data, .data, .data], laidTests := true, laidLooks := .later }
def PushdecFramesUptoCardSaid : Prop := Claim7.holds Tryz.pinned (.plain (OpenSpec.upto pushdecFramesSpec)) pushdecFramesUptoCard

/-- THE SECOND FORM's CARD OF 'cadenzalaw41.PolicyOthers'. -/
def policyOthersUptoCard : Claim7 := { stood := { row := policyOthersUptoRow, standIns := [], harness := (true, "4ac859ff1f194074e5a7b95d936d8d5ce33c3457a923fc85654f629d2d53c04a"), looks := false }, kinds := [], alts := [], laidByText := true, laidKinds := [.data, .data], laidTests := true, laidLooks := .later }
def PolicyOthersUptoCardSaid : Prop := Claim7.holds Tryz.pinned (.plain (OpenSpec.upto policyOthersSpec)) policyOthersUptoCard

/-- THE SECOND FORM's CARD OF 'cadenzalaw44.DamageFound'. -/
def damageFoundUptoCard : Claim7 := { stood := { row := damageFoundUptoRow, standIns := [], harness := (true, "4ac859ff1f194074e5a7b95d936d8d5ce33c3457a923fc85654f629d2d53c04a"), looks := false }, kinds := [], alts := [], laidByText := true, laidKinds := [.data, .data], laidTests := true, laidLooks := .later }
def DamageFoundUptoCardSaid : Prop := Claim7.holds Tryz.pinned (.plain (OpenSpec.upto damageFoundSpec)) damageFoundUptoCard

/-- THE SECOND FORM's CARD OF 'cadenzalaw44.DamageGood'. -/
def damageGoodUptoCard : Claim7 := { stood := { row := damageGoodUptoRow, standIns := [], harness := (true, "4ac859ff1f194074e5a7b95d936d8d5ce33c3457a923fc85654f629d2d53c04a"), looks := false }, kinds := [], alts := [], laidByText := true, laidKinds := [.data, .data, .data, .data], laidTests := true, laidLooks := .later }
def DamageGoodUptoCardSaid : Prop := Claim7.holds Tryz.pinned (.plain (OpenSpec.upto damageGoodSpec)) damageGoodUptoCard
end Rows
end Go.Proofs.YtidigmkmfmopgaaGreatDoor
