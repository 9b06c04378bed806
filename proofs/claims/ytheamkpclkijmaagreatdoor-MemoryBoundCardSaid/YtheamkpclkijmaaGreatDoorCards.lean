/-
  DERIVED. GIVEN WITH THE SEED: THE CARDS: each row of YtheamkpclkijmaaGreatDoorRows.lean that lists a variable, with what it lists TIED to the program's text (the seventh form; the later family's looks); each row that meets fmt, with fmt's text TOLD by the authors' own Lean function (tested against real Go, not proved from fmt's source: count such statements apart). THE CARD IS WHAT COUNTS. Prove the row's statement (the work); the ties are given (YtheamkpclkijmaaGreatDoorTie.lean); close each card by the builder's one call (the guide's Derived/Test/ToyasCard.lean, 'card_holds'). Laid BY PROGRAM, IN A SANDBOX (cutbox-door.mjs). By AI agents, Wed Nov 11 2026. No macro, syntax, notation, axiom, sorry.
-/
import Derived.Test.YtheamkpclkijmaaGreatDoorRows
import GoSem.ClaimSeven
namespace Go.Proofs.YtheamkpclkijmaaGreatDoor
namespace Rows

/-- THE TIED CARD OF 'cadenzalaw38.ScriptSays'. -/
def scriptSaysCard : Claim7 := { stood := { row := scriptSaysRow, standIns := [], harness := (true, "ecde94e49eec4eb1347638b1173196a83478c340bd9711dd5bc7e16c625e6d2a"), looks := false }, kinds := [], alts := [], laidByText := true, laidKinds := [.data, .data, .data, .data], laidTests := true, laidLooks := .later }
def ScriptSaysCardSaid : Prop := Claim7.holds Tryz.pinned (.plain (OpenSpec.ofChange scriptSaysSpec)) scriptSaysCard

/-- THE TIED CARD OF 'cadenzalaw43.MemoryDrains'. -/
def memoryDrainsCard : Claim7 := { stood := { row := memoryDrainsRow, standIns := [], harness := (true, "ecde94e49eec4eb1347638b1173196a83478c340bd9711dd5bc7e16c625e6d2a"), looks := false }, kinds := [], alts := [], laidByText := true, laidKinds := [.data, .data, .data, .data], laidTests := true, laidLooks := .later }
def MemoryDrainsCardSaid : Prop := Claim7.holds Tryz.pinned (.plain (OpenSpec.ofChange memoryDrainsSpec)) memoryDrainsCard

/-- THE TIED CARD OF 'cadenzalaw43.MemoryBound'. -/
def memoryBoundCard : Claim7 := { stood := { row := memoryBoundRow, standIns := [], harness := (true, "ecde94e49eec4eb1347638b1173196a83478c340bd9711dd5bc7e16c625e6d2a"), looks := false }, kinds := [], alts := [], laidByText := true, laidKinds := [.data, .data, .data, .data], laidTests := true, laidLooks := .later }
def MemoryBoundCardSaid : Prop := Claim7.holds Tryz.pinned (.plain (OpenSpec.ofChange memoryBoundSpec)) memoryBoundCard

/-- THE TIED CARD OF 'cadenzalaw38.ScriptEven'. -/
def scriptEvenCard : Claim7 := { stood := { row := scriptEvenRow, standIns := [], harness := (true, "ecde94e49eec4eb1347638b1173196a83478c340bd9711dd5bc7e16c625e6d2a"), looks := false }, kinds := [], alts := [], laidByText := true, laidKinds := [.data, .data, .data, .data], laidTests := true, laidLooks := .later }
def ScriptEvenCardSaid : Prop := Claim7.holds Tryz.pinned (.plain (OpenSpec.ofChange scriptEvenSpec)) scriptEvenCard

/-- THE SECOND FORM's CARD OF 'cadenzalaw38.ScriptSays'. -/
def scriptSaysUptoCard : Claim7 := { stood := { row := scriptSaysUptoRow, standIns := [], harness := (true, "ecde94e49eec4eb1347638b1173196a83478c340bd9711dd5bc7e16c625e6d2a"), looks := false }, kinds := [], alts := [], laidByText := true, laidKinds := [.data, .data, .data, .data], laidTests := true, laidLooks := .later }
def ScriptSaysUptoCardSaid : Prop := Claim7.holds Tryz.pinned (.plain (OpenSpec.upto scriptSaysSpec)) scriptSaysUptoCard

/-- THE SECOND FORM's CARD OF 'cadenzalaw43.MemoryDrains'. -/
def memoryDrainsUptoCard : Claim7 := { stood := { row := memoryDrainsUptoRow, standIns := [], harness := (true, "ecde94e49eec4eb1347638b1173196a83478c340bd9711dd5bc7e16c625e6d2a"), looks := false }, kinds := [], alts := [], laidByText := true, laidKinds := [.data, .data, .data, .data], laidTests := true, laidLooks := .later }
def MemoryDrainsUptoCardSaid : Prop := Claim7.holds Tryz.pinned (.plain (OpenSpec.upto memoryDrainsSpec)) memoryDrainsUptoCard

/-- THE SECOND FORM's CARD OF 'cadenzalaw43.MemoryBound'. -/
def memoryBoundUptoCard : Claim7 := { stood := { row := memoryBoundUptoRow, standIns := [], harness := (true, "ecde94e49eec4eb1347638b1173196a83478c340bd9711dd5bc7e16c625e6d2a"), looks := false }, kinds := [], alts := [], laidByText := true, laidKinds := [.data, .data, .data, .data], laidTests := true, laidLooks := .later }
def MemoryBoundUptoCardSaid : Prop := Claim7.holds Tryz.pinned (.plain (OpenSpec.upto memoryBoundSpec)) memoryBoundUptoCard

/-- THE SECOND FORM's CARD OF 'cadenzalaw38.ScriptEven'. -/
def scriptEvenUptoCard : Claim7 := { stood := { row := scriptEvenUptoRow, standIns := [], harness := (true, "ecde94e49eec4eb1347638b1173196a83478c340bd9711dd5bc7e16c625e6d2a"), looks := false }, kinds := [], alts := [], laidByText := true, laidKinds := [.data, .data, .data, .data], laidTests := true, laidLooks := .later }
def ScriptEvenUptoCardSaid : Prop := Claim7.holds Tryz.pinned (.plain (OpenSpec.upto scriptEvenSpec)) scriptEvenUptoCard
end Rows
end Go.Proofs.YtheamkpclkijmaaGreatDoor
