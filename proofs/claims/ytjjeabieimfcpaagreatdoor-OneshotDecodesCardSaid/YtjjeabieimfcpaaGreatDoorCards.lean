/-
  DERIVED. GIVEN WITH THE SEED: THE CARDS: each row of YtjjeabieimfcpaaGreatDoorRows.lean that lists a variable, with what it lists TIED to the program's text (the seventh form; the later family's looks); each row that meets fmt, with fmt's text TOLD by the authors' own Lean function (tested against real Go, not proved from fmt's source: count such statements apart). THE CARD IS WHAT COUNTS. Prove the row's statement (the work); the ties are given (YtjjeabieimfcpaaGreatDoorTie.lean); close each card by the builder's one call (the guide's Derived/Test/ToyasCard.lean, 'card_holds'). Laid BY PROGRAM, IN A SANDBOX (cutbox-door.mjs). By AI agents, Wed Nov 11 2026. No macro, syntax, notation, axiom, sorry.
-/
import Derived.Test.YtjjeabieimfcpaaGreatDoorRows
import GoSem.ClaimSeven
namespace Go.Proofs.YtjjeabieimfcpaaGreatDoor
namespace Rows

/-- THE TIED CARD OF 'cadenzalaw40.SeektoNames'. -/
def seektoNamesCard : Claim7 := { stood := { row := seektoNamesRow, standIns := [], harness := (true, "b981029e647e6a95ccad6740e0e1692c772e30fea0a730e98f85701d235fc3a6"), looks := false }, kinds := [], alts := [], laidByText := true, laidKinds := [.data, .data], laidTests := true, laidLooks := .later }
def SeektoNamesCardSaid : Prop := Claim7.holds Tryz.pinned (.plain (OpenSpec.ofChange seektoNamesSpec)) seektoNamesCard

/-- THE TIED CARD OF 'cadenzalaw44.DamageNames'. -/
def damageNamesCard : Claim7 := { stood := { row := damageNamesRow, standIns := [], harness := (true, "b981029e647e6a95ccad6740e0e1692c772e30fea0a730e98f85701d235fc3a6"), looks := false }, kinds := [], alts := [], laidByText := true, laidKinds := [.data, .data], laidTests := true, laidLooks := .later }
def DamageNamesCardSaid : Prop := Claim7.holds Tryz.pinned (.plain (OpenSpec.ofChange damageNamesSpec)) damageNamesCard

/-- THE TIED CARD OF 'cadenzalaw35.ValidClips'. -/
def validClipsCard : Claim7 := { stood := { row := validClipsRow, standIns := [], harness := (true, "b981029e647e6a95ccad6740e0e1692c772e30fea0a730e98f85701d235fc3a6"), looks := false }, kinds := [], alts := [], laidByText := true, laidKinds := [.data, .sentinel, .data, .widerDeep, .data], laidTests := true, laidLooks := .later }
def ValidClipsCardSaid : Prop := Claim7.holds Tryz.pinned (.plain (OpenSpec.ofChange validClipsSpec)) validClipsCard

/-- THE TIED CARD OF 'cadenzalaw42.OneshotDecodes'. -/
def oneshotDecodesCard : Claim7 := { stood := { row := oneshotDecodesRow, standIns := [], harness := (true, "b981029e647e6a95ccad6740e0e1692c772e30fea0a730e98f85701d235fc3a6"), looks := false }, kinds := [], alts := [], laidByText := true, laidKinds := [.data, .sentinel, .data, .widerDeep, .data, .data, .data], laidTests := true, laidLooks := .later }
def OneshotDecodesCardSaid : Prop := Claim7.holds Tryz.pinned (.plain (OpenSpec.ofChange oneshotDecodesSpec)) oneshotDecodesCard

/-- THE TIED CARD OF 'cadenzalaw42.OneshotWavs'. -/
def oneshotWavsCard : Claim7 := { stood := { row := oneshotWavsRow, standIns := [], harness := (true, "b981029e647e6a95ccad6740e0e1692c772e30fea0a730e98f85701d235fc3a6"), looks := false }, kinds := [], alts := [], laidByText := true, laidKinds := [.data, .sentinel, .data, .widerDeep, .data, .data, .data], laidTests := true, laidLooks := .later }
def OneshotWavsCardSaid : Prop := Claim7.holds Tryz.pinned (.plain (OpenSpec.ofChange oneshotWavsSpec)) oneshotWavsCard

/-- THE SECOND FORM's CARD OF 'cadenzalaw40.SeektoNames'. -/
def seektoNamesUptoCard : Claim7 := { stood := { row := seektoNamesUptoRow, standIns := [], harness := (true, "b981029e647e6a95ccad6740e0e1692c772e30fea0a730e98f85701d235fc3a6"), looks := false }, kinds := [], alts := [], laidByText := true, laidKinds := [.data, .data], laidTests := true, laidLooks := .later }
def SeektoNamesUptoCardSaid : Prop := Claim7.holds Tryz.pinned (.plain (OpenSpec.upto seektoNamesSpec)) seektoNamesUptoCard

/-- THE SECOND FORM's CARD OF 'cadenzalaw44.DamageNames'. -/
def damageNamesUptoCard : Claim7 := { stood := { row := damageNamesUptoRow, standIns := [], harness := (true, "b981029e647e6a95ccad6740e0e1692c772e30fea0a730e98f85701d235fc3a6"), looks := false }, kinds := [], alts := [], laidByText := true, laidKinds := [.data, .data], laidTests := true, laidLooks := .later }
def DamageNamesUptoCardSaid : Prop := Claim7.holds Tryz.pinned (.plain (OpenSpec.upto damageNamesSpec)) damageNamesUptoCard

/-- THE SECOND FORM's CARD OF 'cadenzalaw35.ValidClips'. -/
def validClipsUptoCard : Claim7 := { stood := { row := validClipsUptoRow, standIns := [], harness := (true, "b981029e647e6a95ccad6740e0e1692c772e30fea0a730e98f85701d235fc3a6"), looks := false }, kinds := [], alts := [], laidByText := true, laidKinds := [.data, .sentinel, .data, .widerDeep, .data], laidTests := true, laidLooks := .later }
def ValidClipsUptoCardSaid : Prop := Claim7.holds Tryz.pinned (.plain (OpenSpec.upto validClipsSpec)) validClipsUptoCard

/-- THE SECOND FORM's CARD OF 'cadenzalaw42.OneshotDecodes'. -/
def oneshotDecodesUptoCard : Claim7 := { stood := { row := oneshotDecodesUptoRow, standIns := [], harness := (true, "b981029e647e6a95ccad6740e0e1692c772e30fea0a730e98f85701d235fc3a6"), looks := false }, kinds := [], alts := [], laidByText := true, laidKinds := [.data, .sentinel, .data, .widerDeep, .data, .data, .data], laidTests := true, laidLooks := .later }
def OneshotDecodesUptoCardSaid : Prop := Claim7.holds Tryz.pinned (.plain (OpenSpec.upto oneshotDecodesSpec)) oneshotDecodesUptoCard

/-- THE SECOND FORM's CARD OF 'cadenzalaw42.OneshotWavs'. -/
def oneshotWavsUptoCard : Claim7 := { stood := { row := oneshotWavsUptoRow, standIns := [], harness := (true, "b981029e647e6a95ccad6740e0e1692c772e30fea0a730e98f85701d235fc3a6"), looks := false }, kinds := [], alts := [], laidByText := true, laidKinds := [.data, .sentinel, .data, .widerDeep, .data, .data, .data], laidTests := true, laidLooks := .later }
def OneshotWavsUptoCardSaid : Prop := Claim7.holds Tryz.pinned (.plain (OpenSpec.upto oneshotWavsSpec)) oneshotWavsUptoCard
end Rows
end Go.Proofs.YtjjeabieimfcpaaGreatDoor
