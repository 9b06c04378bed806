/-
  DERIVED. GIVEN WITH THE SEED: THE CARDS: each row of YtniihmolajmfcaaGreatDoorRows.lean that lists a variable, with what it lists TIED to the program's text (the seventh form; the later family's looks); each row that meets fmt, with fmt's text TOLD by the authors' own Lean function (tested against real Go, not proved from fmt's source: count such statements apart). THE CARD IS WHAT COUNTS. Prove the row's statement (the work); the ties are given (YtniihmolajmfcaaGreatDoorTie.lean); close each card by the builder's one call (the guide's Derived/Test/ToyasCard.lean, 'card_holds'). Laid BY PROGRAM, IN A SANDBOX (cutbox-door.mjs). By AI agents, Wed Nov 11 2026. No macro, syntax, notation, axiom, sorry.
-/
import Derived.Test.YtniihmolajmfcaaGreatDoorRows
import GoSem.ClaimSeven
namespace Go.Proofs.YtniihmolajmfcaaGreatDoor
namespace Rows

/-- THE TIED CARD OF 'cadenzalaw46.ConsoleNames'. -/
def consoleNamesCard : Claim7 := { stood := { row := consoleNamesRow, standIns := [], harness := (true, "15901565ae89138e0638f5fb6c3224db6ceca797d91b9de9158aa52df456d4aa"), looks := true }, kinds := [], alts := [], laidByText := true, laidKinds := [.data, .data, .data, .data, .sentinel, .sentinel, .sentinel, .data, .widerDeep, .data, .data, .data, .pinned], laidTests := true, laidLooks := .later }
def ConsoleNamesCardSaid : Prop := Claim7.holds Tryz.pinned (.plain (OpenSpec.ofChange consoleNamesSpec)) consoleNamesCard

/-- THE TIED CARD OF 'cadenzalaw46.ConsolePrefix'. -/
def consolePrefixCard : Claim7 := { stood := { row := consolePrefixRow, standIns := [], harness := (true, "15901565ae89138e0638f5fb6c3224db6ceca797d91b9de9158aa52df456d4aa"), looks := true }, kinds := [], alts := [], laidByText := true, laidKinds := [.data, .data, .data, .data, .sentinel, .sentinel, .sentinel, .data, .widerDeep, .data, .data, .data, .pinned], laidTests := true, laidLooks := .later }
def ConsolePrefixCardSaid : Prop := Claim7.holds Tryz.pinned (.plain (OpenSpec.ofChange consolePrefixSpec)) consolePrefixCard

/-- THE TIED CARD OF 'cadenzalaw46.ConsoleShows'. -/
def consoleShowsCard : Claim7 := { stood := { row := consoleShowsRow, standIns := [], harness := (true, "15901565ae89138e0638f5fb6c3224db6ceca797d91b9de9158aa52df456d4aa"), looks := true }, kinds := [], alts := [], laidByText := true, laidKinds := [.data, .data, .data, .data, .sentinel, .sentinel, .sentinel, .data, .widerDeep, .data, .data, .data, .pinned], laidTests := true, laidLooks := .later }
def ConsoleShowsCardSaid : Prop := Claim7.holds Tryz.pinned (.plain (OpenSpec.ofChange consoleShowsSpec)) consoleShowsCard

/-- THE TIED CARD OF 'cadenzalaw46.ConsoleHex'. -/
def consoleHexCard : Claim7 := { stood := { row := consoleHexRow, standIns := [], harness := (true, "15901565ae89138e0638f5fb6c3224db6ceca797d91b9de9158aa52df456d4aa"), looks := true }, kinds := [], alts := [], laidByText := true, laidKinds := [.data, .data, .data, .data, .sentinel, .sentinel, .sentinel, .data, .widerDeep, .data, .data, .data, .pinned], laidTests := true, laidLooks := .later }
def ConsoleHexCardSaid : Prop := Claim7.holds Tryz.pinned (.plain (OpenSpec.ofChange consoleHexSpec)) consoleHexCard

/-- THE TIED CARD OF 'cadenzalaw46.ConsoleClip'. -/
def consoleClipCard : Claim7 := { stood := { row := consoleClipRow, standIns := [], harness := (true, "15901565ae89138e0638f5fb6c3224db6ceca797d91b9de9158aa52df456d4aa"), looks := true }, kinds := [], alts := [], laidByText := true, laidKinds := [.data, .data, .data, .data, .sentinel, .sentinel, .sentinel, .data, .widerDeep, .data, .data, .data, .pinned], laidTests := true, laidLooks := .later }
def ConsoleClipCardSaid : Prop := Claim7.holds Tryz.pinned (.plain (OpenSpec.ofChange consoleClipSpec)) consoleClipCard

/-- THE SECOND FORM's CARD OF 'cadenzalaw46.ConsoleNames'. -/
def consoleNamesUptoCard : Claim7 := { stood := { row := consoleNamesUptoRow, standIns := [], harness := (true, "15901565ae89138e0638f5fb6c3224db6ceca797d91b9de9158aa52df456d4aa"), looks := true }, kinds := [], alts := [], laidByText := true, laidKinds := [.data, .data, .data, .data, .sentinel, .sentinel, .sentinel, .data, .widerDeep, .data, .data, .data, .pinned], laidTests := true, laidLooks := .later }
def ConsoleNamesUptoCardSaid : Prop := Claim7.holds Tryz.pinned (.plain (OpenSpec.upto consoleNamesSpec)) consoleNamesUptoCard

/-- THE SECOND FORM's CARD OF 'cadenzalaw46.ConsolePrefix'. -/
def consolePrefixUptoCard : Claim7 := { stood := { row := consolePrefixUptoRow, standIns := [], harness := (true, "15901565ae89138e0638f5fb6c3224db6ceca797d91b9de9158aa52df456d4aa"), looks := true }, kinds := [], alts := [], laidByText := true, laidKinds := [.data, .data, .data, .data, .sentinel, .sentinel, .sentinel, .data, .widerDeep, .data, .data, .data, .pinned], laidTests := true, laidLooks := .later }
def ConsolePrefixUptoCardSaid : Prop := Claim7.holds Tryz.pinned (.plain (OpenSpec.upto consolePrefixSpec)) consolePrefixUptoCard

/-- THE SECOND FORM's CARD OF 'cadenzalaw46.ConsoleShows'. -/
def consoleShowsUptoCard : Claim7 := { stood := { row := consoleShowsUptoRow, standIns := [], harness := (true, "15901565ae89138e0638f5fb6c3224db6ceca797d91b9de9158aa52df456d4aa"), looks := true }, kinds := [], alts := [], laidByText := true, laidKinds := [.data, .data, .data, .data, .sentinel, .sentinel, .sentinel, .data, .widerDeep, .data, .data, .data, .pinned], laidTests := true, laidLooks := .later }
def ConsoleShowsUptoCardSaid : Prop := Claim7.holds Tryz.pinned (.plain (OpenSpec.upto consoleShowsSpec)) consoleShowsUptoCard

/-- THE SECOND FORM's CARD OF 'cadenzalaw46.ConsoleHex'. -/
def consoleHexUptoCard : Claim7 := { stood := { row := consoleHexUptoRow, standIns := [], harness := (true, "15901565ae89138e0638f5fb6c3224db6ceca797d91b9de9158aa52df456d4aa"), looks := true }, kinds := [], alts := [], laidByText := true, laidKinds := [.data, .data, .data, .data, .sentinel, .sentinel, .sentinel, .data, .widerDeep, .data, .data, .data, .pinned], laidTests := true, laidLooks := .later }
def ConsoleHexUptoCardSaid : Prop := Claim7.holds Tryz.pinned (.plain (OpenSpec.upto consoleHexSpec)) consoleHexUptoCard

/-- THE SECOND FORM's CARD OF 'cadenzalaw46.ConsoleClip'. -/
def consoleClipUptoCard : Claim7 := { stood := { row := consoleClipUptoRow, standIns := [], harness := (true, "15901565ae89138e0638f5fb6c3224db6ceca797d91b9de9158aa52df456d4aa"), looks := true }, kinds := [], alts := [], laidByText := true, laidKinds := [.data, .data, .data, .data, .sentinel, .sentinel, .sentinel, .data, .widerDeep, .data, .data, .data, .pinned], laidTests := true, laidLooks := .later }
def ConsoleClipUptoCardSaid : Prop := Claim7.holds Tryz.pinned (.plain (OpenSpec.upto consoleClipSpec)) consoleClipUptoCard
end Rows
end Go.Proofs.YtniihmolajmfcaaGreatDoor
