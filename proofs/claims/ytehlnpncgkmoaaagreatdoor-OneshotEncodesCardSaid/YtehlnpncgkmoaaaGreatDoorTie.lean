/-
  DERIVED. GIVEN WITH THE SEED: THE PROGRAM's TIES (one call each: nine closed facts by the kernel) AND EACH ROW's TIE, after the 31st guide's Derived/Test/Toyas{Tie, Card}.lean. No idea stands in it: it is a product of the set-up. Laid BY PROGRAM, IN A SANDBOX (cutbox-door.mjs). By AI agents, Wed Nov 11 2026. No macro, syntax, notation, axiom, sorry.
-/
import Derived.Test.YtehlnpncgkmoaaaGreatDoorRows
import Derived.LaidByTextLater
import Derived.SevenTiedAt
import Derived.LaidSub
import Derived.LaidOnce
namespace Go.Proofs.YtehlnpncgkmoaaaGreatDoor
open Go
set_option maxRecDepth 100000
theorem seatTie1 : Tryz.prog.laidByTextLater [("math/bits.deBruijn64tab", Rows.laid_math_bits_deBruijn64tab), ("cadenza/fmtchunk.widths", Rows.laid_cadenza_fmtchunk_widths), ("cadenza/fmtchunk.guid", Rows.laid_cadenza_fmtchunk_guid), ("cadenza/header.widths", Rows.laid_cadenza_header_widths), ("cadenza/pushdec.taken", Rows.laid_cadenza_pushdec_taken), ("cadenza/pushdec.waits", Rows.laid_cadenza_pushdec_waits)] [.data, .data, .widerDeep, .data, .data, .data] true :=
  Program.laidByTextLater_by_one 39 8 65 (by kernel_rfl) (by kernel_rfl) (by kernel_rfl) (by kernel_rfl) (by kernel_rfl) (by kernel_rfl) (fun _ _ => by kernel_rfl)
theorem noOwnUnsafe : Tryz.pinned.checked.prog.headLifts.contains "ownunsafe" = false := by kernel_rfl
theorem tie : Tryz.prog.laidByTextLater [("cadenza/header.widths", Rows.laid_cadenza_header_widths)] [.data] true :=
  Program.laidByTextLater.sub seatTie1 ["cadenza/header.widths"] (by kernel_rfl) (by kernel_rfl)
theorem scriptFiles_row_tie : Rows.scriptFilesRow.laidByTextAt .later Tryz.pinned [.data] true :=
  OpenClaim.laidByTextAt_later rfl rfl tie noOwnUnsafe
theorem chunksCuts_row_tie : Rows.chunksCutsRow.laidByTextAt .later Tryz.pinned [.data] true :=
  OpenClaim.laidByTextAt_later rfl rfl tie noOwnUnsafe
theorem tie2 : Tryz.prog.laidByTextLater [("math/bits.deBruijn64tab", Rows.laid_math_bits_deBruijn64tab), ("cadenza/header.widths", Rows.laid_cadenza_header_widths), ("cadenza/pushdec.taken", Rows.laid_cadenza_pushdec_taken), ("cadenza/pushdec.waits", Rows.laid_cadenza_pushdec_waits)] [.data, .data, .data, .data] true :=
  Program.laidByTextLater.sub seatTie1 ["math/bits.deBruijn64tab", "cadenza/header.widths", "cadenza/pushdec.taken", "cadenza/pushdec.waits"] (by kernel_rfl) (by kernel_rfl)
theorem memoryCoded_row_tie : Rows.memoryCodedRow.laidByTextAt .later Tryz.pinned [.data, .data, .data, .data] true :=
  OpenClaim.laidByTextAt_later rfl rfl tie2 noOwnUnsafe
theorem tie3 : Tryz.prog.laidByTextLater [("cadenza/fmtchunk.widths", Rows.laid_cadenza_fmtchunk_widths), ("cadenza/fmtchunk.guid", Rows.laid_cadenza_fmtchunk_guid), ("cadenza/header.widths", Rows.laid_cadenza_header_widths)] [.data, .widerDeep, .data] true :=
  Program.laidByTextLater.sub seatTie1 ["cadenza/fmtchunk.widths", "cadenza/fmtchunk.guid", "cadenza/header.widths"] (by kernel_rfl) (by kernel_rfl)
theorem oneshotEncodes_row_tie : Rows.oneshotEncodesRow.laidByTextAt .later Tryz.pinned [.data, .widerDeep, .data] true :=
  OpenClaim.laidByTextAt_later rfl rfl tie3 noOwnUnsafe
theorem scriptFilesUpto_row_tie : Rows.scriptFilesUptoRow.laidByTextAt .later Tryz.pinned [.data] true :=
  OpenClaim.laidByTextAt_later rfl rfl tie noOwnUnsafe
theorem memoryCodedUpto_row_tie : Rows.memoryCodedUptoRow.laidByTextAt .later Tryz.pinned [.data, .data, .data, .data] true :=
  OpenClaim.laidByTextAt_later rfl rfl tie2 noOwnUnsafe
theorem chunksCutsUpto_row_tie : Rows.chunksCutsUptoRow.laidByTextAt .later Tryz.pinned [.data] true :=
  OpenClaim.laidByTextAt_later rfl rfl tie noOwnUnsafe
theorem oneshotEncodesUpto_row_tie : Rows.oneshotEncodesUptoRow.laidByTextAt .later Tryz.pinned [.data, .widerDeep, .data] true :=
  OpenClaim.laidByTextAt_later rfl rfl tie3 noOwnUnsafe
end Go.Proofs.YtehlnpncgkmoaaaGreatDoor
