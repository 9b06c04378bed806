/-
  NARROWER THAN 'FOR EVERY INPUT', by the rows' own cells (each row's printed sentence says how): PushdecPieces: laid · PushdecSticks: laid · ChunksWays: laid · SeektoFrames: laid · SeektoRest: laid · PolicyValid: laid.
  DERIVED. THE GIVEN ROWS OF THIS SEAT. 6 by the template 'for every input the law returns true; each argument reads behind the call as it read before'; 0 by the template 'total and deterministic' (their statements: YtfcmocdmhnafcaaGreatDoorTotals.lean).
  GIVEN WITH THE SEED: the statements are not yours to turn. If you find one false, say at which input.
  Laid BY PROGRAM, IN A SANDBOX (cutbox-rows.mjs): the forced cells as the released guide's own fill.sh prints them over the translation c2e6e3e548b67d1c… (all of the seat's roots in one cut). By AI agents, Wed Nov 11 2026. No macro, syntax, notation, axiom, sorry.
-/
import Derived.Test.YtfcmocdmhnafcaaGreatDoorChecked
import GoSem.Claim
import GoSem.ClaimJoined
import GoSem.ClaimMapViews
import Derived.JoinedTies
import Derived.KernelRfl
namespace Go.Proofs.YtfcmocdmhnafcaaGreatDoor
/- THE CELL 'sum', in the pinned program and in every row, IS THE sha256 OF THE DUMP (.gsa) THAT YtfcmocdmhnafcaaGreatDoorProg.lean LOADS. Nothing in Lean hashes anything: it is a label: what it is worth is what the hold of that sum in a sandbox is worth. -/
noncomputable def Tryz.pinned : Pinned := { name := "ytfcmocdmhnafcaagreatdoor", sum := "c2e6e3e548b67d1cb696cc26bca588d1ab265a10089a4d648e86179c480e5f95", checked := Tryz.checked }
namespace Rows
def none {H : Type} : Left H := { results := [], args := [] }

/- WHAT THE LISTED PACKAGE-LEVEL VARIABLES READ AS WHEN THE CALL BEGINS. Each datum BY PROGRAM (the guide's laid-datum.mjs) off the statement by which the dump's own 'gosem.cut.vars' lays the variable. In a bare row this is a premise. The card (YtfcmocdmhnafcaaGreatDoorCards.lean) ties it to the program's text. -/
def laid_math_bits_deBruijn64tab {H : Type} : DataW H := .agg [.lit (.int .u8 0), .lit (.int .u8 1), .lit (.int .u8 56), .lit (.int .u8 2), .lit (.int .u8 57), .lit (.int .u8 49), .lit (.int .u8 28), .lit (.int .u8 3), .lit (.int .u8 61), .lit (.int .u8 58), .lit (.int .u8 42), .lit (.int .u8 50), .lit (.int .u8 38), .lit (.int .u8 29), .lit (.int .u8 17), .lit (.int .u8 4), .lit (.int .u8 62), .lit (.int .u8 47), .lit (.int .u8 59), .lit (.int .u8 36), .lit (.int .u8 45), .lit (.int .u8 43), .lit (.int .u8 51), .lit (.int .u8 22), .lit (.int .u8 53), .lit (.int .u8 39), .lit (.int .u8 33), .lit (.int .u8 30), .lit (.int .u8 24), .lit (.int .u8 18), .lit (.int .u8 12), .lit (.int .u8 5), .lit (.int .u8 63), .lit (.int .u8 55), .lit (.int .u8 48), .lit (.int .u8 27), .lit (.int .u8 60), .lit (.int .u8 41), .lit (.int .u8 37), .lit (.int .u8 16), .lit (.int .u8 46), .lit (.int .u8 35), .lit (.int .u8 44), .lit (.int .u8 21), .lit (.int .u8 52), .lit (.int .u8 32), .lit (.int .u8 23), .lit (.int .u8 11), .lit (.int .u8 54), .lit (.int .u8 26), .lit (.int .u8 40), .lit (.int .u8 15), .lit (.int .u8 34), .lit (.int .u8 20), .lit (.int .u8 31), .lit (.int .u8 10), .lit (.int .u8 25), .lit (.int .u8 14), .lit (.int .u8 19), .lit (.int .u8 9), .lit (.int .u8 13), .lit (.int .u8 8), .lit (.int .u8 7), .lit (.int .u8 6)]
def laid_cadenza_header_widths {H : Type} : DataW H := .agg [.lit (.int .i64 2), .lit (.int .i64 2), .lit (.int .i64 2), .lit (.int .i64 4), .lit (.int .i64 4)]
def laid_cadenza_pushdec_taken {H : Type} : DataW H := .agg [.lit (.bool false), .lit (.int .i64 0)]
def laid_cadenza_pushdec_waits {H : Type} : DataW H := .agg [.lit (.bool true), .lit (.int .i64 0)]

/-- 'cadenzalaw37.PushdecPieces': WHATEVER THE INPUT: true; the input reads as it did. -/
def pushdecPiecesSpec : ChangeSpec := { name := "pushdecPieces", fn := fun _ => fun
  | [d1, d2, d3] => { results := [.lit (.bool true)], args := [d1, d2, d3] }
  | _ => none }
def pushdecPiecesRow : OpenClaim := { program := "ytfcmocdmhnafcaagreatdoor", sum := "c2e6e3e548b67d1cb696cc26bca588d1ab265a10089a4d648e86179c480e5f95", func := "cadenza/cadenzalaw37.PushdecPieces", spec := "pushdecPieces", unfollowed := true, recurses := true, named := ["cadenza/header.widths", "cadenza/pushdec.waits", "cadenza/pushdec.taken", "math/bits.deBruijn64tab"], apart := false, laid := [("math/bits.deBruijn64tab", laid_math_bits_deBruijn64tab), ("cadenza/header.widths", laid_cadenza_header_widths), ("cadenza/pushdec.taken", laid_cadenza_pushdec_taken), ("cadenza/pushdec.waits", laid_cadenza_pushdec_waits)] }
def PushdecPiecesSaid : Prop := pushdecPiecesRow.holds Tryz.pinned (OpenSpec.ofChange pushdecPiecesSpec)

/-- ITS FALSE NEIGHBOUR: 'it returns false'. Refute it at one input. -/
def pushdecPiecesWrong : ChangeSpec := { name := "pushdecPieces", fn := fun _ => fun
  | [d1, d2, d3] => { results := [.lit (.bool false)], args := [d1, d2, d3] }
  | _ => none }
def PushdecPiecesWrongFalsely : Prop := pushdecPiecesRow.holds Tryz.pinned (OpenSpec.ofChange pushdecPiecesWrong)

/-- 'cadenzalaw37.PushdecSticks': WHATEVER THE INPUT: true; the input reads as it did. -/
def pushdecSticksSpec : ChangeSpec := { name := "pushdecSticks", fn := fun _ => fun
  | [d1, d2, d3] => { results := [.lit (.bool true)], args := [d1, d2, d3] }
  | _ => none }
def pushdecSticksRow : OpenClaim := { program := "ytfcmocdmhnafcaagreatdoor", sum := "c2e6e3e548b67d1cb696cc26bca588d1ab265a10089a4d648e86179c480e5f95", func := "cadenza/cadenzalaw37.PushdecSticks", spec := "pushdecSticks", unfollowed := true, recurses := true, named := ["cadenza/header.widths", "cadenza/pushdec.waits", "cadenza/pushdec.taken", "math/bits.deBruijn64tab"], apart := false, laid := [("math/bits.deBruijn64tab", laid_math_bits_deBruijn64tab), ("cadenza/header.widths", laid_cadenza_header_widths), ("cadenza/pushdec.taken", laid_cadenza_pushdec_taken), ("cadenza/pushdec.waits", laid_cadenza_pushdec_waits)] }
def PushdecSticksSaid : Prop := pushdecSticksRow.holds Tryz.pinned (OpenSpec.ofChange pushdecSticksSpec)

/-- ITS FALSE NEIGHBOUR: 'it returns false'. Refute it at one input. -/
def pushdecSticksWrong : ChangeSpec := { name := "pushdecSticks", fn := fun _ => fun
  | [d1, d2, d3] => { results := [.lit (.bool false)], args := [d1, d2, d3] }
  | _ => none }
def PushdecSticksWrongFalsely : Prop := pushdecSticksRow.holds Tryz.pinned (OpenSpec.ofChange pushdecSticksWrong)

/-- 'cadenzalaw39.ChunksWays': WHATEVER THE INPUT: true; the input reads as it did. -/
def chunksWaysSpec : ChangeSpec := { name := "chunksWays", fn := fun _ => fun
  | [d1, d2, d3, d4] => { results := [.lit (.bool true)], args := [d1, d2, d3, d4] }
  | _ => none }
def chunksWaysRow : OpenClaim := { program := "ytfcmocdmhnafcaagreatdoor", sum := "c2e6e3e548b67d1cb696cc26bca588d1ab265a10089a4d648e86179c480e5f95", func := "cadenza/cadenzalaw39.ChunksWays", spec := "chunksWays", unfollowed := true, recurses := true, named := ["cadenza/header.widths", "cadenza/pushdec.waits", "cadenza/pushdec.taken", "math/bits.deBruijn64tab"], apart := false, laid := [("math/bits.deBruijn64tab", laid_math_bits_deBruijn64tab), ("cadenza/header.widths", laid_cadenza_header_widths), ("cadenza/pushdec.taken", laid_cadenza_pushdec_taken), ("cadenza/pushdec.waits", laid_cadenza_pushdec_waits)] }
def ChunksWaysSaid : Prop := chunksWaysRow.holds Tryz.pinned (OpenSpec.ofChange chunksWaysSpec)

/-- ITS FALSE NEIGHBOUR: 'it returns false'. Refute it at one input. -/
def chunksWaysWrong : ChangeSpec := { name := "chunksWays", fn := fun _ => fun
  | [d1, d2, d3, d4] => { results := [.lit (.bool false)], args := [d1, d2, d3, d4] }
  | _ => none }
def ChunksWaysWrongFalsely : Prop := chunksWaysRow.holds Tryz.pinned (OpenSpec.ofChange chunksWaysWrong)

/-- 'cadenzalaw40.SeektoFrames': WHATEVER THE INPUT: true; the input reads as it did. -/
def seektoFramesSpec : ChangeSpec := { name := "seektoFrames", fn := fun _ => fun
  | [d1, d2, d3] => { results := [.lit (.bool true)], args := [d1, d2, d3] }
  | _ => none }
def seektoFramesRow : OpenClaim := { program := "ytfcmocdmhnafcaagreatdoor", sum := "c2e6e3e548b67d1cb696cc26bca588d1ab265a10089a4d648e86179c480e5f95", func := "cadenza/cadenzalaw40.SeektoFrames", spec := "seektoFrames", unfollowed := true, recurses := true, named := ["cadenza/header.widths", "math/bits.deBruijn64tab"], apart := false, laid := [("math/bits.deBruijn64tab", laid_math_bits_deBruijn64tab), ("cadenza/header.widths", laid_cadenza_header_widths)] }
def SeektoFramesSaid : Prop := seektoFramesRow.holds Tryz.pinned (OpenSpec.ofChange seektoFramesSpec)

/-- ITS FALSE NEIGHBOUR: 'it returns false'. Refute it at one input. -/
def seektoFramesWrong : ChangeSpec := { name := "seektoFrames", fn := fun _ => fun
  | [d1, d2, d3] => { results := [.lit (.bool false)], args := [d1, d2, d3] }
  | _ => none }
def SeektoFramesWrongFalsely : Prop := seektoFramesRow.holds Tryz.pinned (OpenSpec.ofChange seektoFramesWrong)

/-- 'cadenzalaw40.SeektoRest': WHATEVER THE INPUT: true; the input reads as it did. -/
def seektoRestSpec : ChangeSpec := { name := "seektoRest", fn := fun _ => fun
  | [d1, d2, d3, d4] => { results := [.lit (.bool true)], args := [d1, d2, d3, d4] }
  | _ => none }
def seektoRestRow : OpenClaim := { program := "ytfcmocdmhnafcaagreatdoor", sum := "c2e6e3e548b67d1cb696cc26bca588d1ab265a10089a4d648e86179c480e5f95", func := "cadenza/cadenzalaw40.SeektoRest", spec := "seektoRest", unfollowed := true, recurses := true, named := ["cadenza/header.widths", "math/bits.deBruijn64tab"], apart := false, laid := [("math/bits.deBruijn64tab", laid_math_bits_deBruijn64tab), ("cadenza/header.widths", laid_cadenza_header_widths)] }
def SeektoRestSaid : Prop := seektoRestRow.holds Tryz.pinned (OpenSpec.ofChange seektoRestSpec)

/-- ITS FALSE NEIGHBOUR: 'it returns false'. Refute it at one input. -/
def seektoRestWrong : ChangeSpec := { name := "seektoRest", fn := fun _ => fun
  | [d1, d2, d3, d4] => { results := [.lit (.bool false)], args := [d1, d2, d3, d4] }
  | _ => none }
def SeektoRestWrongFalsely : Prop := seektoRestRow.holds Tryz.pinned (OpenSpec.ofChange seektoRestWrong)

/-- 'cadenzalaw41.PolicyValid': WHATEVER THE INPUT: true; the input reads as it did. -/
def policyValidSpec : ChangeSpec := { name := "policyValid", fn := fun _ => fun
  | [d1, d2] => { results := [.lit (.bool true)], args := [d1, d2] }
  | _ => none }
def policyValidRow : OpenClaim := { program := "ytfcmocdmhnafcaagreatdoor", sum := "c2e6e3e548b67d1cb696cc26bca588d1ab265a10089a4d648e86179c480e5f95", func := "cadenza/cadenzalaw41.PolicyValid", spec := "policyValid", unfollowed := true, recurses := true, named := ["cadenza/header.widths", "math/bits.deBruijn64tab"], apart := false, laid := [("math/bits.deBruijn64tab", laid_math_bits_deBruijn64tab), ("cadenza/header.widths", laid_cadenza_header_widths)] }
def PolicyValidSaid : Prop := policyValidRow.holds Tryz.pinned (OpenSpec.ofChange policyValidSpec)

/-- ITS FALSE NEIGHBOUR: 'it returns false'. Refute it at one input. -/
def policyValidWrong : ChangeSpec := { name := "policyValid", fn := fun _ => fun
  | [d1, d2] => { results := [.lit (.bool false)], args := [d1, d2] }
  | _ => none }
def PolicyValidWrongFalsely : Prop := policyValidRow.holds Tryz.pinned (OpenSpec.ofChange policyValidWrong)

/- THE SECOND FORM. 'bulk': how many values and letters a reading holds, each counted each time it is reached (what is shared counts as often as it is met; a slice's spare places count too). A statement '..UptoSaid' is the law's where the arguments, and the package variables that the reading takes, are together of bulk at most 1048576: NARROWER than '..Said'. Prove '..Said' where nothing that the law and all that it calls make is longer than what came in: it says more and counts as full. Else prove '..UptoSaid'. A law counts once. -/
mutual
def uptoBulk {H : Type} : DataW H → Nat
  | .lit (.string bytes) => bytes.length + 1
  | .lit _ => 1
  | .nil => 1
  | .ptr d => uptoBulk d + 1
  | .slice elems spare => uptoBulkAll elems + uptoBulkAll spare + 1
  | .agg parts => uptoBulkAll parts + 1
  | .iface _ d => uptoBulk d + 1
  | .map entries => uptoBulkEntries entries + 1
  | .held _ => 1
def uptoBulkAll {H : Type} : List (DataW H) → Nat
  | [] => 0
  | d :: r => uptoBulk d + uptoBulkAll r
def uptoBulkEntries {H : Type} : List (Lit × DataW H) → Nat
  | [] => 0
  | x :: r => uptoBulkEntry x + uptoBulkEntries r
def uptoBulkEntry {H : Type} : Lit × DataW H → Nat
  | (.string bytes, d) => bytes.length + uptoBulk d + 1
  | (_, d) => uptoBulk d + 1
 end
def uptoSmall : (H : Type) → List (DataW H) → Bool := fun _ ds => decide (uptoBulkAll ds ≤ 1048576)
def OpenSpec.upto (s : _root_.Go.ChangeSpec) : _root_.Go.OpenSpec := { _root_.Go.OpenSpec.ofChange s with cond := some uptoSmall }

/-- 'cadenzalaw37.PushdecPieces', WHERE WHAT IT READS IS OF BULK AT MOST 1048576: true; the input reads as it did. -/
def pushdecPiecesUptoRow : OpenClaim := { program := "ytfcmocdmhnafcaagreatdoor", sum := "c2e6e3e548b67d1cb696cc26bca588d1ab265a10089a4d648e86179c480e5f95", func := "cadenza/cadenzalaw37.PushdecPieces", spec := "pushdecPieces", unfollowed := true, recurses := true, named := ["cadenza/header.widths", "cadenza/pushdec.waits", "cadenza/pushdec.taken", "math/bits.deBruijn64tab"], apart := false, laid := [("math/bits.deBruijn64tab", laid_math_bits_deBruijn64tab), ("cadenza/header.widths", laid_cadenza_header_widths), ("cadenza/pushdec.taken", laid_cadenza_pushdec_taken), ("cadenza/pushdec.waits", laid_cadenza_pushdec_waits)], narrowed := true }
def PushdecPiecesUptoSaid : Prop := pushdecPiecesUptoRow.holds Tryz.pinned (OpenSpec.upto pushdecPiecesSpec)

/-- 'cadenzalaw37.PushdecSticks', WHERE WHAT IT READS IS OF BULK AT MOST 1048576: true; the input reads as it did. -/
def pushdecSticksUptoRow : OpenClaim := { program := "ytfcmocdmhnafcaagreatdoor", sum := "c2e6e3e548b67d1cb696cc26bca588d1ab265a10089a4d648e86179c480e5f95", func := "cadenza/cadenzalaw37.PushdecSticks", spec := "pushdecSticks", unfollowed := true, recurses := true, named := ["cadenza/header.widths", "cadenza/pushdec.waits", "cadenza/pushdec.taken", "math/bits.deBruijn64tab"], apart := false, laid := [("math/bits.deBruijn64tab", laid_math_bits_deBruijn64tab), ("cadenza/header.widths", laid_cadenza_header_widths), ("cadenza/pushdec.taken", laid_cadenza_pushdec_taken), ("cadenza/pushdec.waits", laid_cadenza_pushdec_waits)], narrowed := true }
def PushdecSticksUptoSaid : Prop := pushdecSticksUptoRow.holds Tryz.pinned (OpenSpec.upto pushdecSticksSpec)

/-- 'cadenzalaw39.ChunksWays', WHERE WHAT IT READS IS OF BULK AT MOST 1048576: true; the input reads as it did. -/
def chunksWaysUptoRow : OpenClaim := { program := "ytfcmocdmhnafcaagreatdoor", sum := "c2e6e3e548b67d1cb696cc26bca588d1ab265a10089a4d648e86179c480e5f95", func := "cadenza/cadenzalaw39.ChunksWays", spec := "chunksWays", unfollowed := true, recurses := true, named := ["cadenza/header.widths", "cadenza/pushdec.waits", "cadenza/pushdec.taken", "math/bits.deBruijn64tab"], apart := false, laid := [("math/bits.deBruijn64tab", laid_math_bits_deBruijn64tab), ("cadenza/header.widths", laid_cadenza_header_widths), ("cadenza/pushdec.taken", laid_cadenza_pushdec_taken), ("cadenza/pushdec.waits", laid_cadenza_pushdec_waits)], narrowed := true }
def ChunksWaysUptoSaid : Prop := chunksWaysUptoRow.holds Tryz.pinned (OpenSpec.upto chunksWaysSpec)

/-- 'cadenzalaw40.SeektoFrames', WHERE WHAT IT READS IS OF BULK AT MOST 1048576: true; the input reads as it did. -/
def seektoFramesUptoRow : OpenClaim := { program := "ytfcmocdmhnafcaagreatdoor", sum := "c2e6e3e548b67d1cb696cc26bca588d1ab265a10089a4d648e86179c480e5f95", func := "cadenza/cadenzalaw40.SeektoFrames", spec := "seektoFrames", unfollowed := true, recurses := true, named := ["cadenza/header.widths", "math/bits.deBruijn64tab"], apart := false, laid := [("math/bits.deBruijn64tab", laid_math_bits_deBruijn64tab), ("cadenza/header.widths", laid_cadenza_header_widths)], narrowed := true }
def SeektoFramesUptoSaid : Prop := seektoFramesUptoRow.holds Tryz.pinned (OpenSpec.upto seektoFramesSpec)

/-- 'cadenzalaw40.SeektoRest', WHERE WHAT IT READS IS OF BULK AT MOST 1048576: true; the input reads as it did. -/
def seektoRestUptoRow : OpenClaim := { program := "ytfcmocdmhnafcaagreatdoor", sum := "c2e6e3e548b67d1cb696cc26bca588d1ab265a10089a4d648e86179c480e5f95", func := "cadenza/cadenzalaw40.SeektoRest", spec := "seektoRest", unfollowed := true, recurses := true, named := ["cadenza/header.widths", "math/bits.deBruijn64tab"], apart := false, laid := [("math/bits.deBruijn64tab", laid_math_bits_deBruijn64tab), ("cadenza/header.widths", laid_cadenza_header_widths)], narrowed := true }
def SeektoRestUptoSaid : Prop := seektoRestUptoRow.holds Tryz.pinned (OpenSpec.upto seektoRestSpec)

/-- 'cadenzalaw41.PolicyValid', WHERE WHAT IT READS IS OF BULK AT MOST 1048576: true; the input reads as it did. -/
def policyValidUptoRow : OpenClaim := { program := "ytfcmocdmhnafcaagreatdoor", sum := "c2e6e3e548b67d1cb696cc26bca588d1ab265a10089a4d648e86179c480e5f95", func := "cadenza/cadenzalaw41.PolicyValid", spec := "policyValid", unfollowed := true, recurses := true, named := ["cadenza/header.widths", "math/bits.deBruijn64tab"], apart := false, laid := [("math/bits.deBruijn64tab", laid_math_bits_deBruijn64tab), ("cadenza/header.widths", laid_cadenza_header_widths)], narrowed := true }
def PolicyValidUptoSaid : Prop := policyValidUptoRow.holds Tryz.pinned (OpenSpec.upto policyValidSpec)

end Rows
end Go.Proofs.YtfcmocdmhnafcaaGreatDoor
