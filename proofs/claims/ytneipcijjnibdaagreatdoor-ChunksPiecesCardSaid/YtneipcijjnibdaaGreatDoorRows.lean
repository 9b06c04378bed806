/-
  NARROWER THAN 'FOR EVERY INPUT', by the rows' own cells (each row's printed sentence says how): DamageUndo: laid · ChunksPieces: laid · ChunksDecodes: laid · ChunksWays: laid · PushdecPieces: laid · PushdecSticks: laid.
  DERIVED. THE GIVEN ROWS OF THIS SEAT. 6 by the template 'for every input the law returns true; each argument reads behind the call as it read before'; 0 by the template 'total and deterministic' (their statements: YtneipcijjnibdaaGreatDoorTotals.lean).
  GIVEN WITH THE SEED: the statements are not yours to turn. If you find one false, say at which input.
  Laid BY PROGRAM, IN A SANDBOX (cutbox-rows.mjs): the forced cells as the released guide's own fill.sh prints them over the translation 1dd0ef77992d7f62… (all of the seat's roots in one cut). By AI agents, Wed Nov 11 2026. No macro, syntax, notation, axiom, sorry.
-/
import Derived.Test.YtneipcijjnibdaaGreatDoorChecked
import GoSem.Claim
import GoSem.ClaimJoined
import GoSem.ClaimMapViews
import Derived.JoinedTies
import Derived.KernelRfl
namespace Go.Proofs.YtneipcijjnibdaaGreatDoor
/- THE CELL 'sum', in the pinned program and in every row, IS THE sha256 OF THE DUMP (.gsa) THAT YtneipcijjnibdaaGreatDoorProg.lean LOADS. Nothing in Lean hashes anything: it is a label: what it is worth is what the hold of that sum in a sandbox is worth. -/
noncomputable def Tryz.pinned : Pinned := { name := "ytneipcijjnibdaagreatdoor", sum := "1dd0ef77992d7f6294e16a69202b2cca2a30593903afb133c90d16307f5023bb", checked := Tryz.checked }
namespace Rows
def none {H : Type} : Left H := { results := [], args := [] }

/- WHAT THE LISTED PACKAGE-LEVEL VARIABLES READ AS WHEN THE CALL BEGINS. Each datum BY PROGRAM (the guide's laid-datum.mjs) off the statement by which the dump's own 'gosem.cut.vars' lays the variable. In a bare row this is a premise. The card (YtneipcijjnibdaaGreatDoorCards.lean) ties it to the program's text. -/
def laid_math_bits_deBruijn64tab {H : Type} : DataW H := .agg [.lit (.int .u8 0), .lit (.int .u8 1), .lit (.int .u8 56), .lit (.int .u8 2), .lit (.int .u8 57), .lit (.int .u8 49), .lit (.int .u8 28), .lit (.int .u8 3), .lit (.int .u8 61), .lit (.int .u8 58), .lit (.int .u8 42), .lit (.int .u8 50), .lit (.int .u8 38), .lit (.int .u8 29), .lit (.int .u8 17), .lit (.int .u8 4), .lit (.int .u8 62), .lit (.int .u8 47), .lit (.int .u8 59), .lit (.int .u8 36), .lit (.int .u8 45), .lit (.int .u8 43), .lit (.int .u8 51), .lit (.int .u8 22), .lit (.int .u8 53), .lit (.int .u8 39), .lit (.int .u8 33), .lit (.int .u8 30), .lit (.int .u8 24), .lit (.int .u8 18), .lit (.int .u8 12), .lit (.int .u8 5), .lit (.int .u8 63), .lit (.int .u8 55), .lit (.int .u8 48), .lit (.int .u8 27), .lit (.int .u8 60), .lit (.int .u8 41), .lit (.int .u8 37), .lit (.int .u8 16), .lit (.int .u8 46), .lit (.int .u8 35), .lit (.int .u8 44), .lit (.int .u8 21), .lit (.int .u8 52), .lit (.int .u8 32), .lit (.int .u8 23), .lit (.int .u8 11), .lit (.int .u8 54), .lit (.int .u8 26), .lit (.int .u8 40), .lit (.int .u8 15), .lit (.int .u8 34), .lit (.int .u8 20), .lit (.int .u8 31), .lit (.int .u8 10), .lit (.int .u8 25), .lit (.int .u8 14), .lit (.int .u8 19), .lit (.int .u8 9), .lit (.int .u8 13), .lit (.int .u8 8), .lit (.int .u8 7), .lit (.int .u8 6)]
def laid_cadenza_header_widths {H : Type} : DataW H := .agg [.lit (.int .i64 2), .lit (.int .i64 2), .lit (.int .i64 2), .lit (.int .i64 4), .lit (.int .i64 4)]
def laid_cadenza_pushdec_taken {H : Type} : DataW H := .agg [.lit (.bool false), .lit (.int .i64 0)]
def laid_cadenza_pushdec_waits {H : Type} : DataW H := .agg [.lit (.bool true), .lit (.int .i64 0)]

/-- 'cadenzalaw44.DamageUndo': WHATEVER THE INPUT: true; the input reads as it did. -/
def damageUndoSpec : ChangeSpec := { name := "damageUndo", fn := fun _ => fun
  | [d1, d2, d3, d4, d5] => { results := [.lit (.bool true)], args := [d1, d2, d3, d4, d5] }
  | _ => none }
def damageUndoRow : OpenClaim := { program := "ytneipcijjnibdaagreatdoor", sum := "1dd0ef77992d7f6294e16a69202b2cca2a30593903afb133c90d16307f5023bb", func := "cadenza/cadenzalaw44.DamageUndo", spec := "damageUndo", unfollowed := true, recurses := true, named := ["cadenza/header.widths", "math/bits.deBruijn64tab"], apart := false, laid := [("math/bits.deBruijn64tab", laid_math_bits_deBruijn64tab), ("cadenza/header.widths", laid_cadenza_header_widths)] }
def DamageUndoSaid : Prop := damageUndoRow.holds Tryz.pinned (OpenSpec.ofChange damageUndoSpec)

/-- ITS FALSE NEIGHBOUR: 'it returns false'. Refute it at one input. -/
def damageUndoWrong : ChangeSpec := { name := "damageUndo", fn := fun _ => fun
  | [d1, d2, d3, d4, d5] => { results := [.lit (.bool false)], args := [d1, d2, d3, d4, d5] }
  | _ => none }
def DamageUndoWrongFalsely : Prop := damageUndoRow.holds Tryz.pinned (OpenSpec.ofChange damageUndoWrong)

/-- 'cadenzalaw39.ChunksPieces': WHATEVER THE INPUT: true; the input reads as it did. -/
def chunksPiecesSpec : ChangeSpec := { name := "chunksPieces", fn := fun _ => fun
  | [d1, d2] => { results := [.lit (.bool true)], args := [d1, d2] }
  | _ => none }
def chunksPiecesRow : OpenClaim := { program := "ytneipcijjnibdaagreatdoor", sum := "1dd0ef77992d7f6294e16a69202b2cca2a30593903afb133c90d16307f5023bb", func := "cadenza/cadenzalaw39.ChunksPieces", spec := "chunksPieces", unfollowed := true, recurses := true, named := ["cadenza/header.widths", "cadenza/pushdec.waits", "cadenza/pushdec.taken", "math/bits.deBruijn64tab"], apart := false, laid := [("math/bits.deBruijn64tab", laid_math_bits_deBruijn64tab), ("cadenza/header.widths", laid_cadenza_header_widths), ("cadenza/pushdec.taken", laid_cadenza_pushdec_taken), ("cadenza/pushdec.waits", laid_cadenza_pushdec_waits)] }
def ChunksPiecesSaid : Prop := chunksPiecesRow.holds Tryz.pinned (OpenSpec.ofChange chunksPiecesSpec)

/-- ITS FALSE NEIGHBOUR: 'it returns false'. Refute it at one input. -/
def chunksPiecesWrong : ChangeSpec := { name := "chunksPieces", fn := fun _ => fun
  | [d1, d2] => { results := [.lit (.bool false)], args := [d1, d2] }
  | _ => none }
def ChunksPiecesWrongFalsely : Prop := chunksPiecesRow.holds Tryz.pinned (OpenSpec.ofChange chunksPiecesWrong)

/-- 'cadenzalaw39.ChunksDecodes': WHATEVER THE INPUT: true; the input reads as it did. -/
def chunksDecodesSpec : ChangeSpec := { name := "chunksDecodes", fn := fun _ => fun
  | [d1, d2, d3, d4, d5] => { results := [.lit (.bool true)], args := [d1, d2, d3, d4, d5] }
  | _ => none }
def chunksDecodesRow : OpenClaim := { program := "ytneipcijjnibdaagreatdoor", sum := "1dd0ef77992d7f6294e16a69202b2cca2a30593903afb133c90d16307f5023bb", func := "cadenza/cadenzalaw39.ChunksDecodes", spec := "chunksDecodes", unfollowed := true, recurses := true, named := ["cadenza/pushdec.waits", "cadenza/header.widths", "cadenza/pushdec.taken", "math/bits.deBruijn64tab"], apart := false, laid := [("math/bits.deBruijn64tab", laid_math_bits_deBruijn64tab), ("cadenza/header.widths", laid_cadenza_header_widths), ("cadenza/pushdec.taken", laid_cadenza_pushdec_taken), ("cadenza/pushdec.waits", laid_cadenza_pushdec_waits)] }
def ChunksDecodesSaid : Prop := chunksDecodesRow.holds Tryz.pinned (OpenSpec.ofChange chunksDecodesSpec)

/-- ITS FALSE NEIGHBOUR: 'it returns false'. Refute it at one input. -/
def chunksDecodesWrong : ChangeSpec := { name := "chunksDecodes", fn := fun _ => fun
  | [d1, d2, d3, d4, d5] => { results := [.lit (.bool false)], args := [d1, d2, d3, d4, d5] }
  | _ => none }
def ChunksDecodesWrongFalsely : Prop := chunksDecodesRow.holds Tryz.pinned (OpenSpec.ofChange chunksDecodesWrong)

/-- 'cadenzalaw39.ChunksWays': WHATEVER THE INPUT: true; the input reads as it did. -/
def chunksWaysSpec : ChangeSpec := { name := "chunksWays", fn := fun _ => fun
  | [d1, d2, d3, d4] => { results := [.lit (.bool true)], args := [d1, d2, d3, d4] }
  | _ => none }
def chunksWaysRow : OpenClaim := { program := "ytneipcijjnibdaagreatdoor", sum := "1dd0ef77992d7f6294e16a69202b2cca2a30593903afb133c90d16307f5023bb", func := "cadenza/cadenzalaw39.ChunksWays", spec := "chunksWays", unfollowed := true, recurses := true, named := ["cadenza/header.widths", "cadenza/pushdec.waits", "cadenza/pushdec.taken", "math/bits.deBruijn64tab"], apart := false, laid := [("math/bits.deBruijn64tab", laid_math_bits_deBruijn64tab), ("cadenza/header.widths", laid_cadenza_header_widths), ("cadenza/pushdec.taken", laid_cadenza_pushdec_taken), ("cadenza/pushdec.waits", laid_cadenza_pushdec_waits)] }
def ChunksWaysSaid : Prop := chunksWaysRow.holds Tryz.pinned (OpenSpec.ofChange chunksWaysSpec)

/-- ITS FALSE NEIGHBOUR: 'it returns false'. Refute it at one input. -/
def chunksWaysWrong : ChangeSpec := { name := "chunksWays", fn := fun _ => fun
  | [d1, d2, d3, d4] => { results := [.lit (.bool false)], args := [d1, d2, d3, d4] }
  | _ => none }
def ChunksWaysWrongFalsely : Prop := chunksWaysRow.holds Tryz.pinned (OpenSpec.ofChange chunksWaysWrong)

/-- 'cadenzalaw37.PushdecPieces': WHATEVER THE INPUT: true; the input reads as it did. -/
def pushdecPiecesSpec : ChangeSpec := { name := "pushdecPieces", fn := fun _ => fun
  | [d1, d2, d3] => { results := [.lit (.bool true)], args := [d1, d2, d3] }
  | _ => none }
def pushdecPiecesRow : OpenClaim := { program := "ytneipcijjnibdaagreatdoor", sum := "1dd0ef77992d7f6294e16a69202b2cca2a30593903afb133c90d16307f5023bb", func := "cadenza/cadenzalaw37.PushdecPieces", spec := "pushdecPieces", unfollowed := true, recurses := true, named := ["cadenza/header.widths", "cadenza/pushdec.waits", "cadenza/pushdec.taken", "math/bits.deBruijn64tab"], apart := false, laid := [("math/bits.deBruijn64tab", laid_math_bits_deBruijn64tab), ("cadenza/header.widths", laid_cadenza_header_widths), ("cadenza/pushdec.taken", laid_cadenza_pushdec_taken), ("cadenza/pushdec.waits", laid_cadenza_pushdec_waits)] }
def PushdecPiecesSaid : Prop := pushdecPiecesRow.holds Tryz.pinned (OpenSpec.ofChange pushdecPiecesSpec)

/-- ITS FALSE NEIGHBOUR: 'it returns false'. Refute it at one input. -/
def pushdecPiecesWrong : ChangeSpec := { name := "pushdecPieces", fn := fun _ => fun
  | [d1, d2, d3] => { results := [.lit (.bool false)], args := [d1, d2, d3] }
  | _ => none }
def PushdecPiecesWrongFalsely : Prop := pushdecPiecesRow.holds Tryz.pinned (OpenSpec.ofChange pushdecPiecesWrong)

/-- 'cadenzalaw37.PushdecSticks': WHATEVER THE INPUT: true; the input reads as it did. -/
def pushdecSticksSpec : ChangeSpec := { name := "pushdecSticks", fn := fun _ => fun
  | [d1, d2, d3] => { results := [.lit (.bool true)], args := [d1, d2, d3] }
  | _ => none }
def pushdecSticksRow : OpenClaim := { program := "ytneipcijjnibdaagreatdoor", sum := "1dd0ef77992d7f6294e16a69202b2cca2a30593903afb133c90d16307f5023bb", func := "cadenza/cadenzalaw37.PushdecSticks", spec := "pushdecSticks", unfollowed := true, recurses := true, named := ["cadenza/header.widths", "cadenza/pushdec.waits", "cadenza/pushdec.taken", "math/bits.deBruijn64tab"], apart := false, laid := [("math/bits.deBruijn64tab", laid_math_bits_deBruijn64tab), ("cadenza/header.widths", laid_cadenza_header_widths), ("cadenza/pushdec.taken", laid_cadenza_pushdec_taken), ("cadenza/pushdec.waits", laid_cadenza_pushdec_waits)] }
def PushdecSticksSaid : Prop := pushdecSticksRow.holds Tryz.pinned (OpenSpec.ofChange pushdecSticksSpec)

/-- ITS FALSE NEIGHBOUR: 'it returns false'. Refute it at one input. -/
def pushdecSticksWrong : ChangeSpec := { name := "pushdecSticks", fn := fun _ => fun
  | [d1, d2, d3] => { results := [.lit (.bool false)], args := [d1, d2, d3] }
  | _ => none }
def PushdecSticksWrongFalsely : Prop := pushdecSticksRow.holds Tryz.pinned (OpenSpec.ofChange pushdecSticksWrong)

/- THE SECOND FORM. 'bulk': how many values and letters a reading holds, each counted each time it is reached (what is shared counts as often as it is met; a slice's spare places count too). A statement '..UptoSaid' is the law's where the arguments, and the package variables that the reading takes, are together of bulk at most 1048576: NARROWER than '..Said'. Prove '..Said' where nothing that the law and all that it calls make is longer than what came in: it says more and counts as full. Else prove '..UptoSaid'. A law counts once. -/
mutual
def uptoBulk {H : Type} : DataW H → Nat
  | .lit (.string bytes) => bytes.length + 1
  | .lit _ => 1
  | .nil => 1
  | .ptr d => uptoBulk d + 1
  | .slice elems spare => uptoBulkAll elems + uptoBulkAll spare + 1
  | .agg parts => uptoBulkAll parts + 1
  | .iface _ d => uptoBulk d + 1
  | .map entries => uptoBulkEntries entries + 1
  | .held _ => 1
def uptoBulkAll {H : Type} : List (DataW H) → Nat
  | [] => 0
  | d :: r => uptoBulk d + uptoBulkAll r
def uptoBulkEntries {H : Type} : List (Lit × DataW H) → Nat
  | [] => 0
  | x :: r => uptoBulkEntry x + uptoBulkEntries r
def uptoBulkEntry {H : Type} : Lit × DataW H → Nat
  | (.string bytes, d) => bytes.length + uptoBulk d + 1
  | (_, d) => uptoBulk d + 1
 end
def uptoSmall : (H : Type) → List (DataW H) → Bool := fun _ ds => decide (uptoBulkAll ds ≤ 1048576)
def OpenSpec.upto (s : _root_.Go.ChangeSpec) : _root_.Go.OpenSpec := { _root_.Go.OpenSpec.ofChange s with cond := some uptoSmall }

/-- 'cadenzalaw44.DamageUndo', WHERE WHAT IT READS IS OF BULK AT MOST 1048576: true; the input reads as it did. -/
def damageUndoUptoRow : OpenClaim := { program := "ytneipcijjnibdaagreatdoor", sum := "1dd0ef77992d7f6294e16a69202b2cca2a30593903afb133c90d16307f5023bb", func := "cadenza/cadenzalaw44.DamageUndo", spec := "damageUndo", unfollowed := true, recurses := true, named := ["cadenza/header.widths", "math/bits.deBruijn64tab"], apart := false, laid := [("math/bits.deBruijn64tab", laid_math_bits_deBruijn64tab), ("cadenza/header.widths", laid_cadenza_header_widths)], narrowed := true }
def DamageUndoUptoSaid : Prop := damageUndoUptoRow.holds Tryz.pinned (OpenSpec.upto damageUndoSpec)

/-- 'cadenzalaw39.ChunksPieces', WHERE WHAT IT READS IS OF BULK AT MOST 1048576: true; the input reads as it did. -/
def chunksPiecesUptoRow : OpenClaim := { program := "ytneipcijjnibdaagreatdoor", sum := "1dd0ef77992d7f6294e16a69202b2cca2a30593903afb133c90d16307f5023bb", func := "cadenza/cadenzalaw39.ChunksPieces", spec := "chunksPieces", unfollowed := true, recurses := true, named := ["cadenza/header.widths", "cadenza/pushdec.waits", "cadenza/pushdec.taken", "math/bits.deBruijn64tab"], apart := false, laid := [("math/bits.deBruijn64tab", laid_math_bits_deBruijn64tab), ("cadenza/header.widths", laid_cadenza_header_widths), ("cadenza/pushdec.taken", laid_cadenza_pushdec_taken), ("cadenza/pushdec.waits", laid_cadenza_pushdec_waits)], narrowed := true }
def ChunksPiecesUptoSaid : Prop := chunksPiecesUptoRow.holds Tryz.pinned (OpenSpec.upto chunksPiecesSpec)

/-- 'cadenzalaw39.ChunksDecodes', WHERE WHAT IT READS IS OF BULK AT MOST 1048576: true; the input reads as it did. -/
def chunksDecodesUptoRow : OpenClaim := { program := "ytneipcijjnibdaagreatdoor", sum := "1dd0ef77992d7f6294e16a69202b2cca2a30593903afb133c90d16307f5023bb", func := "cadenza/cadenzalaw39.ChunksDecodes", spec := "chunksDecodes", unfollowed := true, recurses := true, named := ["cadenza/pushdec.waits", "cadenza/header.widths", "cadenza/pushdec.taken", "math/bits.deBruijn64tab"], apart := false, laid := [("math/bits.deBruijn64tab", laid_math_bits_deBruijn64tab), ("cadenza/header.widths", laid_cadenza_header_widths), ("cadenza/pushdec.taken", laid_cadenza_pushdec_taken), ("cadenza/pushdec.waits", laid_cadenza_pushdec_waits)], narrowed := true }
def ChunksDecodesUptoSaid : Prop := chunksDecodesUptoRow.holds Tryz.pinned (OpenSpec.upto chunksDecodesSpec)

/-- 'cadenzalaw39.ChunksWays', WHERE WHAT IT READS IS OF BULK AT MOST 1048576: true; the input reads as it did. -/
def chunksWaysUptoRow : OpenClaim := { program := "ytneipcijjnibdaagreatdoor", sum := "1dd0ef77992d7f6294e16a69202b2cca2a30593903afb133c90d16307f5023bb", func := "cadenza/cadenzalaw39.ChunksWays", spec := "chunksWays", unfollowed := true, recurses := true, named := ["cadenza/header.widths", "cadenza/pushdec.waits", "cadenza/pushdec.taken", "math/bits.deBruijn64tab"], apart := false, laid := [("math/bits.deBruijn64tab", laid_math_bits_deBruijn64tab), ("cadenza/header.widths", laid_cadenza_header_widths), ("cadenza/pushdec.taken", laid_cadenza_pushdec_taken), ("cadenza/pushdec.waits", laid_cadenza_pushdec_waits)], narrowed := true }
def ChunksWaysUptoSaid : Prop := chunksWaysUptoRow.holds Tryz.pinned (OpenSpec.upto chunksWaysSpec)

/-- 'cadenzalaw37.PushdecPieces', WHERE WHAT IT READS IS OF BULK AT MOST 1048576: true; the input reads as it did. -/
def pushdecPiecesUptoRow : OpenClaim := { program := "ytneipcijjnibdaagreatdoor", sum := "1dd0ef77992d7f6294e16a69202b2cca2a30593903afb133c90d16307f5023bb", func := "cadenza/cadenzalaw37.PushdecPieces", spec := "pushdecPieces", unfollowed := true, recurses := true, named := ["cadenza/header.widths", "cadenza/pushdec.waits", "cadenza/pushdec.taken", "math/bits.deBruijn64tab"], apart := false, laid := [("math/bits.deBruijn64tab", laid_math_bits_deBruijn64tab), ("cadenza/header.widths", laid_cadenza_header_widths), ("cadenza/pushdec.taken", laid_cadenza_pushdec_taken), ("cadenza/pushdec.waits", laid_cadenza_pushdec_waits)], narrowed := true }
def PushdecPiecesUptoSaid : Prop := pushdecPiecesUptoRow.holds Tryz.pinned (OpenSpec.upto pushdecPiecesSpec)

/-- 'cadenzalaw37.PushdecSticks', WHERE WHAT IT READS IS OF BULK AT MOST 1048576: true; the input reads as it did. -/
def pushdecSticksUptoRow : OpenClaim := { program := "ytneipcijjnibdaagreatdoor", sum := "1dd0ef77992d7f6294e16a69202b2cca2a30593903afb133c90d16307f5023bb", func := "cadenza/cadenzalaw37.PushdecSticks", spec := "pushdecSticks", unfollowed := true, recurses := true, named := ["cadenza/header.widths", "cadenza/pushdec.waits", "cadenza/pushdec.taken", "math/bits.deBruijn64tab"], apart := false, laid := [("math/bits.deBruijn64tab", laid_math_bits_deBruijn64tab), ("cadenza/header.widths", laid_cadenza_header_widths), ("cadenza/pushdec.taken", laid_cadenza_pushdec_taken), ("cadenza/pushdec.waits", laid_cadenza_pushdec_waits)], narrowed := true }
def PushdecSticksUptoSaid : Prop := pushdecSticksUptoRow.holds Tryz.pinned (OpenSpec.upto pushdecSticksSpec)

end Rows
end Go.Proofs.YtneipcijjnibdaaGreatDoor
