/-
  NARROWER THAN 'FOR EVERY INPUT', by the rows' own cells (each row's printed sentence says how): OneshotSame: laid · OneshotBack: laid · ChunksMasks: laid · ChunksBack: laid · ChunksNames: laid.
  DERIVED. THE GIVEN ROWS OF THIS SEAT. 5 by the template 'for every input the law returns true; each argument reads behind the call as it read before'; 0 by the template 'total and deterministic' (their statements: YtgomgobgfhhahaaGreatDoorTotals.lean).
  GIVEN WITH THE SEED: the statements are not yours to turn. If you find one false, say at which input.
  Laid BY PROGRAM, IN A SANDBOX (cutbox-rows.mjs): the forced cells as the released guide's own fill.sh prints them over the translation e1dbb6a8df1665af… (all of the seat's roots in one cut). By AI agents, Wed Nov 11 2026. No macro, syntax, notation, axiom, sorry.
-/
import Derived.Test.YtgomgobgfhhahaaGreatDoorChecked
import GoSem.Claim
import GoSem.ClaimJoined
import GoSem.ClaimMapViews
import Derived.JoinedTies
import Derived.KernelRfl
namespace Go.Proofs.YtgomgobgfhhahaaGreatDoor
/- THE CELL 'sum', in the pinned program and in every row, IS THE sha256 OF THE DUMP (.gsa) THAT YtgomgobgfhhahaaGreatDoorProg.lean LOADS. Nothing in Lean hashes anything: it is a label: what it is worth is what the hold of that sum in a sandbox is worth. -/
noncomputable def Tryz.pinned : Pinned := { name := "ytgomgobgfhhahaagreatdoor", sum := "e1dbb6a8df1665af56ddaeeb664df497f6e5937d10b3250cd1c1163f498e93e4", checked := Tryz.checked }
namespace Rows
def none {H : Type} : Left H := { results := [], args := [] }

/- WHAT THE LISTED PACKAGE-LEVEL VARIABLES READ AS WHEN THE CALL BEGINS. Each datum BY PROGRAM (the guide's laid-datum.mjs) off the statement by which the dump's own 'gosem.cut.vars' lays the variable. In a bare row this is a premise. The card (YtgomgobgfhhahaaGreatDoorCards.lean) ties it to the program's text. -/
def laid_math_bits_deBruijn64tab {H : Type} : DataW H := .agg [.lit (.int .u8 0), .lit (.int .u8 1), .lit (.int .u8 56), .lit (.int .u8 2), .lit (.int .u8 57), .lit (.int .u8 49), .lit (.int .u8 28), .lit (.int .u8 3), .lit (.int .u8 61), .lit (.int .u8 58), .lit (.int .u8 42), .lit (.int .u8 50), .lit (.int .u8 38), .lit (.int .u8 29), .lit (.int .u8 17), .lit (.int .u8 4), .lit (.int .u8 62), .lit (.int .u8 47), .lit (.int .u8 59), .lit (.int .u8 36), .lit (.int .u8 45), .lit (.int .u8 43), .lit (.int .u8 51), .lit (.int .u8 22), .lit (.int .u8 53), .lit (.int .u8 39), .lit (.int .u8 33), .lit (.int .u8 30), .lit (.int .u8 24), .lit (.int .u8 18), .lit (.int .u8 12), .lit (.int .u8 5), .lit (.int .u8 63), .lit (.int .u8 55), .lit (.int .u8 48), .lit (.int .u8 27), .lit (.int .u8 60), .lit (.int .u8 41), .lit (.int .u8 37), .lit (.int .u8 16), .lit (.int .u8 46), .lit (.int .u8 35), .lit (.int .u8 44), .lit (.int .u8 21), .lit (.int .u8 52), .lit (.int .u8 32), .lit (.int .u8 23), .lit (.int .u8 11), .lit (.int .u8 54), .lit (.int .u8 26), .lit (.int .u8 40), .lit (.int .u8 15), .lit (.int .u8 34), .lit (.int .u8 20), .lit (.int .u8 31), .lit (.int .u8 10), .lit (.int .u8 25), .lit (.int .u8 14), .lit (.int .u8 19), .lit (.int .u8 9), .lit (.int .u8 13), .lit (.int .u8 8), .lit (.int .u8 7), .lit (.int .u8 6)]
def laid_cadenza_header_widths {H : Type} : DataW H := .agg [.lit (.int .i64 2), .lit (.int .i64 2), .lit (.int .i64 2), .lit (.int .i64 4), .lit (.int .i64 4)]
def laid_cadenza_pushdec_taken {H : Type} : DataW H := .agg [.lit (.bool false), .lit (.int .i64 0)]
def laid_cadenza_pushdec_waits {H : Type} : DataW H := .agg [.lit (.bool true), .lit (.int .i64 0)]

/-- 'cadenzalaw42.OneshotSame': WHATEVER THE INPUT: true; the input reads as it did. -/
def oneshotSameSpec : ChangeSpec := { name := "oneshotSame", fn := fun _ => fun
  | [d1, d2, d3] => { results := [.lit (.bool true)], args := [d1, d2, d3] }
  | _ => none }
def oneshotSameRow : OpenClaim := { program := "ytgomgobgfhhahaagreatdoor", sum := "e1dbb6a8df1665af56ddaeeb664df497f6e5937d10b3250cd1c1163f498e93e4", func := "cadenza/cadenzalaw42.OneshotSame", spec := "oneshotSame", unfollowed := true, recurses := true, named := ["cadenza/header.widths", "cadenza/pushdec.waits", "cadenza/pushdec.taken", "math/bits.deBruijn64tab"], apart := false, laid := [("math/bits.deBruijn64tab", laid_math_bits_deBruijn64tab), ("cadenza/header.widths", laid_cadenza_header_widths), ("cadenza/pushdec.taken", laid_cadenza_pushdec_taken), ("cadenza/pushdec.waits", laid_cadenza_pushdec_waits)] }
def OneshotSameSaid : Prop := oneshotSameRow.holds Tryz.pinned (OpenSpec.ofChange oneshotSameSpec)

/-- ITS FALSE NEIGHBOUR: 'it returns false'. Refute it at one input. -/
def oneshotSameWrong : ChangeSpec := { name := "oneshotSame", fn := fun _ => fun
  | [d1, d2, d3] => { results := [.lit (.bool false)], args := [d1, d2, d3] }
  | _ => none }
def OneshotSameWrongFalsely : Prop := oneshotSameRow.holds Tryz.pinned (OpenSpec.ofChange oneshotSameWrong)

/-- 'cadenzalaw42.OneshotBack': WHATEVER THE INPUT: true; the input reads as it did. -/
def oneshotBackSpec : ChangeSpec := { name := "oneshotBack", fn := fun _ => fun
  | [d1, d2, d3] => { results := [.lit (.bool true)], args := [d1, d2, d3] }
  | _ => none }
def oneshotBackRow : OpenClaim := { program := "ytgomgobgfhhahaagreatdoor", sum := "e1dbb6a8df1665af56ddaeeb664df497f6e5937d10b3250cd1c1163f498e93e4", func := "cadenza/cadenzalaw42.OneshotBack", spec := "oneshotBack", unfollowed := true, recurses := true, named := ["cadenza/header.widths", "cadenza/pushdec.waits", "cadenza/pushdec.taken", "math/bits.deBruijn64tab"], apart := false, laid := [("math/bits.deBruijn64tab", laid_math_bits_deBruijn64tab), ("cadenza/header.widths", laid_cadenza_header_widths), ("cadenza/pushdec.taken", laid_cadenza_pushdec_taken), ("cadenza/pushdec.waits", laid_cadenza_pushdec_waits)] }
def OneshotBackSaid : Prop := oneshotBackRow.holds Tryz.pinned (OpenSpec.ofChange oneshotBackSpec)

/-- ITS FALSE NEIGHBOUR: 'it returns false'. Refute it at one input. -/
def oneshotBackWrong : ChangeSpec := { name := "oneshotBack", fn := fun _ => fun
  | [d1, d2, d3] => { results := [.lit (.bool false)], args := [d1, d2, d3] }
  | _ => none }
def OneshotBackWrongFalsely : Prop := oneshotBackRow.holds Tryz.pinned (OpenSpec.ofChange oneshotBackWrong)

/-- 'cadenzalaw39.ChunksMasks': WHATEVER THE INPUT: true; the input reads as it did. -/
def chunksMasksSpec : ChangeSpec := { name := "chunksMasks", fn := fun _ => fun
  | [d1, d2, d3, d4, d5, d6] => { results := [.lit (.bool true)], args := [d1, d2, d3, d4, d5, d6] }
  | _ => none }
def chunksMasksRow : OpenClaim := { program := "ytgomgobgfhhahaagreatdoor", sum := "e1dbb6a8df1665af56ddaeeb664df497f6e5937d10b3250cd1c1163f498e93e4", func := "cadenza/cadenzalaw39.ChunksMasks", spec := "chunksMasks", unfollowed := true, recurses := true, named := ["cadenza/header.widths", "cadenza/pushdec.waits", "cadenza/pushdec.taken", "math/bits.deBruijn64tab"], apart := false, laid := [("math/bits.deBruijn64tab", laid_math_bits_deBruijn64tab), ("cadenza/header.widths", laid_cadenza_header_widths), ("cadenza/pushdec.taken", laid_cadenza_pushdec_taken), ("cadenza/pushdec.waits", laid_cadenza_pushdec_waits)] }
def ChunksMasksSaid : Prop := chunksMasksRow.holds Tryz.pinned (OpenSpec.ofChange chunksMasksSpec)

/-- ITS FALSE NEIGHBOUR: 'it returns false'. Refute it at one input. -/
def chunksMasksWrong : ChangeSpec := { name := "chunksMasks", fn := fun _ => fun
  | [d1, d2, d3, d4, d5, d6] => { results := [.lit (.bool false)], args := [d1, d2, d3, d4, d5, d6] }
  | _ => none }
def ChunksMasksWrongFalsely : Prop := chunksMasksRow.holds Tryz.pinned (OpenSpec.ofChange chunksMasksWrong)

/-- 'cadenzalaw39.ChunksBack': WHATEVER THE INPUT: true; the input reads as it did. -/
def chunksBackSpec : ChangeSpec := { name := "chunksBack", fn := fun _ => fun
  | [d1, d2, d3, d4, d5, d6] => { results := [.lit (.bool true)], args := [d1, d2, d3, d4, d5, d6] }
  | _ => none }
def chunksBackRow : OpenClaim := { program := "ytgomgobgfhhahaagreatdoor", sum := "e1dbb6a8df1665af56ddaeeb664df497f6e5937d10b3250cd1c1163f498e93e4", func := "cadenza/cadenzalaw39.ChunksBack", spec := "chunksBack", unfollowed := true, recurses := true, named := ["cadenza/header.widths", "cadenza/pushdec.waits", "cadenza/pushdec.taken", "math/bits.deBruijn64tab"], apart := false, laid := [("math/bits.deBruijn64tab", laid_math_bits_deBruijn64tab), ("cadenza/header.widths", laid_cadenza_header_widths), ("cadenza/pushdec.taken", laid_cadenza_pushdec_taken), ("cadenza/pushdec.waits", laid_cadenza_pushdec_waits)] }
def ChunksBackSaid : Prop := chunksBackRow.holds Tryz.pinned (OpenSpec.ofChange chunksBackSpec)

/-- ITS FALSE NEIGHBOUR: 'it returns false'. Refute it at one input. -/
def chunksBackWrong : ChangeSpec := { name := "chunksBack", fn := fun _ => fun
  | [d1, d2, d3, d4, d5, d6] => { results := [.lit (.bool false)], args := [d1, d2, d3, d4, d5, d6] }
  | _ => none }
def ChunksBackWrongFalsely : Prop := chunksBackRow.holds Tryz.pinned (OpenSpec.ofChange chunksBackWrong)

/-- 'cadenzalaw39.ChunksNames': WHATEVER THE INPUT: true; the input reads as it did. -/
def chunksNamesSpec : ChangeSpec := { name := "chunksNames", fn := fun _ => fun
  | [] => { results := [.lit (.bool true)], args := [] }
  | _ => none }
def chunksNamesRow : OpenClaim := { program := "ytgomgobgfhhahaagreatdoor", sum := "e1dbb6a8df1665af56ddaeeb664df497f6e5937d10b3250cd1c1163f498e93e4", func := "cadenza/cadenzalaw39.ChunksNames", spec := "chunksNames", unfollowed := true, recurses := true, named := ["cadenza/header.widths", "cadenza/pushdec.waits", "cadenza/pushdec.taken", "math/bits.deBruijn64tab"], apart := false, laid := [("math/bits.deBruijn64tab", laid_math_bits_deBruijn64tab), ("cadenza/header.widths", laid_cadenza_header_widths), ("cadenza/pushdec.taken", laid_cadenza_pushdec_taken), ("cadenza/pushdec.waits", laid_cadenza_pushdec_waits)] }
def ChunksNamesSaid : Prop := chunksNamesRow.holds Tryz.pinned (OpenSpec.ofChange chunksNamesSpec)

/-- ITS FALSE NEIGHBOUR: 'it returns false'. Refute it at one input. -/
def chunksNamesWrong : ChangeSpec := { name := "chunksNames", fn := fun _ => fun
  | [] => { results := [.lit (.bool false)], args := [] }
  | _ => none }
def ChunksNamesWrongFalsely : Prop := chunksNamesRow.holds Tryz.pinned (OpenSpec.ofChange chunksNamesWrong)

/- THE SECOND FORM. 'bulk': how many values and letters a reading holds, each counted each time it is reached (what is shared counts as often as it is met; a slice's spare places count too). A statement '..UptoSaid' is the law's where the arguments, and the package variables that the reading takes, are together of bulk at most 1048576: NARROWER than '..Said'. Prove '..Said' where nothing that the law and all that it calls make is longer than what came in: it says more and counts as full. Else prove '..UptoSaid'. A law counts once. -/
mutual
def uptoBulk {H : Type} : DataW H → Nat
  | .lit (.string bytes) => bytes.length + 1
  | .lit _ => 1
  | .nil => 1
  | .ptr d => uptoBulk d + 1
  | .slice elems spare => uptoBulkAll elems + uptoBulkAll spare + 1
  | .agg parts => uptoBulkAll parts + 1
  | .iface _ d => uptoBulk d + 1
  | .map entries => uptoBulkEntries entries + 1
  | .held _ => 1
def uptoBulkAll {H : Type} : List (DataW H) → Nat
  | [] => 0
  | d :: r => uptoBulk d + uptoBulkAll r
def uptoBulkEntries {H : Type} : List (Lit × DataW H) → Nat
  | [] => 0
  | x :: r => uptoBulkEntry x + uptoBulkEntries r
def uptoBulkEntry {H : Type} : Lit × DataW H → Nat
  | (.string bytes, d) => bytes.length + uptoBulk d + 1
  | (_, d) => uptoBulk d + 1
 end
def uptoSmall : (H : Type) → List (DataW H) → Bool := fun _ ds => decide (uptoBulkAll ds ≤ 1048576)
def OpenSpec.upto (s : _root_.Go.ChangeSpec) : _root_.Go.OpenSpec := { _root_.Go.OpenSpec.ofChange s with cond := some uptoSmall }

/-- 'cadenzalaw42.OneshotSame', WHERE WHAT IT READS IS OF BULK AT MOST 1048576: true; the input reads as it did. -/
def oneshotSameUptoRow : OpenClaim := { program := "ytgomgobgfhhahaagreatdoor", sum := "e1dbb6a8df1665af56ddaeeb664df497f6e5937d10b3250cd1c1163f498e93e4", func := "cadenza/cadenzalaw42.OneshotSame", spec := "oneshotSame", unfollowed := true, recurses := true, named := ["cadenza/header.widths", "cadenza/pushdec.waits", "cadenza/pushdec.taken", "math/bits.deBruijn64tab"], apart := false, laid := [("math/bits.deBruijn64tab", laid_math_bits_deBruijn64tab), ("cadenza/header.widths", laid_cadenza_header_widths), ("cadenza/pushdec.taken", laid_cadenza_pushdec_taken), ("cadenza/pushdec.waits", laid_cadenza_pushdec_waits)], narrowed := true }
def OneshotSameUptoSaid : Prop := oneshotSameUptoRow.holds Tryz.pinned (OpenSpec.upto oneshotSameSpec)

/-- 'cadenzalaw42.OneshotBack', WHERE WHAT IT READS IS OF BULK AT MOST 1048576: true; the input reads as it did. -/
def oneshotBackUptoRow : OpenClaim := { program := "ytgomgobgfhhahaagreatdoor", sum := "e1dbb6a8df1665af56ddaeeb664df497f6e5937d10b3250cd1c1163f498e93e4", func := "cadenza/cadenzalaw42.OneshotBack", spec := "oneshotBack", unfollowed := true, recurses := true, named := ["cadenza/header.widths", "cadenza/pushdec.waits", "cadenza/pushdec.taken", "math/bits.deBruijn64tab"], apart := false, laid := [("math/bits.deBruijn64tab", laid_math_bits_deBruijn64tab), ("cadenza/header.widths", laid_cadenza_header_widths), ("cadenza/pushdec.taken", laid_cadenza_pushdec_taken), ("cadenza/pushdec.waits", laid_cadenza_pushdec_waits)], narrowed := true }
def OneshotBackUptoSaid : Prop := oneshotBackUptoRow.holds Tryz.pinned (OpenSpec.upto oneshotBackSpec)

/-- 'cadenzalaw39.ChunksMasks', WHERE WHAT IT READS IS OF BULK AT MOST 1048576: true; the input reads as it did. -/
def chunksMasksUptoRow : OpenClaim := { program := "ytgomgobgfhhahaagreatdoor", sum := "e1dbb6a8df1665af56ddaeeb664df497f6e5937d10b3250cd1c1163f498e93e4", func := "cadenza/cadenzalaw39.ChunksMasks", spec := "chunksMasks", unfollowed := true, recurses := true, named := ["cadenza/header.widths", "cadenza/pushdec.waits", "cadenza/pushdec.taken", "math/bits.deBruijn64tab"], apart := false, laid := [("math/bits.deBruijn64tab", laid_math_bits_deBruijn64tab), ("cadenza/header.widths", laid_cadenza_header_widths), ("cadenza/pushdec.taken", laid_cadenza_pushdec_taken), ("cadenza/pushdec.waits", laid_cadenza_pushdec_waits)], narrowed := true }
def ChunksMasksUptoSaid : Prop := chunksMasksUptoRow.holds Tryz.pinned (OpenSpec.upto chunksMasksSpec)

/-- 'cadenzalaw39.ChunksBack', WHERE WHAT IT READS IS OF BULK AT MOST 1048576: true; the input reads as it did. -/
def chunksBackUptoRow : OpenClaim := { program := "ytgomgobgfhhahaagreatdoor", sum := "e1dbb6a8df1665af56ddaeeb664df497f6e5937d10b3250cd1c1163f498e93e4", func := "cadenza/cadenzalaw39.ChunksBack", spec := "chunksBack", unfollowed := true, recurses := true, named := ["cadenza/header.widths", "cadenza/pushdec.waits", "cadenza/pushdec.taken", "math/bits.deBruijn64tab"], apart := false, laid := [("math/bits.deBruijn64tab", laid_math_bits_deBruijn64tab), ("cadenza/header.widths", laid_cadenza_header_widths), ("cadenza/pushdec.taken", laid_cadenza_pushdec_taken), ("cadenza/pushdec.waits", laid_cadenza_pushdec_waits)], narrowed := true }
def ChunksBackUptoSaid : Prop := chunksBackUptoRow.holds Tryz.pinned (OpenSpec.upto chunksBackSpec)

/-- 'cadenzalaw39.ChunksNames', WHERE WHAT IT READS IS OF BULK AT MOST 1048576: true; the input reads as it did. -/
def chunksNamesUptoRow : OpenClaim := { program := "ytgomgobgfhhahaagreatdoor", sum := "e1dbb6a8df1665af56ddaeeb664df497f6e5937d10b3250cd1c1163f498e93e4", func := "cadenza/cadenzalaw39.ChunksNames", spec := "chunksNames", unfollowed := true, recurses := true, named := ["cadenza/header.widths", "cadenza/pushdec.waits", "cadenza/pushdec.taken", "math/bits.deBruijn64tab"], apart := false, laid := [("math/bits.deBruijn64tab", laid_math_bits_deBruijn64tab), ("cadenza/header.widths", laid_cadenza_header_widths), ("cadenza/pushdec.taken", laid_cadenza_pushdec_taken), ("cadenza/pushdec.waits", laid_cadenza_pushdec_waits)], narrowed := true }
def ChunksNamesUptoSaid : Prop := chunksNamesUptoRow.holds Tryz.pinned (OpenSpec.upto chunksNamesSpec)

end Rows
end Go.Proofs.YtgomgobgfhhahaaGreatDoor
