/-
  NARROWER THAN 'FOR EVERY INPUT', by the rows' own cells (each row's printed sentence says how): ScriptSays: laid · MemoryDrains: laid · MemoryBound: laid · ScriptEven: laid.
  DERIVED. THE GIVEN ROWS OF THIS SEAT. 4 by the template 'for every input the law returns true; each argument reads behind the call as it read before'; 0 by the template 'total and deterministic' (their statements: YtheamkpclkijmaaGreatDoorTotals.lean).
  GIVEN WITH THE SEED: the statements are not yours to turn. If you find one false, say at which input.
  Laid BY PROGRAM, IN A SANDBOX (cutbox-rows.mjs): the forced cells as the released guide's own fill.sh prints them over the translation 4b99637e484ff7c0… (all of the seat's roots in one cut). By AI agents, Wed Nov 11 2026. No macro, syntax, notation, axiom, sorry.
-/
import Derived.Test.YtheamkpclkijmaaGreatDoorChecked
import GoSem.Claim
import GoSem.ClaimJoined
import GoSem.ClaimMapViews
import Derived.JoinedTies
import Derived.KernelRfl
namespace Go.Proofs.YtheamkpclkijmaaGreatDoor
/- THE CELL 'sum', in the pinned program and in every row, IS THE sha256 OF THE DUMP (.gsa) THAT YtheamkpclkijmaaGreatDoorProg.lean LOADS. Nothing in Lean hashes anything: it is a label: what it is worth is what the hold of that sum in a sandbox is worth. -/
noncomputable def Tryz.pinned : Pinned := { name := "ytheamkpclkijmaagreatdoor", sum := "4b99637e484ff7c0fc4696336de746032030c44b6cd1c68f9a07dae9764ca95c", checked := Tryz.checked }
namespace Rows
def none {H : Type} : Left H := { results := [], args := [] }

/- WHAT THE LISTED PACKAGE-LEVEL VARIABLES READ AS WHEN THE CALL BEGINS. Each datum BY PROGRAM (the guide's laid-datum.mjs) off the statement by which the dump's own 'gosem.cut.vars' lays the variable. In a bare row this is a premise. The card (YtheamkpclkijmaaGreatDoorCards.lean) ties it to the program's text. -/
def laid_math_bits_deBruijn64tab {H : Type} : DataW H := .agg [.lit (.int .u8 0), .lit (.int .u8 1), .lit (.int .u8 56), .lit (.int .u8 2), .lit (.int .u8 57), .lit (.int .u8 49), .lit (.int .u8 28), .lit (.int .u8 3), .lit (.int .u8 61), .lit (.int .u8 58), .lit (.int .u8 42), .lit (.int .u8 50), .lit (.int .u8 38), .lit (.int .u8 29), .lit (.int .u8 17), .lit (.int .u8 4), .lit (.int .u8 62), .lit (.int .u8 47), .lit (.int .u8 59), .lit (.int .u8 36), .lit (.int .u8 45), .lit (.int .u8 43), .lit (.int .u8 51), .lit (.int .u8 22), .lit (.int .u8 53), .lit (.int .u8 39), .lit (.int .u8 33), .lit (.int .u8 30), .lit (.int .u8 24), .lit (.int .u8 18), .lit (.int .u8 12), .lit (.int .u8 5), .lit (.int .u8 63), .lit (.int .u8 55), .lit (.int .u8 48), .lit (.int .u8 27), .lit (.int .u8 60), .lit (.int .u8 41), .lit (.int .u8 37), .lit (.int .u8 16), .lit (.int .u8 46), .lit (.int .u8 35), .lit (.int .u8 44), .lit (.int .u8 21), .lit (.int .u8 52), .lit (.int .u8 32), .lit (.int .u8 23), .lit (.int .u8 11), .lit (.int .u8 54), .lit (.int .u8 26), .lit (.int .u8 40), .lit (.int .u8 15), .lit (.int .u8 34), .lit (.int .u8 20), .lit (.int .u8 31), .lit (.int .u8 10), .lit (.int .u8 25), .lit (.int .u8 14), .lit (.int .u8 19), .lit (.int .u8 9), .lit (.int .u8 13), .lit (.int .u8 8), .lit (.int .u8 7), .lit (.int .u8 6)]
def laid_cadenza_header_widths {H : Type} : DataW H := .agg [.lit (.int .i64 2), .lit (.int .i64 2), .lit (.int .i64 2), .lit (.int .i64 4), .lit (.int .i64 4)]
def laid_cadenza_pushdec_taken {H : Type} : DataW H := .agg [.lit (.bool false), .lit (.int .i64 0)]
def laid_cadenza_pushdec_waits {H : Type} : DataW H := .agg [.lit (.bool true), .lit (.int .i64 0)]

/-- 'cadenzalaw38.ScriptSays': WHATEVER THE INPUT: true; the input reads as it did. -/
def scriptSaysSpec : ChangeSpec := { name := "scriptSays", fn := fun _ => fun
  | [d1, d2, d3] => { results := [.lit (.bool true)], args := [d1, d2, d3] }
  | _ => none }
def scriptSaysRow : OpenClaim := { program := "ytheamkpclkijmaagreatdoor", sum := "4b99637e484ff7c0fc4696336de746032030c44b6cd1c68f9a07dae9764ca95c", func := "cadenza/cadenzalaw38.ScriptSays", spec := "scriptSays", unfollowed := true, recurses := true, named := ["cadenza/header.widths", "cadenza/pushdec.waits", "cadenza/pushdec.taken", "math/bits.deBruijn64tab"], apart := false, laid := [("math/bits.deBruijn64tab", laid_math_bits_deBruijn64tab), ("cadenza/header.widths", laid_cadenza_header_widths), ("cadenza/pushdec.taken", laid_cadenza_pushdec_taken), ("cadenza/pushdec.waits", laid_cadenza_pushdec_waits)] }
def ScriptSaysSaid : Prop := scriptSaysRow.holds Tryz.pinned (OpenSpec.ofChange scriptSaysSpec)

/-- ITS FALSE NEIGHBOUR: 'it returns false'. Refute it at one input. -/
def scriptSaysWrong : ChangeSpec := { name := "scriptSays", fn := fun _ => fun
  | [d1, d2, d3] => { results := [.lit (.bool false)], args := [d1, d2, d3] }
  | _ => none }
def ScriptSaysWrongFalsely : Prop := scriptSaysRow.holds Tryz.pinned (OpenSpec.ofChange scriptSaysWrong)

/-- 'cadenzalaw43.MemoryDrains': WHATEVER THE INPUT: true; the input reads as it did. -/
def memoryDrainsSpec : ChangeSpec := { name := "memoryDrains", fn := fun _ => fun
  | [d1, d2, d3] => { results := [.lit (.bool true)], args := [d1, d2, d3] }
  | _ => none }
def memoryDrainsRow : OpenClaim := { program := "ytheamkpclkijmaagreatdoor", sum := "4b99637e484ff7c0fc4696336de746032030c44b6cd1c68f9a07dae9764ca95c", func := "cadenza/cadenzalaw43.MemoryDrains", spec := "memoryDrains", unfollowed := true, recurses := true, named := ["cadenza/header.widths", "cadenza/pushdec.waits", "cadenza/pushdec.taken", "math/bits.deBruijn64tab"], apart := false, laid := [("math/bits.deBruijn64tab", laid_math_bits_deBruijn64tab), ("cadenza/header.widths", laid_cadenza_header_widths), ("cadenza/pushdec.taken", laid_cadenza_pushdec_taken), ("cadenza/pushdec.waits", laid_cadenza_pushdec_waits)] }
def MemoryDrainsSaid : Prop := memoryDrainsRow.holds Tryz.pinned (OpenSpec.ofChange memoryDrainsSpec)

/-- ITS FALSE NEIGHBOUR: 'it returns false'. Refute it at one input. -/
def memoryDrainsWrong : ChangeSpec := { name := "memoryDrains", fn := fun _ => fun
  | [d1, d2, d3] => { results := [.lit (.bool false)], args := [d1, d2, d3] }
  | _ => none }
def MemoryDrainsWrongFalsely : Prop := memoryDrainsRow.holds Tryz.pinned (OpenSpec.ofChange memoryDrainsWrong)

/-- 'cadenzalaw43.MemoryBound': WHATEVER THE INPUT: true; the input reads as it did. -/
def memoryBoundSpec : ChangeSpec := { name := "memoryBound", fn := fun _ => fun
  | [d1, d2, d3] => { results := [.lit (.bool true)], args := [d1, d2, d3] }
  | _ => none }
def memoryBoundRow : OpenClaim := { program := "ytheamkpclkijmaagreatdoor", sum := "4b99637e484ff7c0fc4696336de746032030c44b6cd1c68f9a07dae9764ca95c", func := "cadenza/cadenzalaw43.MemoryBound", spec := "memoryBound", unfollowed := true, recurses := true, named := ["cadenza/header.widths", "cadenza/pushdec.waits", "cadenza/pushdec.taken", "math/bits.deBruijn64tab"], apart := false, laid := [("math/bits.deBruijn64tab", laid_math_bits_deBruijn64tab), ("cadenza/header.widths", laid_cadenza_header_widths), ("cadenza/pushdec.taken", laid_cadenza_pushdec_taken), ("cadenza/pushdec.waits", laid_cadenza_pushdec_waits)] }
def MemoryBoundSaid : Prop := memoryBoundRow.holds Tryz.pinned (OpenSpec.ofChange memoryBoundSpec)

/-- ITS FALSE NEIGHBOUR: 'it returns false'. Refute it at one input. -/
def memoryBoundWrong : ChangeSpec := { name := "memoryBound", fn := fun _ => fun
  | [d1, d2, d3] => { results := [.lit (.bool false)], args := [d1, d2, d3] }
  | _ => none }
def MemoryBoundWrongFalsely : Prop := memoryBoundRow.holds Tryz.pinned (OpenSpec.ofChange memoryBoundWrong)

/-- 'cadenzalaw38.ScriptEven': WHATEVER THE INPUT: true; the input reads as it did. -/
def scriptEvenSpec : ChangeSpec := { name := "scriptEven", fn := fun _ => fun
  | [d1, d2, d3, d4] => { results := [.lit (.bool true)], args := [d1, d2, d3, d4] }
  | _ => none }
def scriptEvenRow : OpenClaim := { program := "ytheamkpclkijmaagreatdoor", sum := "4b99637e484ff7c0fc4696336de746032030c44b6cd1c68f9a07dae9764ca95c", func := "cadenza/cadenzalaw38.ScriptEven", spec := "scriptEven", unfollowed := true, recurses := true, named := ["cadenza/header.widths", "cadenza/pushdec.waits", "cadenza/pushdec.taken", "math/bits.deBruijn64tab"], apart := false, laid := [("math/bits.deBruijn64tab", laid_math_bits_deBruijn64tab), ("cadenza/header.widths", laid_cadenza_header_widths), ("cadenza/pushdec.taken", laid_cadenza_pushdec_taken), ("cadenza/pushdec.waits", laid_cadenza_pushdec_waits)] }
def ScriptEvenSaid : Prop := scriptEvenRow.holds Tryz.pinned (OpenSpec.ofChange scriptEvenSpec)

/-- ITS FALSE NEIGHBOUR: 'it returns false'. Refute it at one input. -/
def scriptEvenWrong : ChangeSpec := { name := "scriptEven", fn := fun _ => fun
  | [d1, d2, d3, d4] => { results := [.lit (.bool false)], args := [d1, d2, d3, d4] }
  | _ => none }
def ScriptEvenWrongFalsely : Prop := scriptEvenRow.holds Tryz.pinned (OpenSpec.ofChange scriptEvenWrong)

/- THE SECOND FORM. 'bulk': how many values and letters a reading holds, each counted each time it is reached (what is shared counts as often as it is met; a slice's spare places count too). A statement '..UptoSaid' is the law's where the arguments, and the package variables that the reading takes, are together of bulk at most 1048576: NARROWER than '..Said'. Prove '..Said' where nothing that the law and all that it calls make is longer than what came in: it says more and counts as full. Else prove '..UptoSaid'. A law counts once. -/
mutual
def uptoBulk {H : Type} : DataW H → Nat
  | .lit (.string bytes) => bytes.length + 1
  | .lit _ => 1
  | .nil => 1
  | .ptr d => uptoBulk d + 1
  | .slice elems spare => uptoBulkAll elems + uptoBulkAll spare + 1
  | .agg parts => uptoBulkAll parts + 1
  | .iface _ d => uptoBulk d + 1
  | .map entries => uptoBulkEntries entries + 1
  | .held _ => 1
def uptoBulkAll {H : Type} : List (DataW H) → Nat
  | [] => 0
  | d :: r => uptoBulk d + uptoBulkAll r
def uptoBulkEntries {H : Type} : List (Lit × DataW H) → Nat
  | [] => 0
  | x :: r => uptoBulkEntry x + uptoBulkEntries r
def uptoBulkEntry {H : Type} : Lit × DataW H → Nat
  | (.string bytes, d) => bytes.length + uptoBulk d + 1
  | (_, d) => uptoBulk d + 1
 end
def uptoSmall : (H : Type) → List (DataW H) → Bool := fun _ ds => decide (uptoBulkAll ds ≤ 1048576)
def OpenSpec.upto (s : _root_.Go.ChangeSpec) : _root_.Go.OpenSpec := { _root_.Go.OpenSpec.ofChange s with cond := some uptoSmall }

/-- 'cadenzalaw38.ScriptSays', WHERE WHAT IT READS IS OF BULK AT MOST 1048576: true; the input reads as it did. -/
def scriptSaysUptoRow : OpenClaim := { program := "ytheamkpclkijmaagreatdoor", sum := "4b99637e484ff7c0fc4696336de746032030c44b6cd1c68f9a07dae9764ca95c", func := "cadenza/cadenzalaw38.ScriptSays", spec := "scriptSays", unfollowed := true, recurses := true, named := ["cadenza/header.widths", "cadenza/pushdec.waits", "cadenza/pushdec.taken", "math/bits.deBruijn64tab"], apart := false, laid := [("math/bits.deBruijn64tab", laid_math_bits_deBruijn64tab), ("cadenza/header.widths", laid_cadenza_header_widths), ("cadenza/pushdec.taken", laid_cadenza_pushdec_taken), ("cadenza/pushdec.waits", laid_cadenza_pushdec_waits)], narrowed := true }
def ScriptSaysUptoSaid : Prop := scriptSaysUptoRow.holds Tryz.pinned (OpenSpec.upto scriptSaysSpec)

/-- 'cadenzalaw43.MemoryDrains', WHERE WHAT IT READS IS OF BULK AT MOST 1048576: true; the input reads as it did. -/
def memoryDrainsUptoRow : OpenClaim := { program := "ytheamkpclkijmaagreatdoor", sum := "4b99637e484ff7c0fc4696336de746032030c44b6cd1c68f9a07dae9764ca95c", func := "cadenza/cadenzalaw43.MemoryDrains", spec := "memoryDrains", unfollowed := true, recurses := true, named := ["cadenza/header.widths", "cadenza/pushdec.waits", "cadenza/pushdec.taken", "math/bits.deBruijn64tab"], apart := false, laid := [("math/bits.deBruijn64tab", laid_math_bits_deBruijn64tab), ("cadenza/header.widths", laid_cadenza_header_widths), ("cadenza/pushdec.taken", laid_cadenza_pushdec_taken), ("cadenza/pushdec.waits", laid_cadenza_pushdec_waits)], narrowed := true }
def MemoryDrainsUptoSaid : Prop := memoryDrainsUptoRow.holds Tryz.pinned (OpenSpec.upto memoryDrainsSpec)

/-- 'cadenzalaw43.MemoryBound', WHERE WHAT IT READS IS OF BULK AT MOST 1048576: true; the input reads as it did. -/
def memoryBoundUptoRow : OpenClaim := { program := "ytheamkpclkijmaagreatdoor", sum := "4b99637e484ff7c0fc4696336de746032030c44b6cd1c68f9a07dae9764ca95c", func := "cadenza/cadenzalaw43.MemoryBound", spec := "memoryBound", unfollowed := true, recurses := true, named := ["cadenza/header.widths", "cadenza/pushdec.waits", "cadenza/pushdec.taken", "math/bits.deBruijn64tab"], apart := false, laid := [("math/bits.deBruijn64tab", laid_math_bits_deBruijn64tab), ("cadenza/header.widths", laid_cadenza_header_widths), ("cadenza/pushdec.taken", laid_cadenza_pushdec_taken), ("cadenza/pushdec.waits", laid_cadenza_pushdec_waits)], narrowed := true }
def MemoryBoundUptoSaid : Prop := memoryBoundUptoRow.holds Tryz.pinned (OpenSpec.upto memoryBoundSpec)

/-- 'cadenzalaw38.ScriptEven', WHERE WHAT IT READS IS OF BULK AT MOST 1048576: true; the input reads as it did. -/
def scriptEvenUptoRow : OpenClaim := { program := "ytheamkpclkijmaagreatdoor", sum := "4b99637e484ff7c0fc4696336de746032030c44b6cd1c68f9a07dae9764ca95c", func := "cadenza/cadenzalaw38.ScriptEven", spec := "scriptEven", unfollowed := true, recurses := true, named := ["cadenza/header.widths", "cadenza/pushdec.waits", "cadenza/pushdec.taken", "math/bits.deBruijn64tab"], apart := false, laid := [("math/bits.deBruijn64tab", laid_math_bits_deBruijn64tab), ("cadenza/header.widths", laid_cadenza_header_widths), ("cadenza/pushdec.taken", laid_cadenza_pushdec_taken), ("cadenza/pushdec.waits", laid_cadenza_pushdec_waits)], narrowed := true }
def ScriptEvenUptoSaid : Prop := scriptEvenUptoRow.holds Tryz.pinned (OpenSpec.upto scriptEvenSpec)

end Rows
end Go.Proofs.YtheamkpclkijmaaGreatDoor
