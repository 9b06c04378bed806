/-
  NARROWER THAN 'FOR EVERY INPUT', by the rows' own cells (each row's printed sentence says how): SeektoOpens: laid · PolicyBads: laid · SeektoGoes: laid · PolicyDecodes: laid.
  DERIVED. THE GIVEN ROWS OF THIS SEAT. 4 by the template 'for every input the law returns true; each argument reads behind the call as it read before'; 0 by the template 'total and deterministic' (their statements: YthchpoekjnapnaaGreatDoorTotals.lean).
  GIVEN WITH THE SEED: the statements are not yours to turn. If you find one false, say at which input.
  Laid BY PROGRAM, IN A SANDBOX (cutbox-rows.mjs): the forced cells as the released guide's own fill.sh prints them over the translation 01104ece4ef82e4d… (all of the seat's roots in one cut). By AI agents, Wed Nov 11 2026. No macro, syntax, notation, axiom, sorry.
-/
import Derived.Test.YthchpoekjnapnaaGreatDoorChecked
import GoSem.Claim
import GoSem.ClaimJoined
import GoSem.ClaimMapViews
import Derived.JoinedTies
import Derived.KernelRfl
namespace Go.Proofs.YthchpoekjnapnaaGreatDoor
/- THE CELL 'sum', in the pinned program and in every row, IS THE sha256 OF THE DUMP (.gsa) THAT YthchpoekjnapnaaGreatDoorProg.lean LOADS. Nothing in Lean hashes anything: it is a label: what it is worth is what the hold of that sum in a sandbox is worth. -/
noncomputable def Tryz.pinned : Pinned := { name := "ythchpoekjnapnaagreatdoor", sum := "01104ece4ef82e4d077073f2d98dda10aeaee709018b37c3df183d844d3ce63d", checked := Tryz.checked }
namespace Rows
def none {H : Type} : Left H := { results := [], args := [] }

/- WHAT THE LISTED PACKAGE-LEVEL VARIABLES READ AS WHEN THE CALL BEGINS. Each datum BY PROGRAM (the guide's laid-datum.mjs) off the statement by which the dump's own 'gosem.cut.vars' lays the variable. In a bare row this is a premise. The card (YthchpoekjnapnaaGreatDoorCards.lean) ties it to the program's text. -/
def laid_math_bits_deBruijn64tab {H : Type} : DataW H := .agg [.lit (.int .u8 0), .lit (.int .u8 1), .lit (.int .u8 56), .lit (.int .u8 2), .lit (.int .u8 57), .lit (.int .u8 49), .lit (.int .u8 28), .lit (.int .u8 3), .lit (.int .u8 61), .lit (.int .u8 58), .lit (.int .u8 42), .lit (.int .u8 50), .lit (.int .u8 38), .lit (.int .u8 29), .lit (.int .u8 17), .lit (.int .u8 4), .lit (.int .u8 62), .lit (.int .u8 47), .lit (.int .u8 59), .lit (.int .u8 36), .lit (.int .u8 45), .lit (.int .u8 43), .lit (.int .u8 51), .lit (.int .u8 22), .lit (.int .u8 53), .lit (.int .u8 39), .lit (.int .u8 33), .lit (.int .u8 30), .lit (.int .u8 24), .lit (.int .u8 18), .lit (.int .u8 12), .lit (.int .u8 5), .lit (.int .u8 63), .lit (.int .u8 55), .lit (.int .u8 48), .lit (.int .u8 27), .lit (.int .u8 60), .lit (.int .u8 41), .lit (.int .u8 37), .lit (.int .u8 16), .lit (.int .u8 46), .lit (.int .u8 35), .lit (.int .u8 44), .lit (.int .u8 21), .lit (.int .u8 52), .lit (.int .u8 32), .lit (.int .u8 23), .lit (.int .u8 11), .lit (.int .u8 54), .lit (.int .u8 26), .lit (.int .u8 40), .lit (.int .u8 15), .lit (.int .u8 34), .lit (.int .u8 20), .lit (.int .u8 31), .lit (.int .u8 10), .lit (.int .u8 25), .lit (.int .u8 14), .lit (.int .u8 19), .lit (.int .u8 9), .lit (.int .u8 13), .lit (.int .u8 8), .lit (.int .u8 7), .lit (.int .u8 6)]
def laid_cadenza_header_widths {H : Type} : DataW H := .agg [.lit (.int .i64 2), .lit (.int .i64 2), .lit (.int .i64 2), .lit (.int .i64 4), .lit (.int .i64 4)]

/-- 'cadenzalaw40.SeektoOpens': WHATEVER THE INPUT: true; the input reads as it did. -/
def seektoOpensSpec : ChangeSpec := { name := "seektoOpens", fn := fun _ => fun
  | [d1, d2, d3] => { results := [.lit (.bool true)], args := [d1, d2, d3] }
  | _ => none }
def seektoOpensRow : OpenClaim := { program := "ythchpoekjnapnaagreatdoor", sum := "01104ece4ef82e4d077073f2d98dda10aeaee709018b37c3df183d844d3ce63d", func := "cadenza/cadenzalaw40.SeektoOpens", spec := "seektoOpens", unfollowed := true, recurses := true, named := ["cadenza/header.widths", "math/bits.deBruijn64tab"], apart := false, laid := [("math/bits.deBruijn64tab", laid_math_bits_deBruijn64tab), ("cadenza/header.widths", laid_cadenza_header_widths)] }
def SeektoOpensSaid : Prop := seektoOpensRow.holds Tryz.pinned (OpenSpec.ofChange seektoOpensSpec)

/-- ITS FALSE NEIGHBOUR: 'it returns false'. Refute it at one input. -/
def seektoOpensWrong : ChangeSpec := { name := "seektoOpens", fn := fun _ => fun
  | [d1, d2, d3] => { results := [.lit (.bool false)], args := [d1, d2, d3] }
  | _ => none }
def SeektoOpensWrongFalsely : Prop := seektoOpensRow.holds Tryz.pinned (OpenSpec.ofChange seektoOpensWrong)

/-- 'cadenzalaw41.PolicyBads': WHATEVER THE INPUT: true; the input reads as it did. -/
def policyBadsSpec : ChangeSpec := { name := "policyBads", fn := fun _ => fun
  | [d1, d2] => { results := [.lit (.bool true)], args := [d1, d2] }
  | _ => none }
def policyBadsRow : OpenClaim := { program := "ythchpoekjnapnaagreatdoor", sum := "01104ece4ef82e4d077073f2d98dda10aeaee709018b37c3df183d844d3ce63d", func := "cadenza/cadenzalaw41.PolicyBads", spec := "policyBads", unfollowed := true, recurses := true, named := ["cadenza/header.widths", "math/bits.deBruijn64tab"], apart := false, laid := [("math/bits.deBruijn64tab", laid_math_bits_deBruijn64tab), ("cadenza/header.widths", laid_cadenza_header_widths)] }
def PolicyBadsSaid : Prop := policyBadsRow.holds Tryz.pinned (OpenSpec.ofChange policyBadsSpec)

/-- ITS FALSE NEIGHBOUR: 'it returns false'. Refute it at one input. -/
def policyBadsWrong : ChangeSpec := { name := "policyBads", fn := fun _ => fun
  | [d1, d2] => { results := [.lit (.bool false)], args := [d1, d2] }
  | _ => none }
def PolicyBadsWrongFalsely : Prop := policyBadsRow.holds Tryz.pinned (OpenSpec.ofChange policyBadsWrong)

/-- 'cadenzalaw40.SeektoGoes': WHATEVER THE INPUT: true; the input reads as it did. -/
def seektoGoesSpec : ChangeSpec := { name := "seektoGoes", fn := fun _ => fun
  | [d1, d2, d3, d4] => { results := [.lit (.bool true)], args := [d1, d2, d3, d4] }
  | _ => none }
def seektoGoesRow : OpenClaim := { program := "ythchpoekjnapnaagreatdoor", sum := "01104ece4ef82e4d077073f2d98dda10aeaee709018b37c3df183d844d3ce63d", func := "cadenza/cadenzalaw40.SeektoGoes", spec := "seektoGoes", unfollowed := true, recurses := true, named := ["cadenza/header.widths", "math/bits.deBruijn64tab"], apart := false, laid := [("math/bits.deBruijn64tab", laid_math_bits_deBruijn64tab), ("cadenza/header.widths", laid_cadenza_header_widths)] }
def SeektoGoesSaid : Prop := seektoGoesRow.holds Tryz.pinned (OpenSpec.ofChange seektoGoesSpec)

/-- ITS FALSE NEIGHBOUR: 'it returns false'. Refute it at one input. -/
def seektoGoesWrong : ChangeSpec := { name := "seektoGoes", fn := fun _ => fun
  | [d1, d2, d3, d4] => { results := [.lit (.bool false)], args := [d1, d2, d3, d4] }
  | _ => none }
def SeektoGoesWrongFalsely : Prop := seektoGoesRow.holds Tryz.pinned (OpenSpec.ofChange seektoGoesWrong)

/-- 'cadenzalaw41.PolicyDecodes': WHATEVER THE INPUT: true; the input reads as it did. -/
def policyDecodesSpec : ChangeSpec := { name := "policyDecodes", fn := fun _ => fun
  | [d1, d2, d3] => { results := [.lit (.bool true)], args := [d1, d2, d3] }
  | _ => none }
def policyDecodesRow : OpenClaim := { program := "ythchpoekjnapnaagreatdoor", sum := "01104ece4ef82e4d077073f2d98dda10aeaee709018b37c3df183d844d3ce63d", func := "cadenza/cadenzalaw41.PolicyDecodes", spec := "policyDecodes", unfollowed := true, recurses := true, named := ["cadenza/header.widths", "math/bits.deBruijn64tab"], apart := false, laid := [("math/bits.deBruijn64tab", laid_math_bits_deBruijn64tab), ("cadenza/header.widths", laid_cadenza_header_widths)] }
def PolicyDecodesSaid : Prop := policyDecodesRow.holds Tryz.pinned (OpenSpec.ofChange policyDecodesSpec)

/-- ITS FALSE NEIGHBOUR: 'it returns false'. Refute it at one input. -/
def policyDecodesWrong : ChangeSpec := { name := "policyDecodes", fn := fun _ => fun
  | [d1, d2, d3] => { results := [.lit (.bool false)], args := [d1, d2, d3] }
  | _ => none }
def PolicyDecodesWrongFalsely : Prop := policyDecodesRow.holds Tryz.pinned (OpenSpec.ofChange policyDecodesWrong)

/- THE SECOND FORM. 'bulk': how many values and letters a reading holds, each counted each time it is reached (what is shared counts as often as it is met; a slice's spare places count too). A statement '..UptoSaid' is the law's where the arguments, and the package variables that the reading takes, are together of bulk at most 1048576: NARROWER than '..Said'. Prove '..Said' where nothing that the law and all that it calls make is longer than what came in: it says more and counts as full. Else prove '..UptoSaid'. A law counts once. -/
mutual
def uptoBulk {H : Type} : DataW H → Nat
  | .lit (.string bytes) => bytes.length + 1
  | .lit _ => 1
  | .nil => 1
  | .ptr d => uptoBulk d + 1
  | .slice elems spare => uptoBulkAll elems + uptoBulkAll spare + 1
  | .agg parts => uptoBulkAll parts + 1
  | .iface _ d => uptoBulk d + 1
  | .map entries => uptoBulkEntries entries + 1
  | .held _ => 1
def uptoBulkAll {H : Type} : List (DataW H) → Nat
  | [] => 0
  | d :: r => uptoBulk d + uptoBulkAll r
def uptoBulkEntries {H : Type} : List (Lit × DataW H) → Nat
  | [] => 0
  | x :: r => uptoBulkEntry x + uptoBulkEntries r
def uptoBulkEntry {H : Type} : Lit × DataW H → Nat
  | (.string bytes, d) => bytes.length + uptoBulk d + 1
  | (_, d) => uptoBulk d + 1
 end
def uptoSmall : (H : Type) → List (DataW H) → Bool := fun _ ds => decide (uptoBulkAll ds ≤ 1048576)
def OpenSpec.upto (s : _root_.Go.ChangeSpec) : _root_.Go.OpenSpec := { _root_.Go.OpenSpec.ofChange s with cond := some uptoSmall }

/-- 'cadenzalaw40.SeektoOpens', WHERE WHAT IT READS IS OF BULK AT MOST 1048576: true; the input reads as it did. -/
def seektoOpensUptoRow : OpenClaim := { program := "ythchpoekjnapnaagreatdoor", sum := "01104ece4ef82e4d077073f2d98dda10aeaee709018b37c3df183d844d3ce63d", func := "cadenza/cadenzalaw40.SeektoOpens", spec := "seektoOpens", unfollowed := true, recurses := true, named := ["cadenza/header.widths", "math/bits.deBruijn64tab"], apart := false, laid := [("math/bits.deBruijn64tab", laid_math_bits_deBruijn64tab), ("cadenza/header.widths", laid_cadenza_header_widths)], narrowed := true }
def SeektoOpensUptoSaid : Prop := seektoOpensUptoRow.holds Tryz.pinned (OpenSpec.upto seektoOpensSpec)

/-- 'cadenzalaw41.PolicyBads', WHERE WHAT IT READS IS OF BULK AT MOST 1048576: true; the input reads as it did. -/
def policyBadsUptoRow : OpenClaim := { program := "ythchpoekjnapnaagreatdoor", sum := "01104ece4ef82e4d077073f2d98dda10aeaee709018b37c3df183d844d3ce63d", func := "cadenza/cadenzalaw41.PolicyBads", spec := "policyBads", unfollowed := true, recurses := true, named := ["cadenza/header.widths", "math/bits.deBruijn64tab"], apart := false, laid := [("math/bits.deBruijn64tab", laid_math_bits_deBruijn64tab), ("cadenza/header.widths", laid_cadenza_header_widths)], narrowed := true }
def PolicyBadsUptoSaid : Prop := policyBadsUptoRow.holds Tryz.pinned (OpenSpec.upto policyBadsSpec)

/-- 'cadenzalaw40.SeektoGoes', WHERE WHAT IT READS IS OF BULK AT MOST 1048576: true; the input reads as it did. -/
def seektoGoesUptoRow : OpenClaim := { program := "ythchpoekjnapnaagreatdoor", sum := "01104ece4ef82e4d077073f2d98dda10aeaee709018b37c3df183d844d3ce63d", func := "cadenza/cadenzalaw40.SeektoGoes", spec := "seektoGoes", unfollowed := true, recurses := true, named := ["cadenza/header.widths", "math/bits.deBruijn64tab"], apart := false, laid := [("math/bits.deBruijn64tab", laid_math_bits_deBruijn64tab), ("cadenza/header.widths", laid_cadenza_header_widths)], narrowed := true }
def SeektoGoesUptoSaid : Prop := seektoGoesUptoRow.holds Tryz.pinned (OpenSpec.upto seektoGoesSpec)

/-- 'cadenzalaw41.PolicyDecodes', WHERE WHAT IT READS IS OF BULK AT MOST 1048576: true; the input reads as it did. -/
def policyDecodesUptoRow : OpenClaim := { program := "ythchpoekjnapnaagreatdoor", sum := "01104ece4ef82e4d077073f2d98dda10aeaee709018b37c3df183d844d3ce63d", func := "cadenza/cadenzalaw41.PolicyDecodes", spec := "policyDecodes", unfollowed := true, recurses := true, named := ["cadenza/header.widths", "math/bits.deBruijn64tab"], apart := false, laid := [("math/bits.deBruijn64tab", laid_math_bits_deBruijn64tab), ("cadenza/header.widths", laid_cadenza_header_widths)], narrowed := true }
def PolicyDecodesUptoSaid : Prop := policyDecodesUptoRow.holds Tryz.pinned (OpenSpec.upto policyDecodesSpec)

end Rows
end Go.Proofs.YthchpoekjnapnaaGreatDoor
