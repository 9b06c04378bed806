/-
  NARROWER THAN 'FOR EVERY INPUT', by the rows' own cells (each row's printed sentence says how): SeektoOthers: laid · PushdecFrames: laid · PolicyOthers: laid · DamageFound: laid · DamageGood: laid.
  DERIVED. THE GIVEN ROWS OF THIS SEAT. 5 by the template 'for every input the law returns true; each argument reads behind the call as it read before'; 0 by the template 'total and deterministic' (their statements: YtidigmkmfmopgaaGreatDoorTotals.lean).
  GIVEN WITH THE SEED: the statements are not yours to turn. If you find one false, say at which input.
  Laid BY PROGRAM, IN A SANDBOX (cutbox-rows.mjs): the forced cells as the released guide's own fill.sh prints them over the translation 7ba08112729f2fc0… (all of the seat's roots in one cut). By AI agents, Wed Nov 11 2026. No macro, syntax, notation, axiom, sorry.
-/
import Derived.Test.YtidigmkmfmopgaaGreatDoorChecked
import GoSem.Claim
import GoSem.ClaimJoined
import GoSem.ClaimMapViews
import Derived.JoinedTies
import Derived.KernelRfl
namespace Go.Proofs.YtidigmkmfmopgaaGreatDoor
/- THE CELL 'sum', in the pinned program and in every row, IS THE sha256 OF THE DUMP (.gsa) THAT YtidigmkmfmopgaaGreatDoorProg.lean LOADS. Nothing in Lean hashes anything: it is a label: what it is worth is what the hold of that sum in a sandbox is worth. -/
noncomputable def Tryz.pinned : Pinned := { name := "ytidigmkmfmopgaagreatdoor", sum := "7ba08112729f2fc032e0e4f3d0a3fd7b0b3cf4d3fb37c1c2ce8f8b8deded663d", checked := Tryz.checked }
namespace Rows
def none {H : Type} : Left H := { results := [], args := [] }

/- WHAT THE LISTED PACKAGE-LEVEL VARIABLES READ AS WHEN THE CALL BEGINS. Each datum BY PROGRAM (the guide's laid-datum.mjs) off the statement by which the dump's own 'gosem.cut.vars' lays the variable. In a bare row this is a premise. The card (YtidigmkmfmopgaaGreatDoorCards.lean) ties it to the program's text. -/
def laid_math_bits_deBruijn64tab {H : Type} : DataW H := .agg [.lit (.int .u8 0), .lit (.int .u8 1), .lit (.int .u8 56), .lit (.int .u8 2), .lit (.int .u8 57), .lit (.int .u8 49), .lit (.int .u8 28), .lit (.int .u8 3), .lit (.int .u8 61), .lit (.int .u8 58), .lit (.int .u8 42), .lit (.int .u8 50), .lit (.int .u8 38), .lit (.int .u8 29), .lit (.int .u8 17), .lit (.int .u8 4), .lit (.int .u8 62), .lit (.int .u8 47), .lit (.int .u8 59), .lit (.int .u8 36), .lit (.int .u8 45), .lit (.int .u8 43), .lit (.int .u8 51), .lit (.int .u8 22), .lit (.int .u8 53), .lit (.int .u8 39), .lit (.int .u8 33), .lit (.int .u8 30), .lit (.int .u8 24), .lit (.int .u8 18), .lit (.int .u8 12), .lit (.int .u8 5), .lit (.int .u8 63), .lit (.int .u8 55), .lit (.int .u8 48), .lit (.int .u8 27), .lit (.int .u8 60), .lit (.int .u8 41), .lit (.int .u8 37), .lit (.int .u8 16), .lit (.int .u8 46), .lit (.int .u8 35), .lit (.int .u8 44), .lit (.int .u8 21), .lit (.int .u8 52), .lit (.int .u8 32), .lit (.int .u8 23), .lit (.int .u8 11), .lit (.int .u8 54), .lit (.int .u8 26), .lit (.int .u8 40), .lit (.int .u8 15), .lit (.int .u8 34), .lit (.int .u8 20), .lit (.int .u8 31), .lit (.int .u8 10), .lit (.int .u8 25), .lit (.int .u8 14), .lit (.int .u8 19), .lit (.int .u8 9), .lit (.int .u8 13), .lit (.int .u8 8), .lit (.int .u8 7), .lit (.int .u8 6)]
def laid_cadenza_header_widths {H : Type} : DataW H := .agg [.lit (.int .i64 2), .lit (.int .i64 2), .lit (.int .i64 2), .lit (.int .i64 4), .lit (.int .i64 4)]
def laid_cadenza_pushdec_taken {H : Type} : DataW H := .agg [.lit (.bool false), .lit (.int .i64 0)]
def laid_cadenza_pushdec_waits {H : Type} : DataW H := .agg [.lit (.bool true), .lit (.int .i64 0)]

/-- 'cadenzalaw40.SeektoOthers': WHATEVER THE INPUT: true; the input reads as it did. -/
def seektoOthersSpec : ChangeSpec := { name := "seektoOthers", fn := fun _ => fun
  | [d1, d2, d3, d4] => { results := [.lit (.bool true)], args := [d1, d2, d3, d4] }
  | _ => none }
def seektoOthersRow : OpenClaim := { program := "ytidigmkmfmopgaagreatdoor", sum := "7ba08112729f2fc032e0e4f3d0a3fd7b0b3cf4d3fb37c1c2ce8f8b8deded663d", func := "cadenza/cadenzalaw40.SeektoOthers", spec := "seektoOthers", unfollowed := true, recurses := true, named := ["cadenza/header.widths", "math/bits.deBruijn64tab"], apart := false, laid := [("math/bits.deBruijn64tab", laid_math_bits_deBruijn64tab), ("cadenza/header.widths", laid_cadenza_header_widths)] }
def SeektoOthersSaid : Prop := seektoOthersRow.holds Tryz.pinned (OpenSpec.ofChange seektoOthersSpec)

/-- ITS FALSE NEIGHBOUR: 'it returns false'. Refute it at one input. -/
def seektoOthersWrong : ChangeSpec := { name := "seektoOthers", fn := fun _ => fun
  | [d1, d2, d3, d4] => { results := [.lit (.bool false)], args := [d1, d2, d3, d4] }
  | _ => none }
def SeektoOthersWrongFalsely : Prop := seektoOthersRow.holds Tryz.pinned (OpenSpec.ofChange seektoOthersWrong)

/-- 'cadenzalaw37.PushdecFrames': WHATEVER THE INPUT: true; the input reads as it did. -/
def pushdecFramesSpec : ChangeSpec := { name := "pushdecFrames", fn := fun _ => fun
  | [d1, d2, d3, d4] => { results := [.lit (.bool true)], args := [d1, d2, d3, d4] }
  | _ => none }
def pushdecFramesRow : OpenClaim := { program := "ytidigmkmfmopgaagreatdoor", sum := "7ba08112729f2fc032e0e4f3d0a3fd7b0b3cf4d3fb37c1c2ce8f8b8deded663d", func := "cadenza/cadenzalaw37.PushdecFrames", spec := "pushdecFrames", unfollowed := true, recurses := true, named := ["cadenza/header.widths", "cadenza/pushdec.waits", "cadenza/pushdec.taken", "math/bits.deBruijn64tab"], apart := false, laid := [("math/bits.deBruijn64tab", laid_math_bits_deBruijn64tab), ("cadenza/header.widths", laid_cadenza_header_widths), ("cadenza/pushdec.taken", laid_cadenza_pushdec_taken), ("cadenza/pushdec.waits", laid_cadenza_pushdec_waits)] }
def PushdecFramesSaid : Prop := pushdecFramesRow.holds Tryz.pinned (OpenSpec.ofChange pushdecFramesSpec)

/-- ITS FALSE NEIGHBOUR: 'it returns false'. Refute it at one input. -/
def pushdecFramesWrong : ChangeSpec := { name := "pushdecFrames", fn := fun _ => fun
  | [d1, d2, d3, d4] => { results := [.lit (.bool false)], args := [d1, d2, d3, d4] }
  | _ => none }
def PushdecFramesWrongFalsely : Prop := pushdecFramesRow.holds Tryz.pinned (OpenSpec.ofChange pushdecFramesWrong)

/-- 'cadenzalaw41.PolicyOthers': WHATEVER THE INPUT: true; the input reads as it did. -/
def policyOthersSpec : ChangeSpec := { name := "policyOthers", fn := fun _ => fun
  | [d1, d2, d3, d4] => { results := [.lit (.bool true)], args := [d1, d2, d3, d4] }
  | _ => none }
def policyOthersRow : OpenClaim := { program := "ytidigmkmfmopgaagreatdoor", sum := "7ba08112729f2fc032e0e4f3d0a3fd7b0b3cf4d3fb37c1c2ce8f8b8deded663d", func := "cadenza/cadenzalaw41.PolicyOthers", spec := "policyOthers", unfollowed := true, recurses := true, named := ["cadenza/header.widths", "math/bits.deBruijn64tab"], apart := false, laid := [("math/bits.deBruijn64tab", laid_math_bits_deBruijn64tab), ("cadenza/header.widths", laid_cadenza_header_widths)] }
def PolicyOthersSaid : Prop := policyOthersRow.holds Tryz.pinned (OpenSpec.ofChange policyOthersSpec)

/-- ITS FALSE NEIGHBOUR: 'it returns false'. Refute it at one input. -/
def policyOthersWrong : ChangeSpec := { name := "policyOthers", fn := fun _ => fun
  | [d1, d2, d3, d4] => { results := [.lit (.bool false)], args := [d1, d2, d3, d4] }
  | _ => none }
def PolicyOthersWrongFalsely : Prop := policyOthersRow.holds Tryz.pinned (OpenSpec.ofChange policyOthersWrong)

/-- 'cadenzalaw44.DamageFound': WHATEVER THE INPUT: true; the input reads as it did. -/
def damageFoundSpec : ChangeSpec := { name := "damageFound", fn := fun _ => fun
  | [d1, d2, d3, d4] => { results := [.lit (.bool true)], args := [d1, d2, d3, d4] }
  | _ => none }
def damageFoundRow : OpenClaim := { program := "ytidigmkmfmopgaagreatdoor", sum := "7ba08112729f2fc032e0e4f3d0a3fd7b0b3cf4d3fb37c1c2ce8f8b8deded663d", func := "cadenza/cadenzalaw44.DamageFound", spec := "damageFound", unfollowed := true, recurses := true, named := ["cadenza/header.widths", "math/bits.deBruijn64tab"], apart := false, laid := [("math/bits.deBruijn64tab", laid_math_bits_deBruijn64tab), ("cadenza/header.widths", laid_cadenza_header_widths)] }
def DamageFoundSaid : Prop := damageFoundRow.holds Tryz.pinned (OpenSpec.ofChange damageFoundSpec)

/-- ITS FALSE NEIGHBOUR: 'it returns false'. Refute it at one input. -/
def damageFoundWrong : ChangeSpec := { name := "damageFound", fn := fun _ => fun
  | [d1, d2, d3, d4] => { results := [.lit (.bool false)], args := [d1, d2, d3, d4] }
  | _ => none }
def DamageFoundWrongFalsely : Prop := damageFoundRow.holds Tryz.pinned (OpenSpec.ofChange damageFoundWrong)

/-- 'cadenzalaw44.DamageGood': WHATEVER THE INPUT: true; the input reads as it did. -/
def damageGoodSpec : ChangeSpec := { name := "damageGood", fn := fun _ => fun
  | [d1, d2, d3, d4] => { results := [.lit (.bool true)], args := [d1, d2, d3, d4] }
  | _ => none }
def damageGoodRow : OpenClaim := { program := "ytidigmkmfmopgaagreatdoor", sum := "7ba08112729f2fc032e0e4f3d0a3fd7b0b3cf4d3fb37c1c2ce8f8b8deded663d", func := "cadenza/cadenzalaw44.DamageGood", spec := "damageGood", unfollowed := true, recurses := true, named := ["cadenza/header.widths", "math/bits.deBruijn64tab", "cadenza/pushdec.waits", "cadenza/pushdec.taken"], apart := false, laid := [("math/bits.deBruijn64tab", laid_math_bits_deBruijn64tab), ("cadenza/header.widths", laid_cadenza_header_widths), ("cadenza/pushdec.taken", laid_cadenza_pushdec_taken), ("cadenza/pushdec.waits", laid_cadenza_pushdec_waits)] }
def DamageGoodSaid : Prop := damageGoodRow.holds Tryz.pinned (OpenSpec.ofChange damageGoodSpec)

/-- ITS FALSE NEIGHBOUR: 'it returns false'. Refute it at one input. -/
def damageGoodWrong : ChangeSpec := { name := "damageGood", fn := fun _ => fun
  | [d1, d2, d3, d4] => { results := [.lit (.bool false)], args := [d1, d2, d3, d4] }
  | _ => none }
def DamageGoodWrongFalsely : Prop := damageGoodRow.holds Tryz.pinned (OpenSpec.ofChange damageGoodWrong)

/- THE SECOND FORM. 'bulk': how many values and letters a reading holds, each counted each time it is reached (what is shared counts as often as it is met; a slice's spare places count too). A statement '..UptoSaid' is the law's where the arguments, and the package variables that the reading takes, are together of bulk at most 1048576: NARROWER than '..Said'. Prove '..Said' where nothing that the law and all that it calls make is longer than what came in: it says more and counts as full. Else prove '..UptoSaid'. A law counts once. -/
mutual
def uptoBulk {H : Type} : DataW H → Nat
  | .lit (.string bytes) => bytes.length + 1
  | .lit _ => 1
  | .nil => 1
  | .ptr d => uptoBulk d + 1
  | .slice elems spare => uptoBulkAll elems + uptoBulkAll spare + 1
  | .agg parts => uptoBulkAll parts + 1
  | .iface _ d => uptoBulk d + 1
  | .map entries => uptoBulkEntries entries + 1
  | .held _ => 1
def uptoBulkAll {H : Type} : List (DataW H) → Nat
  | [] => 0
  | d :: r => uptoBulk d + uptoBulkAll r
def uptoBulkEntries {H : Type} : List (Lit × DataW H) → Nat
  | [] => 0
  | x :: r => uptoBulkEntry x + uptoBulkEntries r
def uptoBulkEntry {H : Type} : Lit × DataW H → Nat
  | (.string bytes, d) => bytes.length + uptoBulk d + 1
  | (_, d) => uptoBulk d + 1
 end
def uptoSmall : (H : Type) → List (DataW H) → Bool := fun _ ds => decide (uptoBulkAll ds ≤ 1048576)
def OpenSpec.upto (s : _root_.Go.ChangeSpec) : _root_.Go.OpenSpec := { _root_.Go.OpenSpec.ofChange s with cond := some uptoSmall }

/-- 'cadenzalaw40.SeektoOthers', WHERE WHAT IT READS IS OF BULK AT MOST 1048576: true; the input reads as it did. -/
def seektoOthersUptoRow : OpenClaim := { program := "ytidigmkmfmopgaagreatdoor", sum := "7ba08112729f2fc032e0e4f3d0a3fd7b0b3cf4d3fb37c1c2ce8f8b8deded663d", func := "cadenza/cadenzalaw40.SeektoOthers", spec := "seektoOthers", unfollowed := true, recurses := true, named := ["cadenza/header.widths", "math/bits.deBruijn64tab"], apart := false, laid := [("math/bits.deBruijn64tab", laid_math_bits_deBruijn64tab), ("cadenza/header.widths", laid_cadenza_header_widths)], narrowed := true }
def SeektoOthersUptoSaid : Prop := seektoOthersUptoRow.holds Tryz.pinned (OpenSpec.upto seektoOthersSpec)

/-- 'cadenzalaw37.PushdecFrames', WHERE WHAT IT READS IS OF BULK AT MOST 1048576: true; the input reads as it did. -/
def pushdecFramesUptoRow : OpenClaim := { program := "ytidigmkmfmopgaagreatdoor", sum := "7ba08112729f2fc032e0e4f3d0a3fd7b0b3cf4d3fb37c1c2ce8f8b8deded663d", func := "cadenza/cadenzalaw37.PushdecFrames", spec := "pushdecFrames", unfollowed := true, recurses := true, named := ["cadenza/header.widths", "cadenza/pushdec.waits", "cadenza/pushdec.taken", "math/bits.deBruijn64tab"], apart := false, laid := [("math/bits.deBruijn64tab", laid_math_bits_deBruijn64tab), ("cadenza/header.widths", laid_cadenza_header_widths), ("cadenza/pushdec.taken", laid_cadenza_pushdec_taken), ("cadenza/pushdec.waits", laid_cadenza_pushdec_waits)], narrowed := true }
def PushdecFramesUptoSaid : Prop := pushdecFramesUptoRow.holds Tryz.pinned (OpenSpec.upto pushdecFramesSpec)

/-- 'cadenzalaw41.PolicyOthers', WHERE WHAT IT READS IS OF BULK AT MOST 1048576: true; the input reads as it did. -/
def policyOthersUptoRow : OpenClaim := { program := "ytidigmkmfmopgaagreatdoor", sum := "7ba08112729f2fc032e0e4f3d0a3fd7b0b3cf4d3fb37c1c2ce8f8b8deded663d", func := "cadenza/cadenzalaw41.PolicyOthers", spec := "policyOthers", unfollowed := true, recurses := true, named := ["cadenza/header.widths", "math/bits.deBruijn64tab"], apart := false, laid := [("math/bits.deBruijn64tab", laid_math_bits_deBruijn64tab), ("cadenza/header.widths", laid_cadenza_header_widths)], narrowed := true }
def PolicyOthersUptoSaid : Prop := policyOthersUptoRow.holds Tryz.pinned (OpenSpec.upto policyOthersSpec)

/-- 'cadenzalaw44.DamageFound', WHERE WHAT IT READS IS OF BULK AT MOST 1048576: true; the input reads as it did. -/
def damageFoundUptoRow : OpenClaim := { program := "ytidigmkmfmopgaagreatdoor", sum := "7ba08112729f2fc032e0e4f3d0a3fd7b0b3cf4d3fb37c1c2ce8f8b8deded663d", func := "cadenza/cadenzalaw44.DamageFound", spec := "damageFound", unfollowed := true, recurses := true, named := ["cadenza/header.widths", "math/bits.deBruijn64tab"], apart := false, laid := [("math/bits.deBruijn64tab", laid_math_bits_deBruijn64tab), ("cadenza/header.widths", laid_cadenza_header_widths)], narrowed := true }
def DamageFoundUptoSaid : Prop := damageFoundUptoRow.holds Tryz.pinned (OpenSpec.upto damageFoundSpec)

/-- 'cadenzalaw44.DamageGood', WHERE WHAT IT READS IS OF BULK AT MOST 1048576: true; the input reads as it did. -/
def damageGoodUptoRow : OpenClaim := { program := "ytidigmkmfmopgaagreatdoor", sum := "7ba08112729f2fc032e0e4f3d0a3fd7b0b3cf4d3fb37c1c2ce8f8b8deded663d", func := "cadenza/cadenzalaw44.DamageGood", spec := "damageGood", unfollowed := true, recurses := true, named := ["cadenza/header.widths", "math/bits.deBruijn64tab", "cadenza/pushdec.waits", "cadenza/pushdec.taken"], apart := false, laid := [("math/bits.deBruijn64tab", laid_math_bits_deBruijn64tab), ("cadenza/header.widths", laid_cadenza_header_widths), ("cadenza/pushdec.taken", laid_cadenza_pushdec_taken), ("cadenza/pushdec.waits", laid_cadenza_pushdec_waits)], narrowed := true }
def DamageGoodUptoSaid : Prop := damageGoodUptoRow.holds Tryz.pinned (OpenSpec.upto damageGoodSpec)

end Rows
end Go.Proofs.YtidigmkmfmopgaaGreatDoor
