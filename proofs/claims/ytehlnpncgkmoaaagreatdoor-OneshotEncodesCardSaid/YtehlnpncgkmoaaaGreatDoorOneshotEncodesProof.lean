/- Proved: the given statement Rows.OneshotEncodesCardSaid: the Go function cadenza/cadenzalaw42.OneshotEncodes returns true at every input, and the arguments read as before. No conditions. -/
import Derived.Test.YtehlnpncgkmoaaaGreatDoorRows
import Derived.Test.YtehlnpncgkmoaaaGreatDoorOeK
import Derived.Test.YtehlnpncgkmoaaaGreatDoorCards
import Derived.Test.YtehlnpncgkmoaaaGreatDoorTie
import Derived.Test.YtehlnpncgkmoaaaGreatDoorOeO
import Derived.Test.YtehlnpncgkmoaaaGreatDoorOeWB
import Derived.LaidMore
import Derived.Stop.Joined
import Derived.SevenTiedAt
import Derived.WalkKit
import Derived.ProofKit
import Derived.OpenShut
import Derived.ShutString
import Derived.ChangeOld
import Derived.Below
namespace Go.Proofs.YtehlnpncgkmoaaaGreatDoor.oneshotEncodes
open Go Go.ChangeShapes Go.WideShapes Go.ChangeAt Go.RowKit Go.Lv
open Go.ChangeMaps (open_string shut_string)
set_option linter.unusedVariables false
/-- ████ THE STATEMENT: the tied card ████ -/
theorem proved : Rows.OneshotEncodesCardSaid :=
  Claim7.holds_tied_plain_at .later [] [.data, .widerDeep, .data] true (true, "db5873510d6ba4ece8141c8e5a1d2d072963315d17ccab7e0b325ea4150975bc") false
    over (fun _ h => by cases h) (by as_aux_lemma => kernel_rfl) (fun _ h => by cases h) oneshotEncodes_row_tie rfl ⟨rfl, rfl⟩ (by as_aux_lemma => kernel_rfl) rfl
    (fun f fn hf hfn => by
      obtain rfl : f = 6 := Option.some.inj ((show Tryz.prog.funcNamed "cadenza/cadenzalaw42.OneshotEncodes" = some 6 by as_aux_lemma => kernel_rfl).symm.trans hf) |>.symm
      obtain rfl : fn = Tryz.f6 := (Option.some.inj (Tryz.func6.symm.trans hfn)).symm
      exact ⟨by as_aux_lemma => kernel_rfl, fun j t ht => by
        rw [Tryz.params6] at ht
        have hm : t ∈ [69, 9, 24] := by simpa using Array.mem_of_getElem? ht
        have hall : ([69, 9, 24].all fun u => !Tryz.prog.wantsStandIn u) = true := by as_aux_lemma => kernel_rfl
        exact (show Tryz.prog.wantsStandIn t = false by simpa using List.all_eq_true.1 hall t hm)⟩)
    (by as_aux_lemma => kernel_rfl)
#print axioms proved
end Go.Proofs.YtehlnpncgkmoaaaGreatDoor.oneshotEncodes
