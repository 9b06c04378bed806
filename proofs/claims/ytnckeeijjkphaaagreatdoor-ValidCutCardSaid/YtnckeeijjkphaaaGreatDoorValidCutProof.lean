/- Proved: the given statement Rows.ValidCutCardSaid: the Go function cadenza/cadenzalaw35.ValidCut returns true at every input, and the arguments read as before. No conditions. -/
import Derived.Test.YtnckeeijjkphaaaGreatDoorRows
import Derived.Test.YtnckeeijjkphaaaGreatDoorVcK
import Derived.Test.YtnckeeijjkphaaaGreatDoorCards
import Derived.Test.YtnckeeijjkphaaaGreatDoorTie
import Derived.Test.YtnckeeijjkphaaaGreatDoorVcO
import Derived.Test.YtnckeeijjkphaaaGreatDoorVcWB
import Derived.LaidMore
import Derived.Stop.Joined
import Derived.SevenTiedAt
import Derived.WalkKit
import Derived.ProofKit
import Derived.OpenShut
import Derived.ShutString
import Derived.ChangeOld
import Derived.Below
namespace Go.Proofs.YtnckeeijjkphaaaGreatDoor.validCut
open Go Go.ChangeShapes Go.WideShapes Go.ChangeAt Go.RowKit Go.Lv
open Go.ChangeMaps (open_string shut_string)
set_option linter.unusedVariables false
/-- ████ THE STATEMENT: the tied card ████ -/
theorem proved : Rows.ValidCutCardSaid :=
  Claim7.holds_tied_plain_at .later [] [.data, .sentinel, .data, .widerDeep, .data] true (true, "9ee7486c64909ca843a437884f8f4144aeb4335c1ce1c08850f9f4685cfe83b7") false
    over (fun _ h => by cases h) (by as_aux_lemma => kernel_rfl) (fun _ h => by cases h) validCut_row_tie rfl ⟨rfl, rfl⟩ (by as_aux_lemma => kernel_rfl) rfl
    (fun f fn hf hfn => by
      obtain rfl : f = 4 := Option.some.inj ((show Tryz.prog.funcNamed "cadenza/cadenzalaw35.ValidCut" = some 4 by as_aux_lemma => kernel_rfl).symm.trans hf) |>.symm
      obtain rfl : fn = Tryz.f4 := (Option.some.inj (Tryz.func4.symm.trans hfn)).symm
      exact ⟨by as_aux_lemma => kernel_rfl, fun j t ht => by
        rw [Tryz.params4] at ht
        have hm : t ∈ [24, 9, 3] := by simpa using Array.mem_of_getElem? ht
        have hall : ([24, 9, 3].all fun u => !Tryz.prog.wantsStandIn u) = true := by as_aux_lemma => kernel_rfl
        exact (show Tryz.prog.wantsStandIn t = false by simpa using List.all_eq_true.1 hall t hm)⟩)
    (by as_aux_lemma => kernel_rfl)
#print axioms proved
end Go.Proofs.YtnckeeijjkphaaaGreatDoor.validCut
