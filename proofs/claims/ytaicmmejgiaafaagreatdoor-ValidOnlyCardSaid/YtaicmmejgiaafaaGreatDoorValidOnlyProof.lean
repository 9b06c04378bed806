/- Proved: the given statement Rows.ValidOnlyCardSaid: the Go function cadenza/cadenzalaw35.ValidOnly returns true at every input, and the arguments read as before. No conditions. -/
import Derived.Test.YtaicmmejgiaafaaGreatDoorRows
import Derived.Test.YtaicmmejgiaafaaGreatDoorVoK
import Derived.Test.YtaicmmejgiaafaaGreatDoorCards
import Derived.Test.YtaicmmejgiaafaaGreatDoorTie
import Derived.Test.YtaicmmejgiaafaaGreatDoorVoO
import Derived.Test.YtaicmmejgiaafaaGreatDoorVoWB
import Derived.LaidMore
import Derived.Stop.Joined
import Derived.SevenTiedAt
import Derived.WalkKit
import Derived.ProofKit
import Derived.OpenShut
import Derived.ShutString
import Derived.ChangeOld
import Derived.Below
namespace Go.Proofs.YtaicmmejgiaafaaGreatDoor.validOnly
open Go Go.ChangeShapes Go.WideShapes Go.ChangeAt Go.RowKit Go.Lv
open Go.ChangeMaps (open_string shut_string)
set_option linter.unusedVariables false
/-- ████ THE STATEMENT: the tied card ████ -/
theorem proved : Rows.ValidOnlyCardSaid :=
  Claim7.holds_tied_plain_at .later [] [.data, .sentinel, .data, .widerDeep, .data] true (true, "659faeb288730bf0ced05240f19535d3f975c5e9500969a8f37aaf071ab15a35") false
    over (fun _ h => by cases h) (by as_aux_lemma => kernel_rfl) (fun _ h => by cases h) validOnly_row_tie rfl ⟨rfl, rfl⟩ (by as_aux_lemma => kernel_rfl) rfl
    (fun f fn hf hfn => by
      obtain rfl : f = 4 := Option.some.inj ((show Tryz.prog.funcNamed "cadenza/cadenzalaw35.ValidOnly" = some 4 by as_aux_lemma => kernel_rfl).symm.trans hf) |>.symm
      obtain rfl : fn = Tryz.f4 := (Option.some.inj (Tryz.func4.symm.trans hfn)).symm
      exact ⟨by as_aux_lemma => kernel_rfl, fun j t ht => by
        rw [Tryz.params4] at ht
        have hm : t ∈ [22, 9] := by simpa using Array.mem_of_getElem? ht
        have hall : ([22, 9].all fun u => !Tryz.prog.wantsStandIn u) = true := by as_aux_lemma => kernel_rfl
        exact (show Tryz.prog.wantsStandIn t = false by simpa using List.all_eq_true.1 hall t hm)⟩)
    (by as_aux_lemma => kernel_rfl)
#print axioms proved
end Go.Proofs.YtaicmmejgiaafaaGreatDoor.validOnly
