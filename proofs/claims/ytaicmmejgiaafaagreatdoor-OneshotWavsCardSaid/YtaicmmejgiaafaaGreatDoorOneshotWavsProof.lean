/- Proved: the given statement Rows.OneshotWavsCardSaid: the Go function cadenza/cadenzalaw42.OneshotWavs returns true at every input, and the arguments read as before. No conditions. -/
import Derived.Test.YtaicmmejgiaafaaGreatDoorRows
import Derived.Test.YtaicmmejgiaafaaGreatDoorOwK
import Derived.Test.YtaicmmejgiaafaaGreatDoorCards
import Derived.Test.YtaicmmejgiaafaaGreatDoorTie
import Derived.Test.YtaicmmejgiaafaaGreatDoorOwO
import Derived.Test.YtaicmmejgiaafaaGreatDoorOwWB
import Derived.LaidMore
import Derived.Stop.Joined
import Derived.SevenTiedAt
import Derived.WalkKit
import Derived.ProofKit
import Derived.OpenShut
import Derived.ShutString
import Derived.ChangeOld
import Derived.Below
namespace Go.Proofs.YtaicmmejgiaafaaGreatDoor.oneshotWavs
open Go Go.ChangeShapes Go.WideShapes Go.ChangeAt Go.RowKit Go.Lv
open Go.ChangeMaps (open_string shut_string)
set_option linter.unusedVariables false
/-- ████ THE STATEMENT: the tied card ████ -/
theorem proved : Rows.OneshotWavsCardSaid :=
  Claim7.holds_tied_plain_at .later [] [.data, .sentinel, .data, .widerDeep, .data, .data, .data] true (true, "659faeb288730bf0ced05240f19535d3f975c5e9500969a8f37aaf071ab15a35") false
    over (fun _ h => by cases h) (by as_aux_lemma => kernel_rfl) (fun _ h => by cases h) oneshotWavs_row_tie rfl ⟨rfl, rfl⟩ (by as_aux_lemma => kernel_rfl) rfl
    (fun f fn hf hfn => by
      obtain rfl : f = 6 := Option.some.inj ((show Tryz.prog.funcNamed "cadenza/cadenzalaw42.OneshotWavs" = some 6 by as_aux_lemma => kernel_rfl).symm.trans hf) |>.symm
      obtain rfl : fn = Tryz.f6 := (Option.some.inj (Tryz.func6.symm.trans hfn)).symm
      exact ⟨by as_aux_lemma => kernel_rfl, fun j t ht => by
        rw [Tryz.params6] at ht
        have hm : t ∈ [34, 9, 22] := by simpa using Array.mem_of_getElem? ht
        have hall : ([34, 9, 22].all fun u => !Tryz.prog.wantsStandIn u) = true := by as_aux_lemma => kernel_rfl
        exact (show Tryz.prog.wantsStandIn t = false by simpa using List.all_eq_true.1 hall t hm)⟩)
    (by as_aux_lemma => kernel_rfl)
#print axioms proved
end Go.Proofs.YtaicmmejgiaafaaGreatDoor.oneshotWavs
