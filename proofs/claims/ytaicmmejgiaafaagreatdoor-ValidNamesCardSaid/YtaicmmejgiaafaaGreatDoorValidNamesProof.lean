/- Proved: the given statement Rows.ValidNamesCardSaid: the Go function cadenza/cadenzalaw35.ValidNames returns true at every input, and the arguments read as before. No conditions. -/
import Derived.Test.YtaicmmejgiaafaaGreatDoorRows
import Derived.Test.YtaicmmejgiaafaaGreatDoorVnK
import Derived.Test.YtaicmmejgiaafaaGreatDoorCards
import Derived.Test.YtaicmmejgiaafaaGreatDoorTie
import Derived.Test.YtaicmmejgiaafaaGreatDoorVnO
import Derived.Test.YtaicmmejgiaafaaGreatDoorVnWA
import Derived.LaidMore
import Derived.Stop.Joined
import Derived.SevenTiedAt
import Derived.ChangeOld
import Derived.Below
import Derived.WalkKit
import Derived.ProofKit
import Derived.OpenShut
import Derived.ShutString
namespace Go.Proofs.YtaicmmejgiaafaaGreatDoor.validNames
open Go Go.ChangeShapes Go.WideShapes Go.ChangeAt Go.RowKit Go.Lv
open Go.ChangeMaps (open_string shut_string)
set_option linter.unusedVariables false      -- a walk need not use every 'w<i>' (that an integer argument fits its kind)
/-- ████ THE STATEMENT: the tied card ████ -/
theorem proved : Rows.ValidNamesCardSaid :=
  Claim7.holds_tied_plain_at .later [] [.data, .sentinel, .data, .widerDeep, .data] true (true, "659faeb288730bf0ced05240f19535d3f975c5e9500969a8f37aaf071ab15a35") false
    over (fun _ h => by cases h) (by as_aux_lemma => kernel_rfl) (fun _ h => by cases h) validNames_row_tie rfl ⟨rfl, rfl⟩ (by as_aux_lemma => kernel_rfl) rfl
    (fun f fn hf hfn => by
      obtain rfl : f = 3 := Option.some.inj ((show Tryz.prog.funcNamed "cadenza/cadenzalaw35.ValidNames" = some 3 by as_aux_lemma => kernel_rfl).symm.trans hf) |>.symm
      obtain rfl : fn = Tryz.f3 := (Option.some.inj (Tryz.func3.symm.trans hfn)).symm
      exact ⟨by as_aux_lemma => kernel_rfl, fun j t ht => by
        rw [Tryz.params3] at ht
        simp at ht⟩)
    (by as_aux_lemma => kernel_rfl)
#print axioms proved
end Go.Proofs.YtaicmmejgiaafaaGreatDoor.validNames
