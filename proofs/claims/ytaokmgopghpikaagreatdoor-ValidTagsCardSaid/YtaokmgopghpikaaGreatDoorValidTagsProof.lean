/- Proved: the given statement Rows.ValidTagsCardSaid: the Go function cadenza/cadenzalaw35.ValidTags returns true at every input, and the arguments read as before. No conditions. -/
import Derived.Test.YtaokmgopghpikaaGreatDoorRows
import Derived.Test.YtaokmgopghpikaaGreatDoorVgK
import Derived.Test.YtaokmgopghpikaaGreatDoorCards
import Derived.Test.YtaokmgopghpikaaGreatDoorTie
import Derived.Test.YtaokmgopghpikaaGreatDoorVgO
import Derived.Test.YtaokmgopghpikaaGreatDoorVgWB
import Derived.LaidMore
import Derived.Stop.Joined
import Derived.SevenTiedAt
import Derived.WalkKit
import Derived.ProofKit
import Derived.OpenShut
import Derived.ShutString
import Derived.ChangeOld
import Derived.Below
namespace Go.Proofs.YtaokmgopghpikaaGreatDoor.validTags
open Go Go.ChangeShapes Go.WideShapes Go.ChangeAt Go.RowKit Go.Lv
open Go.ChangeMaps (open_string shut_string)
set_option linter.unusedVariables false
/-- ████ THE STATEMENT: the tied card ████ -/
theorem proved : Rows.ValidTagsCardSaid :=
  Claim7.holds_tied_plain_at .later [] [.data, .sentinel, .data, .widerDeep, .data] true (true, "54de0d93d450f36441daac5992b037ce8152ab83c9106a9c3c58698680acd5a8") false
    over (fun _ h => by cases h) (by as_aux_lemma => kernel_rfl) (fun _ h => by cases h) validTags_row_tie rfl ⟨rfl, rfl⟩ (by as_aux_lemma => kernel_rfl) rfl
    (fun f fn hf hfn => by
      obtain rfl : f = 5 := Option.some.inj ((show Tryz.prog.funcNamed "cadenza/cadenzalaw35.ValidTags" = some 5 by as_aux_lemma => kernel_rfl).symm.trans hf) |>.symm
      obtain rfl : fn = Tryz.f5 := (Option.some.inj (Tryz.func5.symm.trans hfn)).symm
      exact ⟨by as_aux_lemma => kernel_rfl, fun j t ht => by
        rw [Tryz.params5] at ht
        have hm : t ∈ [37, 9, 22, 22, 3] := by simpa using Array.mem_of_getElem? ht
        have hall : ([37, 9, 22, 22, 3].all fun u => !Tryz.prog.wantsStandIn u) = true := by as_aux_lemma => kernel_rfl
        exact (show Tryz.prog.wantsStandIn t = false by simpa using List.all_eq_true.1 hall t hm)⟩)
    (by as_aux_lemma => kernel_rfl)
#print axioms proved
end Go.Proofs.YtaokmgopghpikaaGreatDoor.validTags
