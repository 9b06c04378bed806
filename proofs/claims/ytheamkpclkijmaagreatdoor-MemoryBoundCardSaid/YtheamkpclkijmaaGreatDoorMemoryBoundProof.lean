/- Proved: the given statement Rows.MemoryBoundCardSaid: the Go function cadenza/cadenzalaw43.MemoryBound returns true at every input, and the arguments read as before. No conditions. -/
import Derived.Test.YtheamkpclkijmaaGreatDoorRows
import Derived.Test.YtheamkpclkijmaaGreatDoorMbK
import Derived.Test.YtheamkpclkijmaaGreatDoorCards
import Derived.Test.YtheamkpclkijmaaGreatDoorTie
import Derived.Test.YtheamkpclkijmaaGreatDoorMbO
import Derived.Test.YtheamkpclkijmaaGreatDoorMbWB
import Derived.LaidMore
import Derived.Stop.Joined
import Derived.SevenTiedAt
import Derived.WalkKit
import Derived.ProofKit
import Derived.OpenShut
import Derived.ShutString
import Derived.ChangeOld
import Derived.Below
namespace Go.Proofs.YtheamkpclkijmaaGreatDoor.memoryBound
open Go Go.ChangeShapes Go.WideShapes Go.ChangeAt Go.RowKit Go.Lv
open Go.ChangeMaps (open_string shut_string)
set_option linter.unusedVariables false
/-- ████ THE STATEMENT: the tied card ████ -/
theorem proved : Rows.MemoryBoundCardSaid :=
  Claim7.holds_tied_plain_at .later [] [.data, .data, .data, .data] true (true, "ecde94e49eec4eb1347638b1173196a83478c340bd9711dd5bc7e16c625e6d2a") false
    over (fun _ h => by cases h) (by as_aux_lemma => kernel_rfl) (fun _ h => by cases h) memoryBound_row_tie rfl ⟨rfl, rfl⟩ (by as_aux_lemma => kernel_rfl) rfl
    (fun f fn hf hfn => by
      obtain rfl : f = 5 := Option.some.inj ((show Tryz.prog.funcNamed "cadenza/cadenzalaw43.MemoryBound" = some 5 by as_aux_lemma => kernel_rfl).symm.trans hf) |>.symm
      obtain rfl : fn = Tryz.f5 := (Option.some.inj (Tryz.func5.symm.trans hfn)).symm
      exact ⟨by as_aux_lemma => kernel_rfl, fun j t ht => by
        rw [Tryz.params5] at ht
        have hm : t ∈ [9, 22, 29] := by simpa using Array.mem_of_getElem? ht
        have hall : ([9, 22, 29].all fun u => !Tryz.prog.wantsStandIn u) = true := by as_aux_lemma => kernel_rfl
        exact (show Tryz.prog.wantsStandIn t = false by simpa using List.all_eq_true.1 hall t hm)⟩)
    (by as_aux_lemma => kernel_rfl)
#print axioms proved
end Go.Proofs.YtheamkpclkijmaaGreatDoor.memoryBound
