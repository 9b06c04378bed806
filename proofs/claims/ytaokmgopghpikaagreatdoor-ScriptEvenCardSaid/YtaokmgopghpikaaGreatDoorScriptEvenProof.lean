/- Proved: the given statement Rows.ScriptEvenCardSaid: the Go function cadenza/cadenzalaw38.ScriptEven returns true at every input, and the arguments read as before. No conditions. -/
import Derived.Test.YtaokmgopghpikaaGreatDoorRows
import Derived.Test.YtaokmgopghpikaaGreatDoorSeK
import Derived.Test.YtaokmgopghpikaaGreatDoorCards
import Derived.Test.YtaokmgopghpikaaGreatDoorTie
import Derived.Test.YtaokmgopghpikaaGreatDoorSeO
import Derived.Test.YtaokmgopghpikaaGreatDoorSeWB
import Derived.LaidMore
import Derived.Stop.Joined
import Derived.SevenTiedAt
import Derived.WalkKit
import Derived.ProofKit
import Derived.OpenShut
import Derived.ShutString
import Derived.ChangeOld
import Derived.Below
namespace Go.Proofs.YtaokmgopghpikaaGreatDoor.scriptEven
open Go Go.ChangeShapes Go.WideShapes Go.ChangeAt Go.RowKit Go.Lv
open Go.ChangeMaps (open_string shut_string)
set_option linter.unusedVariables false
/-- ████ THE STATEMENT: the tied card ████ -/
theorem proved : Rows.ScriptEvenCardSaid :=
  Claim7.holds_tied_plain_at .later [] [.data, .data, .data, .data] true (true, "54de0d93d450f36441daac5992b037ce8152ab83c9106a9c3c58698680acd5a8") false
    over (fun _ h => by cases h) (by as_aux_lemma => kernel_rfl) (fun _ h => by cases h) scriptEven_row_tie rfl ⟨rfl, rfl⟩ (by as_aux_lemma => kernel_rfl) rfl
    (fun f fn hf hfn => by
      obtain rfl : f = 4 := Option.some.inj ((show Tryz.prog.funcNamed "cadenza/cadenzalaw38.ScriptEven" = some 4 by as_aux_lemma => kernel_rfl).symm.trans hf) |>.symm
      obtain rfl : fn = Tryz.f4 := (Option.some.inj (Tryz.func4.symm.trans hfn)).symm
      exact ⟨by as_aux_lemma => kernel_rfl, fun j t ht => by
        rw [Tryz.params4] at ht
        have hm : t ∈ [9, 22, 3, 3] := by simpa using Array.mem_of_getElem? ht
        have hall : ([9, 22, 3, 3].all fun u => !Tryz.prog.wantsStandIn u) = true := by as_aux_lemma => kernel_rfl
        exact (show Tryz.prog.wantsStandIn t = false by simpa using List.all_eq_true.1 hall t hm)⟩)
    (by as_aux_lemma => kernel_rfl)
#print axioms proved
end Go.Proofs.YtaokmgopghpikaaGreatDoor.scriptEven
