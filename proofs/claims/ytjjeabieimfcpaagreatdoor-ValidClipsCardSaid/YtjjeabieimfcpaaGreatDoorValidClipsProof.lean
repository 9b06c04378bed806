/- Proved: the given statement Rows.ValidClipsCardSaid: the Go function cadenza/cadenzalaw35.ValidClips returns true at every input, and the arguments read as before. No conditions. -/
import Derived.Test.YtjjeabieimfcpaaGreatDoorRows
import Derived.Test.YtjjeabieimfcpaaGreatDoorVcK
import Derived.Test.YtjjeabieimfcpaaGreatDoorCards
import Derived.Test.YtjjeabieimfcpaaGreatDoorTie
import Derived.Test.YtjjeabieimfcpaaGreatDoorVcO
import Derived.Test.YtjjeabieimfcpaaGreatDoorVcWB
import Derived.LaidMore
import Derived.Stop.Joined
import Derived.SevenTiedAt
import Derived.WalkKit
import Derived.ProofKit
import Derived.OpenShut
import Derived.ShutString
import Derived.ChangeOld
import Derived.Below
namespace Go.Proofs.YtjjeabieimfcpaaGreatDoor.validClips
open Go Go.ChangeShapes Go.WideShapes Go.ChangeAt Go.RowKit Go.Lv
open Go.ChangeMaps (open_string shut_string)
set_option linter.unusedVariables false
/-- ████ THE STATEMENT: the tied card ████ -/
theorem proved : Rows.ValidClipsCardSaid :=
  Claim7.holds_tied_plain_at .later [] [.data, .sentinel, .data, .widerDeep, .data] true (true, "b981029e647e6a95ccad6740e0e1692c772e30fea0a730e98f85701d235fc3a6") false
    over (fun _ h => by cases h) (by as_aux_lemma => kernel_rfl) (fun _ h => by cases h) validClips_row_tie rfl ⟨rfl, rfl⟩ (by as_aux_lemma => kernel_rfl) rfl
    (fun f fn hf hfn => by
      obtain rfl : f = 5 := Option.some.inj ((show Tryz.prog.funcNamed "cadenza/cadenzalaw35.ValidClips" = some 5 by as_aux_lemma => kernel_rfl).symm.trans hf) |>.symm
      obtain rfl : fn = Tryz.f5 := (Option.some.inj (Tryz.func5.symm.trans hfn)).symm
      exact ⟨by as_aux_lemma => kernel_rfl, fun j t ht => by
        rw [Tryz.params5] at ht
        have hm : t ∈ [22, 9] := by simpa using Array.mem_of_getElem? ht
        have hall : ([22, 9].all fun u => !Tryz.prog.wantsStandIn u) = true := by as_aux_lemma => kernel_rfl
        exact (show Tryz.prog.wantsStandIn t = false by simpa using List.all_eq_true.1 hall t hm)⟩)
    (by as_aux_lemma => kernel_rfl)
#print axioms proved
end Go.Proofs.YtjjeabieimfcpaaGreatDoor.validClips
