/- Proved: the given statement Rows.TopPushCardSaid: the Go function cadenza/cadenzatop.TopPush returns true at every input, and the arguments read as before. No conditions. -/
import Derived.Test.YtfndponlpdejaaaGreatDoorRows
import Derived.Test.YtfndponlpdejaaaGreatDoorTpK
import Derived.Test.YtfndponlpdejaaaGreatDoorCards
import Derived.Test.YtfndponlpdejaaaGreatDoorTie
import Derived.Test.YtfndponlpdejaaaGreatDoorTpO
import Derived.Test.YtfndponlpdejaaaGreatDoorTpWC
import Derived.LaidMore
import Derived.Stop.Joined
import Derived.SevenTiedAt
import Derived.WalkKit
import Derived.ProofKit
import Derived.OpenShut
import Derived.ShutString
import Derived.ChangeOld
import Derived.Below
namespace Go.Proofs.YtfndponlpdejaaaGreatDoor.topPush
open Go Go.ChangeShapes Go.WideShapes Go.ChangeAt Go.RowKit Go.Lv
open Go.ChangeMaps (open_string shut_string)
set_option linter.unusedVariables false
/-- ████ THE STATEMENT: the tied card ████ -/
theorem proved : Rows.TopPushCardSaid :=
  Claim7.holds_tied_plain_at .later [] [.data, .data, .data, .data] true (true, "080867d855614c87d4ab21f7d46cf449422a0d8017f4def4e4b1c337d002c641") false
    over (fun _ h => by cases h) (by as_aux_lemma => kernel_rfl) (fun _ h => by cases h) topPush_row_tie rfl ⟨rfl, rfl⟩ (by as_aux_lemma => kernel_rfl) rfl
    (fun f fn hf hfn => by
      obtain rfl : f = 3 := Option.some.inj ((show Tryz.prog.funcNamed "cadenza/cadenzatop.TopPush" = some 3 by as_aux_lemma => kernel_rfl).symm.trans hf) |>.symm
      obtain rfl : fn = Tryz.f3 := (Option.some.inj (Tryz.func3.symm.trans hfn)).symm
      exact ⟨by as_aux_lemma => kernel_rfl, fun j t ht => by
        rw [Tryz.params3] at ht
        have hm : t ∈ [24, 9, 25, 26, 3, 3] := by simpa using Array.mem_of_getElem? ht
        have hall : ([24, 9, 25, 26, 3, 3].all fun u => !Tryz.prog.wantsStandIn u) = true := by as_aux_lemma => kernel_rfl
        exact (show Tryz.prog.wantsStandIn t = false by simpa using List.all_eq_true.1 hall t hm)⟩)
    (by as_aux_lemma => kernel_rfl)
#print axioms proved
end Go.Proofs.YtfndponlpdejaaaGreatDoor.topPush
