/- Proved: the given statement Rows.MemoryPeaksCardSaid: the Go function cadenza/cadenzalaw43.MemoryPeaks returns true at every input, and the arguments read as before. No conditions. -/
import Derived.Test.YtfndponlpdejaaaGreatDoorRows
import Derived.Test.YtfndponlpdejaaaGreatDoorMpK
import Derived.Test.YtfndponlpdejaaaGreatDoorCards
import Derived.Test.YtfndponlpdejaaaGreatDoorTie
import Derived.Test.YtfndponlpdejaaaGreatDoorMpO
import Derived.Test.YtfndponlpdejaaaGreatDoorMpWB
import Derived.LaidMore
import Derived.Stop.Joined
import Derived.SevenTiedAt
import Derived.WalkKit
import Derived.ProofKit
import Derived.OpenShut
import Derived.ShutString
import Derived.ChangeOld
import Derived.Below
namespace Go.Proofs.YtfndponlpdejaaaGreatDoor.memoryPeaks
open Go Go.ChangeShapes Go.WideShapes Go.ChangeAt Go.RowKit Go.Lv
open Go.ChangeMaps (open_string shut_string)
set_option linter.unusedVariables false
/-- ████ THE STATEMENT: the tied card ████ -/
theorem proved : Rows.MemoryPeaksCardSaid :=
  Claim7.holds_tied_plain_at .later [] [.data, .data, .data, .data] true (true, "080867d855614c87d4ab21f7d46cf449422a0d8017f4def4e4b1c337d002c641") false
    over (fun _ h => by cases h) (by as_aux_lemma => kernel_rfl) (fun _ h => by cases h) memoryPeaks_row_tie rfl ⟨rfl, rfl⟩ (by as_aux_lemma => kernel_rfl) rfl
    (fun f fn hf hfn => by
      obtain rfl : f = 4 := Option.some.inj ((show Tryz.prog.funcNamed "cadenza/cadenzalaw43.MemoryPeaks" = some 4 by as_aux_lemma => kernel_rfl).symm.trans hf) |>.symm
      obtain rfl : fn = Tryz.f4 := (Option.some.inj (Tryz.func4.symm.trans hfn)).symm
      exact ⟨by as_aux_lemma => kernel_rfl, fun j t ht => by
        rw [Tryz.params4] at ht
        have hm : t ∈ [30, 3, 9, 31, 48] := by simpa using Array.mem_of_getElem? ht
        have hall : ([30, 3, 9, 31, 48].all fun u => !Tryz.prog.wantsStandIn u) = true := by as_aux_lemma => kernel_rfl
        exact (show Tryz.prog.wantsStandIn t = false by simpa using List.all_eq_true.1 hall t hm)⟩)
    (by as_aux_lemma => kernel_rfl)
#print axioms proved
end Go.Proofs.YtfndponlpdejaaaGreatDoor.memoryPeaks
