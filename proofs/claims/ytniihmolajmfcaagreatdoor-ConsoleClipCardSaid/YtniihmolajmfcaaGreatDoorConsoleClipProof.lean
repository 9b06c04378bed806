/- Proved: the given statement Rows.ConsoleClipCardSaid: the Go function cadenza/cadenzalaw46.ConsoleClip returns true at every input, and the arguments read as before. No conditions. -/
import Derived.Test.YtniihmolajmfcaaGreatDoorRows
import Derived.Test.YtniihmolajmfcaaGreatDoorCvK
import Derived.Test.YtniihmolajmfcaaGreatDoorCards
import Derived.Test.YtniihmolajmfcaaGreatDoorTie
import Derived.Test.YtniihmolajmfcaaGreatDoorCvO
import Derived.Test.YtniihmolajmfcaaGreatDoorCvWB
import Derived.LaidMore
import Derived.Stop.Joined
import Derived.SevenTiedAt
import Derived.Lay
import Derived.WalkKit
import Derived.ProofKit
import Derived.OpenShut
import Derived.ShutString
import Derived.ChangeOld
import Derived.Below
namespace Go.Proofs.YtniihmolajmfcaaGreatDoor.consoleClip
open Go Go.ChangeShapes Go.WideShapes Go.ChangeAt Go.RowKit Go.Lv
open Go.ChangeMaps (open_string shut_string)
set_option linter.unusedVariables false
/-- ████ THE STATEMENT: the tied card ████ -/
theorem proved : Rows.ConsoleClipCardSaid :=
  Claim7.holds_tied_plain_at .later [] [.data, .data, .data, .data, .sentinel, .sentinel, .sentinel, .data, .widerDeep, .data, .data, .data, .pinned] true (true, "15901565ae89138e0638f5fb6c3224db6ceca797d91b9de9158aa52df456d4aa") true
    over (fun _ h => by cases h) (by as_aux_lemma => kernel_rfl) (fun _ h => by cases h) consoleClip_row_tie rfl ⟨rfl, rfl⟩ (by as_aux_lemma => kernel_rfl) rfl
    (fun f fn hf hfn => by
      obtain rfl : f = 7 := Option.some.inj ((show Tryz.prog.funcNamed "cadenza/cadenzalaw46.ConsoleClip" = some 7 by as_aux_lemma => kernel_rfl).symm.trans hf) |>.symm
      obtain rfl : fn = Tryz.f7 := (Option.some.inj (Tryz.func7.symm.trans hfn)).symm
      exact ⟨by as_aux_lemma => kernel_rfl, fun j t ht => by
        rw [Tryz.params7] at ht
        have hm : t ∈ [42, 4] := by simpa using Array.mem_of_getElem? ht
        have hall : ([42, 4].all fun u => !Tryz.prog.wantsStandIn u) = true := by as_aux_lemma => kernel_rfl
        exact (show Tryz.prog.wantsStandIn t = false by simpa using List.all_eq_true.1 hall t hm)⟩)
    (by as_aux_lemma => kernel_rfl)
#print axioms proved
end Go.Proofs.YtniihmolajmfcaaGreatDoor.consoleClip
