/- Proved: the given statement Rows.OneshotNamesCardSaid: the Go function cadenza/cadenzalaw42.OneshotNames returns true at every input, and the arguments read as before. No conditions. -/
import Derived.Test.YtjjpijoihenabaaGreatDoorRows
import Derived.Test.YtjjpijoihenabaaGreatDoorOnK
import Derived.Test.YtjjpijoihenabaaGreatDoorCards
import Derived.Test.YtjjpijoihenabaaGreatDoorTie
import Derived.Test.YtjjpijoihenabaaGreatDoorOnO1
import Derived.Test.YtjjpijoihenabaaGreatDoorOnWB
import Derived.LaidMore
import Derived.Stop.Joined
import Derived.SevenTiedAt
import Derived.ChangeOld
import Derived.Below
import Derived.WalkKit
import Derived.ProofKit
import Derived.OpenShut
import Derived.ShutString
namespace Go.Proofs.YtjjpijoihenabaaGreatDoor.oneshotNames
open Go Go.ChangeShapes Go.WideShapes Go.ChangeAt Go.RowKit Go.Lv
open Go.ChangeMaps (open_string shut_string)
set_option linter.unusedVariables false      -- a walk need not use every 'w<i>' (that an integer argument fits its kind)
/-- ████ THE STATEMENT: the tied card ████ -/
theorem proved : Rows.OneshotNamesCardSaid :=
  Claim7.holds_tied_plain_at .later [] [.data, .sentinel, .data, .widerDeep, .data, .data, .data] true (true, "15e0093e7ccf9469609a4610a9b2c3a01bd7b5ca5093b4da3f2276adeb3440ae") false
    over (fun _ h => by cases h) (by as_aux_lemma => kernel_rfl) (fun _ h => by cases h) oneshotNames_row_tie rfl ⟨rfl, rfl⟩ (by as_aux_lemma => kernel_rfl) rfl
    (fun f fn hf hfn => by
      obtain rfl : f = 3 := Option.some.inj ((show Tryz.prog.funcNamed "cadenza/cadenzalaw42.OneshotNames" = some 3 by as_aux_lemma => kernel_rfl).symm.trans hf) |>.symm
      obtain rfl : fn = Tryz.f3 := (Option.some.inj (Tryz.func3.symm.trans hfn)).symm
      exact ⟨by as_aux_lemma => kernel_rfl, fun j t ht => by
        rw [Tryz.params3] at ht
        simp at ht⟩)
    (by as_aux_lemma => kernel_rfl)
#print axioms proved
end Go.Proofs.YtjjpijoihenabaaGreatDoor.oneshotNames
