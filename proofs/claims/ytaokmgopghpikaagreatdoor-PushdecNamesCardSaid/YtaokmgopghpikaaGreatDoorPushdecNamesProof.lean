/- Proved: the given statement Rows.PushdecNamesCardSaid: the Go function cadenza/cadenzalaw37.PushdecNames returns true at every input, and the arguments read as before. No conditions. -/
import Derived.Test.YtaokmgopghpikaaGreatDoorRows
import Derived.Test.YtaokmgopghpikaaGreatDoorPnK
import Derived.Test.YtaokmgopghpikaaGreatDoorCards
import Derived.Test.YtaokmgopghpikaaGreatDoorTie
import Derived.Test.YtaokmgopghpikaaGreatDoorPnO1
import Derived.Test.YtaokmgopghpikaaGreatDoorPnWA
import Derived.LaidMore
import Derived.Stop.Joined
import Derived.SevenTiedAt
import Derived.ChangeOld
import Derived.Below
import Derived.WalkKit
import Derived.ProofKit
import Derived.OpenShut
import Derived.ShutString
namespace Go.Proofs.YtaokmgopghpikaaGreatDoor.pushdecNames
open Go Go.ChangeShapes Go.WideShapes Go.ChangeAt Go.RowKit Go.Lv
open Go.ChangeMaps (open_string shut_string)
set_option linter.unusedVariables false      -- a walk need not use every 'w<i>' (that an integer argument fits its kind)
/-- ████ THE STATEMENT: the tied card ████ -/
theorem proved : Rows.PushdecNamesCardSaid :=
  Claim7.holds_tied_plain_at .later [] [.data, .data, .data, .data] true (true, "54de0d93d450f36441daac5992b037ce8152ab83c9106a9c3c58698680acd5a8") false
    over (fun _ h => by cases h) (by as_aux_lemma => kernel_rfl) (fun _ h => by cases h) pushdecNames_row_tie rfl ⟨rfl, rfl⟩ (by as_aux_lemma => kernel_rfl) rfl
    (fun f fn hf hfn => by
      obtain rfl : f = 3 := Option.some.inj ((show Tryz.prog.funcNamed "cadenza/cadenzalaw37.PushdecNames" = some 3 by as_aux_lemma => kernel_rfl).symm.trans hf) |>.symm
      obtain rfl : fn = Tryz.f3 := (Option.some.inj (Tryz.func3.symm.trans hfn)).symm
      exact ⟨by as_aux_lemma => kernel_rfl, fun j t ht => by
        rw [Tryz.params3] at ht
        simp at ht⟩)
    (by as_aux_lemma => kernel_rfl)
#print axioms proved
end Go.Proofs.YtaokmgopghpikaaGreatDoor.pushdecNames
