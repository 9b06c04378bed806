/- Proved: the given statement Rows.SeektoNamesCardSaid: the Go function cadenza/cadenzalaw40.SeektoNames returns true at every input, and the arguments read as before. No conditions. -/
import Derived.Test.YtjjeabieimfcpaaGreatDoorRows
import Derived.Test.YtjjeabieimfcpaaGreatDoorSnK
import Derived.Test.YtjjeabieimfcpaaGreatDoorCards
import Derived.Test.YtjjeabieimfcpaaGreatDoorTie
import Derived.Test.YtjjeabieimfcpaaGreatDoorSnO
import Derived.Test.YtjjeabieimfcpaaGreatDoorSnWA
import Derived.LaidMore
import Derived.Stop.Joined
import Derived.SevenTiedAt
import Derived.ChangeOld
import Derived.Below
import Derived.WalkKit
import Derived.ProofKit
import Derived.OpenShut
import Derived.ShutString
namespace Go.Proofs.YtjjeabieimfcpaaGreatDoor.seektoNames
open Go Go.ChangeShapes Go.WideShapes Go.ChangeAt Go.RowKit Go.Lv
open Go.ChangeMaps (open_string shut_string)
set_option linter.unusedVariables false      -- a walk need not use every 'w<i>' (that an integer argument fits its kind)
/-- ████ THE STATEMENT: the tied card ████ -/
theorem proved : Rows.SeektoNamesCardSaid :=
  Claim7.holds_tied_plain_at .later [] [.data, .data] true (true, "b981029e647e6a95ccad6740e0e1692c772e30fea0a730e98f85701d235fc3a6") false
    over (fun _ h => by cases h) (by as_aux_lemma => kernel_rfl) (fun _ h => by cases h) seektoNames_row_tie rfl ⟨rfl, rfl⟩ (by as_aux_lemma => kernel_rfl) rfl
    (fun f fn hf hfn => by
      obtain rfl : f = 3 := Option.some.inj ((show Tryz.prog.funcNamed "cadenza/cadenzalaw40.SeektoNames" = some 3 by as_aux_lemma => kernel_rfl).symm.trans hf) |>.symm
      obtain rfl : fn = Tryz.f3 := (Option.some.inj (Tryz.func3.symm.trans hfn)).symm
      exact ⟨by as_aux_lemma => kernel_rfl, fun j t ht => by
        rw [Tryz.params3] at ht
        simp at ht⟩)
    (by as_aux_lemma => kernel_rfl)
#print axioms proved
end Go.Proofs.YtjjeabieimfcpaaGreatDoor.seektoNames
