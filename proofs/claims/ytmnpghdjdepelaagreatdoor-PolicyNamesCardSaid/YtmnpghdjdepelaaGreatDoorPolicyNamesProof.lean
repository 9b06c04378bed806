/- Proved: the given statement Rows.PolicyNamesCardSaid: the Go function cadenza/cadenzalaw41.PolicyNames returns true at every input, and the arguments read as before. No conditions. -/
import Derived.Test.YtmnpghdjdepelaaGreatDoorRows
import Derived.Test.YtmnpghdjdepelaaGreatDoorPyK
import Derived.Test.YtmnpghdjdepelaaGreatDoorCards
import Derived.Test.YtmnpghdjdepelaaGreatDoorTie
import Derived.Test.YtmnpghdjdepelaaGreatDoorPyO
import Derived.Test.YtmnpghdjdepelaaGreatDoorPyWA
import Derived.LaidMore
import Derived.Stop.Joined
import Derived.SevenTiedAt
import Derived.ChangeOld
import Derived.Below
import Derived.WalkKit
import Derived.ProofKit
import Derived.OpenShut
import Derived.ShutString
namespace Go.Proofs.YtmnpghdjdepelaaGreatDoor.policyNames
open Go Go.ChangeShapes Go.WideShapes Go.ChangeAt Go.RowKit Go.Lv
open Go.ChangeMaps (open_string shut_string)
set_option linter.unusedVariables false      -- a walk need not use every 'w<i>' (that an integer argument fits its kind)
/-- ████ THE STATEMENT: the tied card ████ -/
theorem proved : Rows.PolicyNamesCardSaid :=
  Claim7.holds_tied_plain_at .later [] [.data, .data] true (true, "82bd72716d7698fdf0ec656df55bd61cbe13ff1a6a70b59678f80b87a882d6fd") false
    over (fun _ h => by cases h) (by as_aux_lemma => kernel_rfl) (fun _ h => by cases h) policyNames_row_tie rfl ⟨rfl, rfl⟩ (by as_aux_lemma => kernel_rfl) rfl
    (fun f fn hf hfn => by
      obtain rfl : f = 4 := Option.some.inj ((show Tryz.prog.funcNamed "cadenza/cadenzalaw41.PolicyNames" = some 4 by as_aux_lemma => kernel_rfl).symm.trans hf) |>.symm
      obtain rfl : fn = Tryz.f4 := (Option.some.inj (Tryz.func4.symm.trans hfn)).symm
      exact ⟨by as_aux_lemma => kernel_rfl, fun j t ht => by
        rw [Tryz.params4] at ht
        simp at ht⟩)
    (by as_aux_lemma => kernel_rfl)
#print axioms proved
end Go.Proofs.YtmnpghdjdepelaaGreatDoor.policyNames
