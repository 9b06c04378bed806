/- Proved: the given statement Rows.ScriptNamesCardSaid: the Go function cadenza/cadenzalaw38.ScriptNames returns true at every input, and the arguments read as before. No conditions. -/
import Derived.Test.YtmnpghdjdepelaaGreatDoorRows
import Derived.Test.YtmnpghdjdepelaaGreatDoorScK
import Derived.Test.YtmnpghdjdepelaaGreatDoorCards
import Derived.Test.YtmnpghdjdepelaaGreatDoorTie
import Derived.Test.YtmnpghdjdepelaaGreatDoorScO
import Derived.Test.YtmnpghdjdepelaaGreatDoorScWA
import Derived.LaidMore
import Derived.Stop.Joined
import Derived.SevenTiedAt
import Derived.ChangeOld
import Derived.Below
import Derived.WalkKit
import Derived.ProofKit
import Derived.OpenShut
import Derived.ShutString
namespace Go.Proofs.YtmnpghdjdepelaaGreatDoor.scriptNames
open Go Go.ChangeShapes Go.WideShapes Go.ChangeAt Go.RowKit Go.Lv
open Go.ChangeMaps (open_string shut_string)
set_option linter.unusedVariables false      -- a walk need not use every 'w<i>' (that an integer argument fits its kind)
/-- ████ THE STATEMENT: the tied card ████ -/
theorem proved : Rows.ScriptNamesCardSaid :=
  Claim7.holds_tied_plain_at .later [] [.data, .data, .data, .data] true (true, "82bd72716d7698fdf0ec656df55bd61cbe13ff1a6a70b59678f80b87a882d6fd") false
    over (fun _ h => by cases h) (by as_aux_lemma => kernel_rfl) (fun _ h => by cases h) scriptNames_row_tie rfl ⟨rfl, rfl⟩ (by as_aux_lemma => kernel_rfl) rfl
    (fun f fn hf hfn => by
      obtain rfl : f = 5 := Option.some.inj ((show Tryz.prog.funcNamed "cadenza/cadenzalaw38.ScriptNames" = some 5 by as_aux_lemma => kernel_rfl).symm.trans hf) |>.symm
      obtain rfl : fn = Tryz.f5 := (Option.some.inj (Tryz.func5.symm.trans hfn)).symm
      exact ⟨by as_aux_lemma => kernel_rfl, fun j t ht => by
        rw [Tryz.params5] at ht
        simp at ht⟩)
    (by as_aux_lemma => kernel_rfl)
#print axioms proved
end Go.Proofs.YtmnpghdjdepelaaGreatDoor.scriptNames
