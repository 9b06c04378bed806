/- A part of a proof (see the text that ends in Proof). No conditions. -/
import Derived.Test.YtniihmolajmfcaaGreatDoorRows
import Derived.LaidMore
import Derived.Stop.Joined
import Derived.SevenTiedAt
namespace Go.Proofs.YtniihmolajmfcaaGreatDoor.consoleClip
open Go
theorem both_true {a b : Bool} (h : a = true) (k : b = true) : (a && b) = true := by rw [h, k]; rfl
set_option maxHeartbeats 20000000 in
theorem jf_closed : joinedFacts Tryz.pinned.checked.prog 7 Tryz.f7 Rows.consoleClipSpec Rows.consoleClipRow = true := by
  unfold joinedFacts
  repeat' with_reducible apply both_true
  all_goals as_aux_lemma => kernel_rfl
end Go.Proofs.YtniihmolajmfcaaGreatDoor.consoleClip
