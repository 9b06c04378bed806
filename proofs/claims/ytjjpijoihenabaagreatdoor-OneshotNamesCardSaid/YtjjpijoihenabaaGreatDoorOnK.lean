/- A part of a proof (see the text that ends in Proof). No conditions. -/
import Derived.Test.YtjjpijoihenabaaGreatDoorRows
import Derived.Test.YtjjpijoihenabaaGreatDoorOnJ
import Derived.Test.YtjjpijoihenabaaGreatDoorCards
import Derived.Test.YtjjpijoihenabaaGreatDoorTie
import Derived.Test.YtjjpijoihenabaaGreatDoorOnO1
import Derived.Test.YtjjpijoihenabaaGreatDoorOnWB
import Derived.LaidMore
import Derived.Stop.Joined
import Derived.SevenTiedAt
import Derived.ChangeOld
import Derived.Below
import Derived.WalkKit
import Derived.ProofKit
import Derived.OpenShut
import Derived.ShutString
namespace Go.Proofs.YtjjpijoihenabaaGreatDoor.oneshotNames
open Go Go.ChangeShapes Go.WideShapes Go.ChangeAt Go.RowKit Go.Lv
open Go.ChangeMaps (open_string shut_string)
set_option linter.unusedVariables false      -- a walk need not use every 'w<i>' (that an integer argument fits its kind)

theorem own : ownKnob Tryz.prog.godebug = none := by kernel_rfl

def laidL : List (String × DataW Unit) := [("math/bits.deBruijn64tab", Rows.laid_math_bits_deBruijn64tab), ("bytes.ErrTooLarge", Rows.laid_bytes_ErrTooLarge), ("cadenza/fmtchunk.widths", Rows.laid_cadenza_fmtchunk_widths), ("cadenza/fmtchunk.guid", Rows.laid_cadenza_fmtchunk_guid), ("cadenza/header.widths", Rows.laid_cadenza_header_widths), ("cadenza/pushdec.taken", Rows.laid_cadenza_pushdec_taken), ("cadenza/pushdec.waits", Rows.laid_cadenza_pushdec_waits)]
set_option maxRecDepth 100000 in
/-- What the card ties, where the walk asks for it. -/
theorem glOk {w : World} (h : laidMetH Tryz.prog laidL w) : Go.Rx.GlOk gl (fun _ => True) w := by
  rw [MakeChecks.laidMetH_plain _ _ _ (by kernel_rfl)] at h
  obtain ⟨ps, ⟨g0, t0, cs0, f0, p0, q0, hg0, ht0, hv0, hd0, ⟨g1, t1, cs1, f1, p1, q1, hg1, ht1, hv1, hd1, ⟨g2, t2, cs2, f2, p2, q2, hg2, ht2, hv2, hd2, ⟨g3, t3, cs3, f3, p3, q3, hg3, ht3, hv3, hd3, ⟨g4, t4, cs4, f4, p4, q4, hg4, ht4, hv4, hd4, ⟨g5, t5, cs5, f5, p5, q5, hg5, ht5, hv5, hd5, ⟨g6, t6, cs6, f6, p6, q6, hg6, ht6, hv6, hd6, _, _⟩, _⟩, _⟩, _⟩, _⟩, _⟩, _⟩, _, _⟩ := h
  have hgn0 : Tryz.prog.globalNamed "math/bits.deBruijn64tab" = some 6 := by kernel_rfl
  have htt0 : (Tryz.prog.globals[6]?).map (·.type) = some 310 := by kernel_rfl
  obtain rfl := Option.some.inj (hgn0.symm.trans hg0)
  obtain rfl := Option.some.inj (htt0.symm.trans ht0)
  have hgn2 : Tryz.prog.globalNamed "cadenza/fmtchunk.widths" = some 1 := by kernel_rfl
  have htt2 : (Tryz.prog.globals[1]?).map (·.type) = some 135 := by kernel_rfl
  obtain rfl := Option.some.inj (hgn2.symm.trans hg2)
  obtain rfl := Option.some.inj (htt2.symm.trans ht2)
  have hgn3 : Tryz.prog.globalNamed "cadenza/fmtchunk.guid" = some 3 := by kernel_rfl
  have htt3 : (Tryz.prog.globals[3]?).map (·.type) = some 192 := by kernel_rfl
  obtain rfl := Option.some.inj (hgn3.symm.trans hg3)
  obtain rfl := Option.some.inj (htt3.symm.trans ht3)
  have hgn4 : Tryz.prog.globalNamed "cadenza/header.widths" = some 0 := by kernel_rfl
  have htt4 : (Tryz.prog.globals[0]?).map (·.type) = some 111 := by kernel_rfl
  obtain rfl := Option.some.inj (hgn4.symm.trans hg4)
  obtain rfl := Option.some.inj (htt4.symm.trans ht4)
  have hgn5 : Tryz.prog.globalNamed "cadenza/pushdec.taken" = some 4 := by kernel_rfl
  have htt5 : (Tryz.prog.globals[4]?).map (·.type) = some 122 := by kernel_rfl
  obtain rfl := Option.some.inj (hgn5.symm.trans hg5)
  obtain rfl := Option.some.inj (htt5.symm.trans ht5)
  have hgn6 : Tryz.prog.globalNamed "cadenza/pushdec.waits" = some 2 := by kernel_rfl
  have htt6 : (Tryz.prog.globals[2]?).map (·.type) = some 122 := by kernel_rfl
  obtain rfl := Option.some.inj (hgn6.symm.trans hg6)
  obtain rfl := Option.some.inj (htt6.symm.trans ht6)
  exact (Go.Rx.glOk_cons hgn4 hv4 ((Go.Rx.laid_ints (n := 5) (e := 3) (k := .i64) (zs := [2, 2, 2, 4, 4]) (by kernel_rfl) (by kernel_rfl) (by kernel_rfl) (by kernel_rfl) hd4).trans rfl) (Go.Rx.glOk_cons hgn2 hv2 ((Go.Rx.laid_ints (n := 9) (e := 3) (k := .i64) (zs := [2, 2, 4, 4, 2, 2, 2, 2, 4]) (by kernel_rfl) (by kernel_rfl) (by kernel_rfl) (by kernel_rfl) hd2).trans rfl) (Go.Rx.glOk_cons hgn6 hv6 ((Go.Rx.laid_bool_int (b := true) (z := 0) Tryz.underlying122 (by kernel_rfl) (by kernel_rfl) rfl rfl (by kernel_rfl) (by kernel_rfl) (by kernel_rfl) hd6).trans rfl) (Go.Rx.glOk_cons hgn3 hv3 ((Go.Rx.laid_ints (n := 16) (e := 5) (k := .u8) (zs := [1, 0, 0, 0, 0, 0, 16, 0, 128, 0, 0, 170, 0, 56, 155, 113]) (by kernel_rfl) (by kernel_rfl) (by kernel_rfl) (by kernel_rfl) hd3).trans rfl) (Go.Rx.glOk_cons hgn5 hv5 ((Go.Rx.laid_bool_int (b := false) (z := 0) Tryz.underlying122 (by kernel_rfl) (by kernel_rfl) rfl rfl (by kernel_rfl) (by kernel_rfl) (by kernel_rfl) hd5).trans rfl) (Go.Rx.glOk_cons hgn0 hv0 ((Go.Rx.laid_ints (n := 64) (e := 5) (k := .u8) (zs := [0, 1, 56, 2, 57, 49, 28, 3, 61, 58, 42, 50, 38, 29, 17, 4, 62, 47, 59, 36, 45, 43, 51, 22, 53, 39, 33, 30, 24, 18, 12, 5, 63, 55, 48, 27, 60, 41, 37, 16, 46, 35, 44, 21, 52, 32, 23, 11, 54, 26, 40, 15, 34, 20, 31, 10, 25, 14, 19, 9, 13, 8, 7, 6]) (by kernel_rfl) (by kernel_rfl) (by kernel_rfl) (by kernel_rfl) hd0).trans rfl) Go.Rx.glOk_nil))))))
/-- The door's own heap meets the condition. -/
theorem door_met (os : Os) (args : Array Value) : laidMetH Tryz.prog laidL ((World.doorLaid Tryz.prog 58 os).forCall (fun _ _ => 0) ⟨#[], args, []⟩).memory :=
  laidMetH_of_parts3 (fuel := 8) (laidMet_of_run' 8 (by kernel_rfl) (by kernel_rfl)) (by kernel_rfl) (by kernel_rfl)

/-! ### STEP 1: THE WALK: the Go text returns true. 'Grown w w'': the world has at most new blocks (Derived/RowKit3.lean). Part the cases AHEAD of 'go_enter' where a test parts the walk; take each callee by a contract of your own. -/
theorem walk  (w : World) (hL : laidMetH Tryz.prog laidL w) :
    Calls Tryz.prog 3 #[] w fun e w' => e = .returned (.bool true) ∧ Below w.heap.size w w' := by
  exact Go.Rx.row_true F3.k.2 (x := ()) (pvs := []) rfl rfl Go.Rx.encs_nil (glOk hL) (Go.Pl.law_OneshotNames)
  -- go_enter Tryz.func3, Tryz.ntmps3
  -- go_wp2
  -- go_ret
  -- exact ⟨rfl, by repeat (first | exact Grown.refl _ | apply Grown.drew | apply Grown.alloc)⟩

/-! ### THE ROW's STEP: WRITTEN OUT: LEAVE IT -/
set_option maxRecDepth 100000 in
theorem lifted (os : Os) (started : os.Started) (H : Type) (enc : TypeId × Value → H) :
    ReturnsInHanded {} Tryz.checked os 3 .any (fun w args => (Rows.oneshotNamesSpec.pre enc Tryz.prog Tryz.f3 [] false w args ∧ laidMetH Tryz.prog laidL w) ∧ sizedMet enc Tryz.prog Tryz.f3 (OpenSpec.ofChange Rows.oneshotNamesSpec) false w args) (Rows.oneshotNamesSpec.post enc Tryz.prog Tryz.f3 false true false false) := by
  refine returnsInHanded_of_change_and (C := Tryz.checked) (X := fun w _ => laidMetH Tryz.prog laidL w) (fun _ _ _ hh h => h.of_heap hh) own started (by kernel_rfl) Tryz.func3
    (ChangeSpec.witness_shaped (enc := enc) (C := Tryz.checked) (os := os) (X := fun w _ => laidMetH Tryz.prog laidL w) false (World.doorLaid Tryz.prog 58 os) #[] 8 rfl (World.shaped_of_RefB (by kernel_rfl) (by kernel_rfl)) (by kernel_rfl) (by kernel_rfl) (by kernel_rfl) (door_met os _)) ?_
  intro W base args ds gs before hval0 hW _ _ hL _
  have hval : ∀ (j : Nat) t v, Tryz.f3.params[j]? = some t → args[j]? = some v → Value.okWide Tryz.prog W .any base t v := hval0
  have hW' := hW
  obtain ⟨p, q, hA0, hV, rfl, hfz, hnd⟩ := hW
  have hA : DataW.TrodAll enc Tryz.prog W 0 (fun _ => true) true Tryz.f3.params.toList args.toList ds p := hA0
  rw [Tryz.params3] at hA hval
  obtain ⟨rfl, rfl, rfl⟩ := trodAll_none hA
  obtain ⟨rfl, rfl⟩ := trodVars_none hV
  clear hA0 hval0
  refine (walk  W hL).mono fun e W' ⟨he, bel⟩ => ?_
  subst he
  exact ⟨_, rfl, _, _, _, [], _, [], hW', trodAll_mk1 (shut_bool Tryz.underlying4 _), rfl, rfl, bel.frame _, fun h => by cases h⟩

set_option maxHeartbeats 20000000 in
theorem over : Rows.oneshotNamesRow.holds Tryz.pinned (OpenSpec.ofChange Rows.oneshotNamesSpec) :=
  OpenClaim.holds_of_wide 3 Tryz.f3 rfl rfl rfl rfl rfl rfl rfl ⟨rfl, rfl, rfl, rfl, rfl⟩ rfl rfl rfl rfl rfl (by kernel_rfl) Tryz.func3 jf_closed
    (of_decide_eq_true (by kernel_rfl)) (by unfold Func.isWrapper; first | (rw [if_pos (by decide +kernel)]; kernel_rfl) | (rw [if_neg (by decide +kernel)]; exact ⟨rfl, rfl⟩))
    (fun os started H enc _ => lifted os started H enc)
end Go.Proofs.YtjjpijoihenabaaGreatDoor.oneshotNames
