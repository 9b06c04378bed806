/- A part of a proof (see the text that ends in Proof). No conditions. -/
import Derived.Test.YtniihmolajmfcaaGreatDoorRows
import Derived.Test.YtniihmolajmfcaaGreatDoorChJ
import Derived.Test.YtniihmolajmfcaaGreatDoorCards
import Derived.Test.YtniihmolajmfcaaGreatDoorTie
import Derived.Test.YtniihmolajmfcaaGreatDoorChO
import Derived.Test.YtniihmolajmfcaaGreatDoorChWA
import Derived.LaidMore
import Derived.Stop.Joined
import Derived.SevenTiedAt
import Derived.Lay
import Derived.ChangeOld
import Derived.Below
import Derived.WalkKit
import Derived.ProofKit
import Derived.OpenShut
import Derived.ShutString
namespace Go.Proofs.YtniihmolajmfcaaGreatDoor.consoleHex
open Go Go.ChangeShapes Go.WideShapes Go.ChangeAt Go.RowKit Go.Lv
open Go.ChangeMaps (open_string shut_string)
set_option linter.unusedVariables false      -- a walk need not use every 'w<i>' (that an integer argument fits its kind)

theorem own : ownKnob Tryz.prog.godebug = none := by kernel_rfl

def laidL : List (String × DataW Unit) := [("math/bits.deBruijn32tab", Rows.laid_math_bits_deBruijn32tab), ("math/bits.deBruijn64tab", Rows.laid_math_bits_deBruijn64tab), ("internal/strconv.uint64pow10", Rows.laid_internal_strconv_uint64pow10), ("unicode/utf8.acceptRanges", Rows.laid_unicode_utf8_acceptRanges), ("strconv.ErrRange", Rows.laid_strconv_ErrRange), ("strconv.ErrSyntax", Rows.laid_strconv_ErrSyntax), ("bytes.ErrTooLarge", Rows.laid_bytes_ErrTooLarge), ("cadenza/fmtchunk.widths", Rows.laid_cadenza_fmtchunk_widths), ("cadenza/fmtchunk.guid", Rows.laid_cadenza_fmtchunk_guid), ("cadenza/header.widths", Rows.laid_cadenza_header_widths), ("cadenza/pushdec.taken", Rows.laid_cadenza_pushdec_taken), ("cadenza/pushdec.waits", Rows.laid_cadenza_pushdec_waits), ("unicode/utf8.first", Rows.laid_unicode_utf8_first)]
set_option maxRecDepth 100000 in
/-- What the card ties, where the walk asks for it. -/
theorem glOk {w : World} (h : laidMetH Tryz.prog laidL w) : ∃ _ : Go.Rx.Ev, Go.Rx.GlOk gl (fun _ => True) w := by
  rw [MakeChecks.laidMetH_plain _ _ _ (by kernel_rfl)] at h
  obtain ⟨ps, ⟨g0, t0, cs0, f0, p0, q0, hg0, ht0, hv0, hd0, ⟨g1, t1, cs1, f1, p1, q1, hg1, ht1, hv1, hd1, ⟨g2, t2, cs2, f2, p2, q2, hg2, ht2, hv2, hd2, ⟨g3, t3, cs3, f3, p3, q3, hg3, ht3, hv3, hd3, ⟨g4, t4, cs4, f4, p4, q4, hg4, ht4, hv4, hd4, ⟨g5, t5, cs5, f5, p5, q5, hg5, ht5, hv5, hd5, ⟨g6, t6, cs6, f6, p6, q6, hg6, ht6, hv6, hd6, ⟨g7, t7, cs7, f7, p7, q7, hg7, ht7, hv7, hd7, ⟨g8, t8, cs8, f8, p8, q8, hg8, ht8, hv8, hd8, ⟨g9, t9, cs9, f9, p9, q9, hg9, ht9, hv9, hd9, ⟨g10, t10, cs10, f10, p10, q10, hg10, ht10, hv10, hd10, ⟨g11, t11, cs11, f11, p11, q11, hg11, ht11, hv11, hd11, ⟨g12, t12, cs12, f12, p12, q12, hg12, ht12, hv12, hd12, _, _⟩, _⟩, _⟩, _⟩, _⟩, _⟩, _⟩, _⟩, _⟩, _⟩, _⟩, _⟩, _⟩, _, _⟩ := h
  have hgn1 : Tryz.prog.globalNamed "math/bits.deBruijn64tab" = some 13 := by kernel_rfl
  have htt1 : (Tryz.prog.globals[13]?).map (·.type) = some 455 := by kernel_rfl
  obtain rfl := Option.some.inj (hgn1.symm.trans hg1)
  obtain rfl := Option.some.inj (htt1.symm.trans ht1)
  have hgn2 : Tryz.prog.globalNamed "internal/strconv.uint64pow10" = some 10 := by kernel_rfl
  have htt2 : (Tryz.prog.globals[10]?).map (·.type) = some 398 := by kernel_rfl
  obtain rfl := Option.some.inj (hgn2.symm.trans hg2)
  obtain rfl := Option.some.inj (htt2.symm.trans ht2)
  have hgn4 : Tryz.prog.globalNamed "strconv.ErrRange" = some 6 := by kernel_rfl
  have htt4 : (Tryz.prog.globals[6]?).map (·.type) = some 56 := by kernel_rfl
  obtain rfl := Option.some.inj (hgn4.symm.trans hg4)
  obtain rfl := Option.some.inj (htt4.symm.trans ht4)
  obtain ⟨ev4, he4, ok4⟩ := Go.Rx.laid_if Tryz.underlying56 hd4
  have hgn5 : Tryz.prog.globalNamed "strconv.ErrSyntax" = some 5 := by kernel_rfl
  have htt5 : (Tryz.prog.globals[5]?).map (·.type) = some 56 := by kernel_rfl
  obtain rfl := Option.some.inj (hgn5.symm.trans hg5)
  obtain rfl := Option.some.inj (htt5.symm.trans ht5)
  obtain ⟨ev5, he5, ok5⟩ := Go.Rx.laid_if Tryz.underlying56 hd5
  have hgn7 : Tryz.prog.globalNamed "cadenza/fmtchunk.widths" = some 8 := by kernel_rfl
  have htt7 : (Tryz.prog.globals[8]?).map (·.type) = some 352 := by kernel_rfl
  obtain rfl := Option.some.inj (hgn7.symm.trans hg7)
  obtain rfl := Option.some.inj (htt7.symm.trans ht7)
  have hgn8 : Tryz.prog.globalNamed "cadenza/fmtchunk.guid" = some 9 := by kernel_rfl
  have htt8 : (Tryz.prog.globals[9]?).map (·.type) = some 353 := by kernel_rfl
  obtain rfl := Option.some.inj (hgn8.symm.trans hg8)
  obtain rfl := Option.some.inj (htt8.symm.trans ht8)
  have hgn9 : Tryz.prog.globalNamed "cadenza/header.widths" = some 1 := by kernel_rfl
  have htt9 : (Tryz.prog.globals[1]?).map (·.type) = some 277 := by kernel_rfl
  obtain rfl := Option.some.inj (hgn9.symm.trans hg9)
  obtain rfl := Option.some.inj (htt9.symm.trans ht9)
  have hgn10 : Tryz.prog.globalNamed "cadenza/pushdec.taken" = some 7 := by kernel_rfl
  have htt10 : (Tryz.prog.globals[7]?).map (·.type) = some 210 := by kernel_rfl
  obtain rfl := Option.some.inj (hgn10.symm.trans hg10)
  obtain rfl := Option.some.inj (htt10.symm.trans ht10)
  have hgn11 : Tryz.prog.globalNamed "cadenza/pushdec.waits" = some 2 := by kernel_rfl
  have htt11 : (Tryz.prog.globals[2]?).map (·.type) = some 210 := by kernel_rfl
  obtain rfl := Option.some.inj (hgn11.symm.trans hg11)
  obtain rfl := Option.some.inj (htt11.symm.trans ht11)
  refine ⟨⟨fun k => if k = 6 then ev4 else ev5, fun k => by
    try dsimp only
    repeat' split
    all_goals assumption⟩, ?_⟩
  exact (Go.Rx.glOk_cons hgn9 hv9 ((Go.Rx.laid_ints (n := 5) (e := 3) (k := .i64) (zs := [2, 2, 2, 4, 4]) (by kernel_rfl) (by kernel_rfl) (by kernel_rfl) (by kernel_rfl) hd9).trans rfl) (Go.Rx.glOk_cons hgn11 hv11 ((Go.Rx.laid_bool_int (b := true) (z := 0) Tryz.underlying210 (by kernel_rfl) (by kernel_rfl) rfl rfl (by kernel_rfl) (by kernel_rfl) (by kernel_rfl) hd11).trans rfl) (Go.Rx.glOk_cons hgn5 hv5 he5 (Go.Rx.glOk_cons hgn4 hv4 he4 (Go.Rx.glOk_cons hgn10 hv10 ((Go.Rx.laid_bool_int (b := false) (z := 0) Tryz.underlying210 (by kernel_rfl) (by kernel_rfl) rfl rfl (by kernel_rfl) (by kernel_rfl) (by kernel_rfl) hd10).trans rfl) (Go.Rx.glOk_cons hgn7 hv7 ((Go.Rx.laid_ints (n := 9) (e := 3) (k := .i64) (zs := [2, 2, 4, 4, 2, 2, 2, 2, 4]) (by kernel_rfl) (by kernel_rfl) (by kernel_rfl) (by kernel_rfl) hd7).trans rfl) (Go.Rx.glOk_cons hgn8 hv8 ((Go.Rx.laid_ints (n := 16) (e := 5) (k := .u8) (zs := [1, 0, 0, 0, 0, 0, 16, 0, 128, 0, 0, 170, 0, 56, 155, 113]) (by kernel_rfl) (by kernel_rfl) (by kernel_rfl) (by kernel_rfl) hd8).trans rfl) (Go.Rx.glOk_cons hgn2 hv2 ((Go.Rx.laid_ints (n := 20) (e := 272) (k := .u64) (zs := [1, 10, 100, 1000, 10000, 100000, 1000000, 10000000, 100000000, 1000000000, 10000000000, 100000000000, 1000000000000, 10000000000000, 100000000000000, 1000000000000000, 10000000000000000, 100000000000000000, 1000000000000000000, 10000000000000000000]) (by kernel_rfl) (by kernel_rfl) (by kernel_rfl) (by kernel_rfl) hd2).trans rfl) (Go.Rx.glOk_cons hgn1 hv1 ((Go.Rx.laid_ints (n := 64) (e := 5) (k := .u8) (zs := [0, 1, 56, 2, 57, 49, 28, 3, 61, 58, 42, 50, 38, 29, 17, 4, 62, 47, 59, 36, 45, 43, 51, 22, 53, 39, 33, 30, 24, 18, 12, 5, 63, 55, 48, 27, 60, 41, 37, 16, 46, 35, 44, 21, 52, 32, 23, 11, 54, 26, 40, 15, 34, 20, 31, 10, 25, 14, 19, 9, 13, 8, 7, 6]) (by kernel_rfl) (by kernel_rfl) (by kernel_rfl) (by kernel_rfl) hd1).trans rfl) Go.Rx.glOk_nil)))))))))
/-- A heap with the tables laid meets the condition. -/
theorem door_met (os : Os) (args : Array Value) : laidMetH Tryz.prog laidL ((World.laidAll Tryz.prog os laidL).forCall (fun _ _ => 0) ⟨#[], args, []⟩).memory := by
  rw [MakeChecks.laidMetH_plain _ _ _ (by kernel_rfl)]
  exact laidMet_laidAll _ (by kernel_rfl) (by kernel_rfl)

/-! ### STEP 1: THE WALK: the Go text returns true. 'Grown w w'': the world has at most new blocks (Derived/RowKit3.lean). Part the cases AHEAD of 'go_enter' where a test parts the walk; take each callee by a contract of your own. -/
theorem walk (a0 : ByteArray) (w0 : a0.size ≤ maxLen) (w : World) (hL : laidMetH Tryz.prog laidL w) :
    Calls Tryz.prog 6 #[.string a0] w fun e w' => e = .returned (.bool true) ∧ Below w.heap.size w w' := by
  obtain ⟨l0, hl0⟩ := Go.Rx.string_sv a0
  rw [hl0]
  obtain ⟨_, hg⟩ := glOk hL
  exact Go.Rx.row_true F6.k.2 (x := (l0)) (pvs := [.val .str l0]) rfl rfl (Go.Rx.encs_cons (Go.Rx.enc_str _) Go.Rx.encs_nil) hg (Go.Pl.law_ConsoleHex l0 (by have := w0; rw [Value.string.inj hl0] at this; exact Nat.le_trans this (by decide)))
  -- go_enter Tryz.func6, Tryz.ntmps6
  -- go_wp2
  -- go_ret
  -- exact ⟨rfl, by repeat (first | exact Grown.refl _ | apply Grown.drew | apply Grown.alloc)⟩

/-! ### THE ROW's STEP: WRITTEN OUT: LEAVE IT -/
set_option maxRecDepth 100000 in
theorem lifted (os : Os) (started : os.Started) (H : Type) (enc : TypeId × Value → H) :
    ReturnsInHanded {} Tryz.checked os 6 .any (fun w args => (Rows.consoleHexSpec.pre enc Tryz.prog Tryz.f6 [] false w args ∧ laidMetH Tryz.prog laidL w) ∧ sizedMet enc Tryz.prog Tryz.f6 (OpenSpec.ofChange Rows.consoleHexSpec) false w args) (Rows.consoleHexSpec.post enc Tryz.prog Tryz.f6 false true false false) := by
  refine returnsInHanded_of_change_and (C := Tryz.checked) (X := fun w _ => laidMetH Tryz.prog laidL w) (fun _ _ _ hh h => h.of_heap hh) own started (by kernel_rfl) Tryz.func6
    (ChangeSpec.witness_shaped (enc := enc) (C := Tryz.checked) (os := os) (X := fun w _ => laidMetH Tryz.prog laidL w) false (World.laidAll Tryz.prog os laidL) #[.string ByteArray.empty] 8 (World.laidAll_os _ _ _) (World.shaped_of_ZipB (by kernel_rfl) (by kernel_rfl)) (by kernel_rfl) (by kernel_rfl) (by kernel_rfl) (door_met os _)) ?_
  intro W base args ds gs before hval0 hW _ _ hL _
  have hval : ∀ (j : Nat) t v, Tryz.f6.params[j]? = some t → args[j]? = some v → Value.okWide Tryz.prog W .any base t v := hval0
  have hW' := hW
  obtain ⟨p, q, hA0, hV, rfl, hfz, hnd⟩ := hW
  have hA : DataW.TrodAll enc Tryz.prog W 0 (fun _ => true) true Tryz.f6.params.toList args.toList ds p := hA0
  rw [Tryz.params6] at hA hval
  obtain ⟨v0, vs0, d0, ds0, p0, q0, hargs, rfl, rfl, h0, r0⟩ := trodAll_cons hA
  obtain ⟨rfl, rfl, rfl⟩ := trodAll_nil r0
  obtain rfl : args = #[v0] := by cases args; simp_all
  obtain ⟨rfl, rfl⟩ := trodVars_none hV
  obtain ⟨a0, rfl, rfl, rfl, w0⟩ := open_string Tryz.underlying9 (hval 0 9 v0 rfl rfl) h0
  clear hA0 hval0
  refine (walk a0 w0 W hL).mono fun e W' ⟨he, bel⟩ => ?_
  subst he
  exact ⟨_, rfl, _, _, _, [], _, [], hW', trodAll_mk1 (shut_bool Tryz.underlying4 _), (trodAll_cons_mk (shut_string Tryz.underlying9 w0) trodAll_mk0), rfl, bel.frame _, fun h => by cases h⟩

set_option maxHeartbeats 20000000 in
theorem over : Rows.consoleHexRow.holds Tryz.pinned (OpenSpec.ofChange Rows.consoleHexSpec) :=
  OpenClaim.holds_of_wide 6 Tryz.f6 rfl rfl rfl rfl rfl rfl rfl ⟨rfl, rfl, rfl, rfl, rfl⟩ rfl rfl rfl rfl rfl (by kernel_rfl) Tryz.func6 jf_closed
    (of_decide_eq_true (by kernel_rfl)) (by unfold Func.isWrapper; first | (rw [if_pos (by decide +kernel)]; kernel_rfl) | (rw [if_neg (by decide +kernel)]; exact ⟨rfl, rfl⟩))
    (fun os started H enc _ => lifted os started H enc)
end Go.Proofs.YtniihmolajmfcaaGreatDoor.consoleHex
