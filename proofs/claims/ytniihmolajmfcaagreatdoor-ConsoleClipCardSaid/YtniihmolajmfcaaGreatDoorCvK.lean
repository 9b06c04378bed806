/- A part of a proof (see the text that ends in Proof). No conditions. -/
import Derived.Test.YtniihmolajmfcaaGreatDoorRows
import Derived.Test.YtniihmolajmfcaaGreatDoorCvJ
import Derived.Test.YtniihmolajmfcaaGreatDoorCards
import Derived.Test.YtniihmolajmfcaaGreatDoorTie
import Derived.Test.YtniihmolajmfcaaGreatDoorCvO
import Derived.Test.YtniihmolajmfcaaGreatDoorCvWB
import Derived.LaidMore
import Derived.Stop.Joined
import Derived.SevenTiedAt
import Derived.Lay
import Derived.WalkKit
import Derived.ProofKit
import Derived.OpenShut
import Derived.ShutString
import Derived.ChangeOld
import Derived.Below
namespace Go.Proofs.YtniihmolajmfcaaGreatDoor.consoleClip
open Go Go.ChangeShapes Go.WideShapes Go.ChangeAt Go.RowKit Go.Lv
open Go.ChangeMaps (open_string shut_string)
set_option linter.unusedVariables false

theorem own : ownKnob Tryz.prog.godebug = none := by kernel_rfl
theorem laidOut : laidOutB Tryz.prog = true := by kernel_rfl

/-- WHAT THE WALK IS TOLD OF A SLICE OF INTEGERS THAT CAME IN: it is nil; or it leads to a row of 'cap' cells, the numbers 'zs' (the first 'len' are its elements, the rest its spare room), each fitting its kind. -/
def IsRow (k : IntKind) (w : World) (a : Option Addr) (len cap : Nat) (zs : List Int) : Prop :=
  (a = none ∧ len = 0 ∧ cap = 0 ∧ zs = []) ∨
  ∃ x, a = some x ∧ len ≤ cap ∧ cap ≤ maxLen ∧ zs.length = cap ∧ (∀ i, i < zs.length → w.cell? (x.add i) = some (.int k (zs.getD i 0))) ∧ ∀ n ∈ zs, (Lit.int k n).wf = true

def laidL : List (String × DataW Unit) := [("math/bits.deBruijn32tab", Rows.laid_math_bits_deBruijn32tab), ("math/bits.deBruijn64tab", Rows.laid_math_bits_deBruijn64tab), ("internal/strconv.uint64pow10", Rows.laid_internal_strconv_uint64pow10), ("unicode/utf8.acceptRanges", Rows.laid_unicode_utf8_acceptRanges), ("strconv.ErrRange", Rows.laid_strconv_ErrRange), ("strconv.ErrSyntax", Rows.laid_strconv_ErrSyntax), ("bytes.ErrTooLarge", Rows.laid_bytes_ErrTooLarge), ("cadenza/fmtchunk.widths", Rows.laid_cadenza_fmtchunk_widths), ("cadenza/fmtchunk.guid", Rows.laid_cadenza_fmtchunk_guid), ("cadenza/header.widths", Rows.laid_cadenza_header_widths), ("cadenza/pushdec.taken", Rows.laid_cadenza_pushdec_taken), ("cadenza/pushdec.waits", Rows.laid_cadenza_pushdec_waits), ("unicode/utf8.first", Rows.laid_unicode_utf8_first)]
set_option maxRecDepth 100000 in
/-- What the card ties, where the walk asks for it. -/
theorem glOk {w : World} (h : laidMetH Tryz.prog laidL w) : ∃ _ : Go.Rx.Ev, Go.Rx.GlOk gl (fun _ => True) w := by
  rw [MakeChecks.laidMetH_plain _ _ _ (by kernel_rfl)] at h
  obtain ⟨ps, ⟨g0, t0, cs0, f0, p0, q0, hg0, ht0, hv0, hd0, ⟨g1, t1, cs1, f1, p1, q1, hg1, ht1, hv1, hd1, ⟨g2, t2, cs2, f2, p2, q2, hg2, ht2, hv2, hd2, ⟨g3, t3, cs3, f3, p3, q3, hg3, ht3, hv3, hd3, ⟨g4, t4, cs4, f4, p4, q4, hg4, ht4, hv4, hd4, ⟨g5, t5, cs5, f5, p5, q5, hg5, ht5, hv5, hd5, ⟨g6, t6, cs6, f6, p6, q6, hg6, ht6, hv6, hd6, ⟨g7, t7, cs7, f7, p7, q7, hg7, ht7, hv7, hd7, ⟨g8, t8, cs8, f8, p8, q8, hg8, ht8, hv8, hd8, ⟨g9, t9, cs9, f9, p9, q9, hg9, ht9, hv9, hd9, ⟨g10, t10, cs10, f10, p10, q10, hg10, ht10, hv10, hd10, ⟨g11, t11, cs11, f11, p11, q11, hg11, ht11, hv11, hd11, ⟨g12, t12, cs12, f12, p12, q12, hg12, ht12, hv12, hd12, _, _⟩, _⟩, _⟩, _⟩, _⟩, _⟩, _⟩, _⟩, _⟩, _⟩, _⟩, _⟩, _⟩, _, _⟩ := h
  have hgn1 : Tryz.prog.globalNamed "math/bits.deBruijn64tab" = some 13 := by kernel_rfl
  have htt1 : (Tryz.prog.globals[13]?).map (·.type) = some 455 := by kernel_rfl
  obtain rfl := Option.some.inj (hgn1.symm.trans hg1)
  obtain rfl := Option.some.inj (htt1.symm.trans ht1)
  have hgn2 : Tryz.prog.globalNamed "internal/strconv.uint64pow10" = some 10 := by kernel_rfl
  have htt2 : (Tryz.prog.globals[10]?).map (·.type) = some 398 := by kernel_rfl
  obtain rfl := Option.some.inj (hgn2.symm.trans hg2)
  obtain rfl := Option.some.inj (htt2.symm.trans ht2)
  have hgn4 : Tryz.prog.globalNamed "strconv.ErrRange" = some 6 := by kernel_rfl
  have htt4 : (Tryz.prog.globals[6]?).map (·.type) = some 56 := by kernel_rfl
  obtain rfl := Option.some.inj (hgn4.symm.trans hg4)
  obtain rfl := Option.some.inj (htt4.symm.trans ht4)
  obtain ⟨ev4, he4, ok4⟩ := Go.Rx.laid_if Tryz.underlying56 hd4
  have hgn5 : Tryz.prog.globalNamed "strconv.ErrSyntax" = some 5 := by kernel_rfl
  have htt5 : (Tryz.prog.globals[5]?).map (·.type) = some 56 := by kernel_rfl
  obtain rfl := Option.some.inj (hgn5.symm.trans hg5)
  obtain rfl := Option.some.inj (htt5.symm.trans ht5)
  obtain ⟨ev5, he5, ok5⟩ := Go.Rx.laid_if Tryz.underlying56 hd5
  have hgn9 : Tryz.prog.globalNamed "cadenza/header.widths" = some 1 := by kernel_rfl
  have htt9 : (Tryz.prog.globals[1]?).map (·.type) = some 277 := by kernel_rfl
  obtain rfl := Option.some.inj (hgn9.symm.trans hg9)
  obtain rfl := Option.some.inj (htt9.symm.trans ht9)
  have hgn10 : Tryz.prog.globalNamed "cadenza/pushdec.taken" = some 7 := by kernel_rfl
  have htt10 : (Tryz.prog.globals[7]?).map (·.type) = some 210 := by kernel_rfl
  obtain rfl := Option.some.inj (hgn10.symm.trans hg10)
  obtain rfl := Option.some.inj (htt10.symm.trans ht10)
  have hgn11 : Tryz.prog.globalNamed "cadenza/pushdec.waits" = some 2 := by kernel_rfl
  have htt11 : (Tryz.prog.globals[2]?).map (·.type) = some 210 := by kernel_rfl
  obtain rfl := Option.some.inj (hgn11.symm.trans hg11)
  obtain rfl := Option.some.inj (htt11.symm.trans ht11)
  refine ⟨⟨fun k => if k = 6 then ev4 else ev5, fun k => by
    (try dsimp only)
    repeat' split
    all_goals assumption⟩, ?_⟩
  exact (Go.Rx.glOk_cons hgn9 hv9 ((Go.Rx.laid_ints (n := 5) (e := 3) (k := .i64) (zs := [2, 2, 2, 4, 4]) (by kernel_rfl) (by kernel_rfl) (by kernel_rfl) (by kernel_rfl) hd9).trans rfl) (Go.Rx.glOk_cons hgn11 hv11 ((Go.Rx.laid_bool_int (b := true) (z := 0) Tryz.underlying210 (by kernel_rfl) (by kernel_rfl) rfl rfl (by kernel_rfl) (by kernel_rfl) (by kernel_rfl) hd11).trans rfl) (Go.Rx.glOk_cons hgn5 hv5 he5 (Go.Rx.glOk_cons hgn4 hv4 he4 (Go.Rx.glOk_cons hgn10 hv10 ((Go.Rx.laid_bool_int (b := false) (z := 0) Tryz.underlying210 (by kernel_rfl) (by kernel_rfl) rfl rfl (by kernel_rfl) (by kernel_rfl) (by kernel_rfl) hd10).trans rfl) (Go.Rx.glOk_cons hgn2 hv2 ((Go.Rx.laid_ints (n := 20) (e := 272) (k := .u64) (zs := [1, 10, 100, 1000, 10000, 100000, 1000000, 10000000, 100000000, 1000000000, 10000000000, 100000000000, 1000000000000, 10000000000000, 100000000000000, 1000000000000000, 10000000000000000, 100000000000000000, 1000000000000000000, 10000000000000000000]) (by kernel_rfl) (by kernel_rfl) (by kernel_rfl) (by kernel_rfl) hd2).trans rfl) (Go.Rx.glOk_cons hgn1 hv1 ((Go.Rx.laid_ints (n := 64) (e := 5) (k := .u8) (zs := [0, 1, 56, 2, 57, 49, 28, 3, 61, 58, 42, 50, 38, 29, 17, 4, 62, 47, 59, 36, 45, 43, 51, 22, 53, 39, 33, 30, 24, 18, 12, 5, 63, 55, 48, 27, 60, 41, 37, 16, 46, 35, 44, 21, 52, 32, 23, 11, 54, 26, 40, 15, 34, 20, 31, 10, 25, 14, 19, 9, 13, 8, 7, 6]) (by kernel_rfl) (by kernel_rfl) (by kernel_rfl) (by kernel_rfl) hd1).trans rfl) Go.Rx.glOk_nil)))))))
/-- A heap with the tables laid meets the condition. -/
theorem door_met (os : Os) (args : Array Value) : laidMetH Tryz.prog laidL ((World.laidAll Tryz.prog os laidL).forCall (fun _ _ => 0) ⟨#[], args, []⟩).memory := by
  rw [MakeChecks.laidMetH_plain _ _ _ (by kernel_rfl)]
  exact laidMet_laidAll _ (by kernel_rfl) (by kernel_rfl)

/-! ### STEP 1: THE WALK: the Go text returns true, AND WRITES NOTHING THAT WAS THERE: 'Below w.heap.size w w'' (Derived/Below.lean: '.refl', '.alloc', '.drew', '.setCell' at a new block, '.trans'). Open each 'IsRow' by 'rcases' AHEAD of 'go_enter'; part every test ahead of the walk. -/
theorem walk (a0 : Int) (a1 : Int) (a2 : Int) (a3 : Option Addr) (len3 cap3 : Nat) (z3 : List Int) (a4 : Bool) (w : World) (w0 : (Lit.int .i64 a0).wf = true) (w1 : (Lit.int .i64 a1).wf = true) (w2 : (Lit.int .i64 a2).wf = true) (w3 : IsRow .i32 w a3 len3 cap3 z3) (hL : laidMetH Tryz.prog laidL w) :
    Calls Tryz.prog 7 #[.agg #[.int .i64 a0, .int .i64 a1, .int .i64 a2, .slice a3 len3 cap3], .bool a4] w fun e w' => e = .returned (.bool true) ∧ Below w.heap.size w w' := by
  rw [Go.Lv.wf_ofZ (T := Int) w0]
  rw [Go.Lv.wf_ofZ (T := Int) w1]
  rw [Go.Lv.wf_ofZ (T := Int) w2]
  obtain ⟨l3, hl3⟩ := Go.Lv.row_rd (T := Int32) w3
  obtain ⟨_, hg⟩ := glOk hL
  exact Go.Rx.row_true F7.k.2 (x := ((GI.ofZ a0 : Int), (GI.ofZ a1 : Int), (GI.ofZ a2 : Int), l3, a4)) (pvs := [.agg [.val (.int .i64) (GI.ofZ a0 : Int), .val (.int .i64) (GI.ofZ a1 : Int), .val (.int .i64) (GI.ofZ a2 : Int), .val (.list (.int .i32)) l3], .val .bool a4]) rfl rfl (Go.Rx.encs_cons (Go.Rx.enc_agg (Go.Rx.agg_leaf rfl (Go.Rx.enc_iv (k := .i64) _) (Go.Rx.agg_leaf rfl (Go.Rx.enc_iv (k := .i64) _) (Go.Rx.agg_leaf rfl (Go.Rx.enc_iv (k := .i64) _) (Go.Rx.agg_leaf rfl (Go.Rx.enc_row (k := .i32) hl3) Go.Rx.agg_nil))))) (Go.Rx.encs_cons (Go.Rx.enc_bool _) Go.Rx.encs_nil)) hg (Go.Pl.law_ConsoleClip (GI.ofZ a0 : Int) (GI.ofZ a1 : Int) (GI.ofZ a2 : Int) l3 a4)

theorem arr4 {α : Type} (c : Array α) (h : c.size = 4) : ∃ e0 e1 e2 e3, c = #[e0, e1, e2, e3] := by
  obtain ⟨l⟩ := c
  match l, h with
  | [e0, e1, e2, e3], _ => exact ⟨e0, e1, e2, e3, rfl⟩
set_option maxRecDepth 100000 in
/-- A struct that comes in, opened. -/
theorem open0 {H : Type} {enc : TypeId × Value → H} {W : World} {fuel : Nat} {x : DataW H × List MemPlace} {e0 e1 e2 e3 : Value} (h : DataW.trod enc Tryz.prog W 0 (fun _ => true) true fuel 42 [e0, e1, e2, e3] = some x) :
    (∃ a, e0 = .int .i64 a ∧ (Lit.int .i64 a).wf = true) ∧ (∃ a, e1 = .int .i64 a ∧ (Lit.int .i64 a).wf = true) ∧ (∃ a, e2 = .int .i64 a ∧ (Lit.int .i64 a).wf = true) ∧ (∃ a len cap zs, e3 = .slice a len cap ∧ IsRow .i32 W a len cap zs) := by
  exact ⟨Go.Rx.fld_int Tryz.underlying42 h 0 rfl (by kernel_rfl) Tryz.underlying3 rfl, Go.Rx.fld_int Tryz.underlying42 h 1 rfl (by kernel_rfl) Tryz.underlying3 rfl, Go.Rx.fld_int Tryz.underlying42 h 2 rfl (by kernel_rfl) Tryz.underlying3 rfl, Go.Rx.fld_row Tryz.underlying42 h 3 rfl (by kernel_rfl) Tryz.underlying40 Tryz.underlying21 (by kernel_rfl) rfl⟩
/-! ### THE ROW's STEP: WRITTEN OUT: LEAVE IT -/
set_option maxRecDepth 100000 in
theorem lifted (os : Os) (started : os.Started) (H : Type) (enc : TypeId × Value → H) :
    ReturnsInHanded {} Tryz.checked os 7 .any (fun w args => (Rows.consoleClipSpec.pre enc Tryz.prog Tryz.f7 [] false w args ∧ laidMetH Tryz.prog laidL w) ∧ sizedMet enc Tryz.prog Tryz.f7 (OpenSpec.ofChange Rows.consoleClipSpec) false w args) (Rows.consoleClipSpec.post enc Tryz.prog Tryz.f7 false true false false) := by
  refine returnsInHanded_of_change_and (C := Tryz.checked) (X := fun w _ => laidMetH Tryz.prog laidL w) (fun _ _ _ hh h => h.of_heap hh) own started (by kernel_rfl) Tryz.func7
    (ChangeSpec.witness_shaped (enc := enc) (C := Tryz.checked) (os := os) (X := fun w _ => laidMetH Tryz.prog laidL w) false (World.laidAll Tryz.prog os laidL) #[.agg #[.int .i64 0, .int .i64 0, .int .i64 0, .slice none 0 0], .bool false] 8 (World.laidAll_os _ _ _) (World.shaped_of_ZipB (by kernel_rfl) (by kernel_rfl)) (by kernel_rfl) (by kernel_rfl) (by kernel_rfl) (door_met os _)) ?_
  intro W base args ds gs before hval0 hW _ _ hL _
  have hval : ∀ (j : Nat) t v, Tryz.f7.params[j]? = some t → args[j]? = some v → Value.okWide Tryz.prog W .any base t v := hval0
  have hW' := hW
  obtain ⟨p, q, hA0, hV, rfl, hfz, hnd⟩ := hW
  have hA : DataW.TrodAll enc Tryz.prog W 0 (fun _ => true) true Tryz.f7.params.toList args.toList ds p := hA0
  rw [Tryz.params7] at hA hval
  obtain ⟨v0, vs0, d0, ds0, p0, q0, hargs, rfl, rfl, h0, r0⟩ := trodAll_cons hA
  obtain ⟨v1, vs1, d1, ds1, p1, q1, rfl, rfl, rfl, h1, r1⟩ := trodAll_cons r0
  obtain ⟨rfl, rfl, rfl⟩ := trodAll_nil r1
  obtain rfl : args = #[v0, v1] := by cases args; simp_all
  obtain ⟨rfl, rfl⟩ := trodVars_none hV
  obtain ⟨c0, rfl, hc0⟩ := okWide_struct Tryz.underlying42 (hval 0 42 v0 rfl rfl)
  have k0 := h0
  have lt0 : ∀ x ∈ p0, x.block < W.heap.size := by obtain ⟨m, hm⟩ := k0; exact DataW.trod_lt m _ _ _ hm
  obtain ⟨fuel0, hf0⟩ := h0
  obtain ⟨e0_0, e0_1, e0_2, e0_3, rfl⟩ := arr4 c0 (hc0.trans (by kernel_rfl))
  obtain ⟨⟨a0, rfl, w0⟩, ⟨a1, rfl, w1⟩, ⟨a2, rfl, w2⟩, ⟨a3, len3, cap3, z3, rfl, w3⟩⟩ := open0 hf0
  obtain ⟨a4, rfl, rfl, rfl⟩ := open_bool Tryz.underlying4 (hval 1 4 v1 rfl rfl) h1
  clear hA0 hval0
  refine (walk a0 a1 a2 a3 len3 cap3 z3 a4 W w0 w1 w2 w3 hL).mono fun e W' ⟨he, bel⟩ => ?_
  subst he
  exact ⟨_, rfl, _, _, _, [], _, [], hW', trodAll_mk1 (shut_bool Tryz.underlying4 _), (trodAll_cons_mk (Below.trod laidOut (by kernel_rfl) (of_decide_eq_true (by kernel_rfl)) k0 bel lt0) (trodAll_cons_mk (shut_bool Tryz.underlying4 _) trodAll_mk0)), rfl, bel.frame _, fun h => by cases h⟩

set_option maxHeartbeats 20000000 in
theorem over : Rows.consoleClipRow.holds Tryz.pinned (OpenSpec.ofChange Rows.consoleClipSpec) :=
  OpenClaim.holds_of_wide 7 Tryz.f7 rfl rfl rfl rfl rfl rfl rfl ⟨rfl, rfl, rfl, rfl, rfl⟩ rfl rfl rfl rfl rfl (by kernel_rfl) Tryz.func7 jf_closed
    (of_decide_eq_true (by kernel_rfl)) (by unfold Func.isWrapper; first | (rw [if_pos (by decide +kernel)]; kernel_rfl) | (rw [if_neg (by decide +kernel)]; exact ⟨rfl, rfl⟩))
    (fun os started H enc _ => lifted os started H enc)
end Go.Proofs.YtniihmolajmfcaaGreatDoor.consoleClip
