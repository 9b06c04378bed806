/- A part of a proof (see the text that ends in Proof). No conditions. -/
import Derived.Test.YtaokmgopghpikaaGreatDoorRows
import Derived.Test.YtaokmgopghpikaaGreatDoorVgJ
import Derived.Test.YtaokmgopghpikaaGreatDoorCards
import Derived.Test.YtaokmgopghpikaaGreatDoorTie
import Derived.Test.YtaokmgopghpikaaGreatDoorVgO
import Derived.Test.YtaokmgopghpikaaGreatDoorVgWB
import Derived.LaidMore
import Derived.Stop.Joined
import Derived.SevenTiedAt
import Derived.WalkKit
import Derived.ProofKit
import Derived.OpenShut
import Derived.ShutString
import Derived.ChangeOld
import Derived.Below
namespace Go.Proofs.YtaokmgopghpikaaGreatDoor.validTags
open Go Go.ChangeShapes Go.WideShapes Go.ChangeAt Go.RowKit Go.Lv
open Go.ChangeMaps (open_string shut_string)
set_option linter.unusedVariables false

theorem own : ownKnob Tryz.prog.godebug = none := by kernel_rfl
theorem laidOut : laidOutB Tryz.prog = true := by kernel_rfl

/-- WHAT THE WALK IS TOLD OF A SLICE OF INTEGERS THAT CAME IN: it is nil; or it leads to a row of 'cap' cells, the numbers 'zs' (the first 'len' are its elements, the rest its spare room), each fitting its kind. -/
def IsRow (k : IntKind) (w : World) (a : Option Addr) (len cap : Nat) (zs : List Int) : Prop :=
  (a = none ∧ len = 0 ∧ cap = 0 ∧ zs = []) ∨
  ∃ x, a = some x ∧ len ≤ cap ∧ cap ≤ maxLen ∧ zs.length = cap ∧ (∀ i, i < zs.length → w.cell? (x.add i) = some (.int k (zs.getD i 0))) ∧ ∀ n ∈ zs, (Lit.int k n).wf = true

def laidL : List (String × DataW Unit) := [("math/bits.deBruijn64tab", Rows.laid_math_bits_deBruijn64tab), ("bytes.ErrTooLarge", Rows.laid_bytes_ErrTooLarge), ("cadenza/fmtchunk.widths", Rows.laid_cadenza_fmtchunk_widths), ("cadenza/fmtchunk.guid", Rows.laid_cadenza_fmtchunk_guid), ("cadenza/header.widths", Rows.laid_cadenza_header_widths)]
set_option maxRecDepth 100000 in
/-- What the card ties, where the walk asks for it. -/
theorem glOk {w : World} (h : laidMetH Tryz.prog laidL w) : Go.Rx.GlOk gl (fun _ => True) w := by
  rw [MakeChecks.laidMetH_plain _ _ _ (by kernel_rfl)] at h
  obtain ⟨ps, ⟨g0, t0, cs0, f0, p0, q0, hg0, ht0, hv0, hd0, ⟨g1, t1, cs1, f1, p1, q1, hg1, ht1, hv1, hd1, ⟨g2, t2, cs2, f2, p2, q2, hg2, ht2, hv2, hd2, ⟨g3, t3, cs3, f3, p3, q3, hg3, ht3, hv3, hd3, ⟨g4, t4, cs4, f4, p4, q4, hg4, ht4, hv4, hd4, _, _⟩, _⟩, _⟩, _⟩, _⟩, _, _⟩ := h
  have hgn0 : Tryz.prog.globalNamed "math/bits.deBruijn64tab" = some 7 := by kernel_rfl
  have htt0 : (Tryz.prog.globals[7]?).map (·.type) = some 361 := by kernel_rfl
  obtain rfl := Option.some.inj (hgn0.symm.trans hg0)
  obtain rfl := Option.some.inj (htt0.symm.trans ht0)
  have hgn2 : Tryz.prog.globalNamed "cadenza/fmtchunk.widths" = some 4 := by kernel_rfl
  have htt2 : (Tryz.prog.globals[4]?).map (·.type) = some 349 := by kernel_rfl
  obtain rfl := Option.some.inj (hgn2.symm.trans hg2)
  obtain rfl := Option.some.inj (htt2.symm.trans ht2)
  have hgn3 : Tryz.prog.globalNamed "cadenza/fmtchunk.guid" = some 5 := by kernel_rfl
  have htt3 : (Tryz.prog.globals[5]?).map (·.type) = some 350 := by kernel_rfl
  obtain rfl := Option.some.inj (hgn3.symm.trans hg3)
  obtain rfl := Option.some.inj (htt3.symm.trans ht3)
  have hgn4 : Tryz.prog.globalNamed "cadenza/header.widths" = some 1 := by kernel_rfl
  have htt4 : (Tryz.prog.globals[1]?).map (·.type) = some 161 := by kernel_rfl
  obtain rfl := Option.some.inj (hgn4.symm.trans hg4)
  obtain rfl := Option.some.inj (htt4.symm.trans ht4)
  exact (Go.Rx.glOk_cons hgn4 hv4 ((Go.Rx.laid_ints (n := 5) (e := 3) (k := .i64) (zs := [2, 2, 2, 4, 4]) (by kernel_rfl) (by kernel_rfl) (by kernel_rfl) (by kernel_rfl) hd4).trans rfl) (Go.Rx.glOk_cons hgn2 hv2 ((Go.Rx.laid_ints (n := 9) (e := 3) (k := .i64) (zs := [2, 2, 4, 4, 2, 2, 2, 2, 4]) (by kernel_rfl) (by kernel_rfl) (by kernel_rfl) (by kernel_rfl) hd2).trans rfl) (Go.Rx.glOk_cons hgn3 hv3 ((Go.Rx.laid_ints (n := 16) (e := 5) (k := .u8) (zs := [1, 0, 0, 0, 0, 0, 16, 0, 128, 0, 0, 170, 0, 56, 155, 113]) (by kernel_rfl) (by kernel_rfl) (by kernel_rfl) (by kernel_rfl) hd3).trans rfl) (Go.Rx.glOk_cons hgn0 hv0 ((Go.Rx.laid_ints (n := 64) (e := 5) (k := .u8) (zs := [0, 1, 56, 2, 57, 49, 28, 3, 61, 58, 42, 50, 38, 29, 17, 4, 62, 47, 59, 36, 45, 43, 51, 22, 53, 39, 33, 30, 24, 18, 12, 5, 63, 55, 48, 27, 60, 41, 37, 16, 46, 35, 44, 21, 52, 32, 23, 11, 54, 26, 40, 15, 34, 20, 31, 10, 25, 14, 19, 9, 13, 8, 7, 6]) (by kernel_rfl) (by kernel_rfl) (by kernel_rfl) (by kernel_rfl) hd0).trans rfl) Go.Rx.glOk_nil))))
/-- The door's own heap meets the condition. -/
theorem door_met (os : Os) (args : Array Value) : laidMetH Tryz.prog laidL ((World.doorLaid Tryz.prog 58 os).forCall (fun _ _ => 0) ⟨#[], args, []⟩).memory :=
  laidMetH_of_parts3 (fuel := 8) (laidMet_of_run' 8 (by kernel_rfl) (by kernel_rfl)) (by kernel_rfl) (by kernel_rfl)

/-! ### STEP 1: THE WALK: the Go text returns true, AND WRITES NOTHING THAT WAS THERE: 'Below w.heap.size w w'' (Derived/Below.lean: '.refl', '.alloc', '.drew', '.setCell' at a new block, '.trans'). Open each 'IsRow' by 'rcases' AHEAD of 'go_enter'; part every test ahead of the walk. -/
theorem walk (a0 : Int) (a1 : Int) (a2 : Int) (a3 : Option Addr) (len3 cap3 : Nat) (z3 : List Int) (a4 : ByteArray) (a5 : Option Addr) (len5 cap5 : Nat) (z5 : List Int) (a6 : Option Addr) (len6 cap6 : Nat) (z6 : List Int) (a7 : Int) (w : World) (w0 : (Lit.int .i64 a0).wf = true) (w1 : (Lit.int .i64 a1).wf = true) (w2 : (Lit.int .i64 a2).wf = true) (w3 : IsRow .i32 w a3 len3 cap3 z3) (w4 : a4.size ≤ maxLen) (w5 : IsRow .u8 w a5 len5 cap5 z5) (w6 : IsRow .u8 w a6 len6 cap6 z6) (w7 : (Lit.int .i64 a7).wf = true) (hL : laidMetH Tryz.prog laidL w) :
    Calls Tryz.prog 5 #[.agg #[.int .i64 a0, .int .i64 a1, .int .i64 a2, .slice a3 len3 cap3], .string a4, .slice a5 len5 cap5, .slice a6 len6 cap6, .int .i64 a7] w fun e w' => e = .returned (.bool true) ∧ Below w.heap.size w w' := by
  rw [Go.Lv.wf_ofZ (T := Int) w0]
  rw [Go.Lv.wf_ofZ (T := Int) w1]
  rw [Go.Lv.wf_ofZ (T := Int) w2]
  obtain ⟨l3, hl3⟩ := Go.Lv.row_rd (T := Int32) w3
  obtain ⟨l4, hl4⟩ := Go.Rx.string_sv a4
  rw [hl4]
  obtain ⟨l5, hl5⟩ := Go.Lv.row_rd (T := UInt8) w5
  obtain ⟨l6, hl6⟩ := Go.Lv.row_rd (T := UInt8) w6
  rw [Go.Lv.wf_ofZ (T := Int) w7]
  exact Go.Rx.row_true F5.k.2 (x := ((GI.ofZ a0 : Int), (GI.ofZ a1 : Int), (GI.ofZ a2 : Int), l3, l4, l5, l6, (GI.ofZ a7 : Int))) (pvs := [.agg [.val (.int .i64) (GI.ofZ a0 : Int), .val (.int .i64) (GI.ofZ a1 : Int), .val (.int .i64) (GI.ofZ a2 : Int), .val (.list (.int .i32)) l3], .val .str l4, .val (.list (.int .u8)) l5, .val (.list (.int .u8)) l6, .val (.int .i64) (GI.ofZ a7 : Int)]) rfl rfl (Go.Rx.encs_cons (Go.Rx.enc_agg (Go.Rx.agg_leaf rfl (Go.Rx.enc_iv (k := .i64) _) (Go.Rx.agg_leaf rfl (Go.Rx.enc_iv (k := .i64) _) (Go.Rx.agg_leaf rfl (Go.Rx.enc_iv (k := .i64) _) (Go.Rx.agg_leaf rfl (Go.Rx.enc_row (k := .i32) hl3) Go.Rx.agg_nil))))) (Go.Rx.encs_cons (Go.Rx.enc_str _) (Go.Rx.encs_cons (Go.Rx.enc_row (k := .u8) hl5) (Go.Rx.encs_cons (Go.Rx.enc_row (k := .u8) hl6) (Go.Rx.encs_cons (Go.Rx.enc_iv (k := .i64) _) Go.Rx.encs_nil))))) (glOk hL) (Go.Pl.law_ValidTags (GI.ofZ a0 : Int) (GI.ofZ a1 : Int) (GI.ofZ a2 : Int) l3 l4 l5 l6 (GI.ofZ a7 : Int))

theorem arr4 {α : Type} (c : Array α) (h : c.size = 4) : ∃ e0 e1 e2 e3, c = #[e0, e1, e2, e3] := by
  obtain ⟨l⟩ := c
  match l, h with
  | [e0, e1, e2, e3], _ => exact ⟨e0, e1, e2, e3, rfl⟩
set_option maxRecDepth 100000 in
/-- A struct that comes in, opened. -/
theorem open0 {H : Type} {enc : TypeId × Value → H} {W : World} {fuel : Nat} {x : DataW H × List MemPlace} {e0 e1 e2 e3 : Value} (h : DataW.trod enc Tryz.prog W 0 (fun _ => true) true fuel 37 [e0, e1, e2, e3] = some x) :
    (∃ a, e0 = .int .i64 a ∧ (Lit.int .i64 a).wf = true) ∧ (∃ a, e1 = .int .i64 a ∧ (Lit.int .i64 a).wf = true) ∧ (∃ a, e2 = .int .i64 a ∧ (Lit.int .i64 a).wf = true) ∧ (∃ a len cap zs, e3 = .slice a len cap ∧ IsRow .i32 W a len cap zs) := by
  exact ⟨Go.Rx.fld_int Tryz.underlying37 h 0 rfl (by kernel_rfl) Tryz.underlying3 rfl, Go.Rx.fld_int Tryz.underlying37 h 1 rfl (by kernel_rfl) Tryz.underlying3 rfl, Go.Rx.fld_int Tryz.underlying37 h 2 rfl (by kernel_rfl) Tryz.underlying3 rfl, Go.Rx.fld_row Tryz.underlying37 h 3 rfl (by kernel_rfl) Tryz.underlying35 Tryz.underlying21 (by kernel_rfl) rfl⟩
/-! ### THE ROW's STEP: WRITTEN OUT: LEAVE IT -/
set_option maxRecDepth 100000 in
theorem lifted (os : Os) (started : os.Started) (H : Type) (enc : TypeId × Value → H) :
    ReturnsInHanded {} Tryz.checked os 5 .any (fun w args => (Rows.validTagsSpec.pre enc Tryz.prog Tryz.f5 [] false w args ∧ laidMetH Tryz.prog laidL w) ∧ sizedMet enc Tryz.prog Tryz.f5 (OpenSpec.ofChange Rows.validTagsSpec) false w args) (Rows.validTagsSpec.post enc Tryz.prog Tryz.f5 false true false false) := by
  refine returnsInHanded_of_change_and (C := Tryz.checked) (X := fun w _ => laidMetH Tryz.prog laidL w) (fun _ _ _ hh h => h.of_heap hh) own started (by kernel_rfl) Tryz.func5
    (ChangeSpec.witness_shaped (enc := enc) (C := Tryz.checked) (os := os) (X := fun w _ => laidMetH Tryz.prog laidL w) false (World.doorLaid Tryz.prog 58 os) #[.agg #[.int .i64 0, .int .i64 0, .int .i64 0, .slice none 0 0], .string ByteArray.empty, .slice none 0 0, .slice none 0 0, .int .i64 0] 8 rfl (World.shaped_of_RefB (by kernel_rfl) (by kernel_rfl)) (by kernel_rfl) (by kernel_rfl) (by kernel_rfl) (door_met os _)) ?_
  intro W base args ds gs before hval0 hW _ _ hL _
  have hval : ∀ (j : Nat) t v, Tryz.f5.params[j]? = some t → args[j]? = some v → Value.okWide Tryz.prog W .any base t v := hval0
  have hW' := hW
  obtain ⟨p, q, hA0, hV, rfl, hfz, hnd⟩ := hW
  have hA : DataW.TrodAll enc Tryz.prog W 0 (fun _ => true) true Tryz.f5.params.toList args.toList ds p := hA0
  rw [Tryz.params5] at hA hval
  obtain ⟨v0, vs0, d0, ds0, p0, q0, hargs, rfl, rfl, h0, r0⟩ := trodAll_cons hA
  obtain ⟨v1, vs1, d1, ds1, p1, q1, rfl, rfl, rfl, h1, r1⟩ := trodAll_cons r0
  obtain ⟨v2, vs2, d2, ds2, p2, q2, rfl, rfl, rfl, h2, r2⟩ := trodAll_cons r1
  obtain ⟨v3, vs3, d3, ds3, p3, q3, rfl, rfl, rfl, h3, r3⟩ := trodAll_cons r2
  obtain ⟨v4, vs4, d4, ds4, p4, q4, rfl, rfl, rfl, h4, r4⟩ := trodAll_cons r3
  obtain ⟨rfl, rfl, rfl⟩ := trodAll_nil r4
  obtain rfl : args = #[v0, v1, v2, v3, v4] := by cases args; simp_all
  obtain ⟨rfl, rfl⟩ := trodVars_none hV
  obtain ⟨c0, rfl, hc0⟩ := okWide_struct Tryz.underlying37 (hval 0 37 v0 rfl rfl)
  have k0 := h0
  have lt0 : ∀ x ∈ p0, x.block < W.heap.size := by obtain ⟨m, hm⟩ := k0; exact DataW.trod_lt m _ _ _ hm
  obtain ⟨fuel0, hf0⟩ := h0
  obtain ⟨e0_0, e0_1, e0_2, e0_3, rfl⟩ := arr4 c0 (hc0.trans (by kernel_rfl))
  obtain ⟨⟨a0, rfl, w0⟩, ⟨a1, rfl, w1⟩, ⟨a2, rfl, w2⟩, ⟨a3, len3, cap3, z3, rfl, w3⟩⟩ := open0 hf0
  obtain ⟨a4, rfl, rfl, rfl, w4⟩ := open_string Tryz.underlying9 (hval 1 9 v1 rfl rfl) h1
  have k2 := h2
  have lt2 : ∀ x ∈ p2, x.block < W.heap.size := by obtain ⟨m, hm⟩ := k2; exact DataW.trod_lt m _ _ _ hm
  obtain ⟨a5, len5, cap5, rfl⟩ := okWide_slice Tryz.underlying22 (hval 2 22 v2 rfl rfl)
  obtain ⟨z5, w5⟩ : ∃ zs, IsRow .u8 W a5 len5 cap5 zs := by
    obtain ⟨fuel, hf⟩ := h2
    rcases open_ints Tryz.underlying22 Tryz.underlying5 (by kernel_rfl) hf with ⟨hcs, _⟩ | ⟨x, l, c, zs, hcs, _, hl, hm, hz, _, hcell, hwz⟩
    · simp [Value.cells] at hcs
      obtain ⟨rfl, rfl, rfl⟩ := hcs
      exact ⟨[], .inl ⟨rfl, rfl, rfl, rfl⟩⟩
    · simp [Value.cells] at hcs
      obtain ⟨rfl, rfl, rfl⟩ := hcs
      exact ⟨zs, .inr ⟨_, rfl, hl, hm, by simpa using hz, hcell, hwz⟩⟩
  have k3 := h3
  have lt3 : ∀ x ∈ p3, x.block < W.heap.size := by obtain ⟨m, hm⟩ := k3; exact DataW.trod_lt m _ _ _ hm
  obtain ⟨a6, len6, cap6, rfl⟩ := okWide_slice Tryz.underlying22 (hval 3 22 v3 rfl rfl)
  obtain ⟨z6, w6⟩ : ∃ zs, IsRow .u8 W a6 len6 cap6 zs := by
    obtain ⟨fuel, hf⟩ := h3
    rcases open_ints Tryz.underlying22 Tryz.underlying5 (by kernel_rfl) hf with ⟨hcs, _⟩ | ⟨x, l, c, zs, hcs, _, hl, hm, hz, _, hcell, hwz⟩
    · simp [Value.cells] at hcs
      obtain ⟨rfl, rfl, rfl⟩ := hcs
      exact ⟨[], .inl ⟨rfl, rfl, rfl, rfl⟩⟩
    · simp [Value.cells] at hcs
      obtain ⟨rfl, rfl, rfl⟩ := hcs
      exact ⟨zs, .inr ⟨_, rfl, hl, hm, by simpa using hz, hcell, hwz⟩⟩
  obtain ⟨a7, rfl, rfl, rfl, w7⟩ := open_int Tryz.underlying3 (hval 4 3 v4 rfl rfl) h4
  clear hA0 hval0
  refine (walk a0 a1 a2 a3 len3 cap3 z3 a4 a5 len5 cap5 z5 a6 len6 cap6 z6 a7 W w0 w1 w2 w3 w4 w5 w6 w7 hL).mono fun e W' ⟨he, bel⟩ => ?_
  subst he
  exact ⟨_, rfl, _, _, _, [], _, [], hW', trodAll_mk1 (shut_bool Tryz.underlying4 _), (trodAll_cons_mk (Below.trod laidOut (by kernel_rfl) (of_decide_eq_true (by kernel_rfl)) k0 bel lt0) (trodAll_cons_mk (shut_string Tryz.underlying9 w4) (trodAll_cons_mk (Below.trod laidOut (by kernel_rfl) (of_decide_eq_true (by kernel_rfl)) k2 bel lt2) (trodAll_cons_mk (Below.trod laidOut (by kernel_rfl) (of_decide_eq_true (by kernel_rfl)) k3 bel lt3) (trodAll_cons_mk (shut_int Tryz.underlying3 w7) trodAll_mk0))))), rfl, bel.frame _, fun h => by cases h⟩

set_option maxHeartbeats 20000000 in
theorem over : Rows.validTagsRow.holds Tryz.pinned (OpenSpec.ofChange Rows.validTagsSpec) :=
  OpenClaim.holds_of_wide 5 Tryz.f5 rfl rfl rfl rfl rfl rfl rfl ⟨rfl, rfl, rfl, rfl, rfl⟩ rfl rfl rfl rfl rfl (by kernel_rfl) Tryz.func5 jf_closed
    (of_decide_eq_true (by kernel_rfl)) (by unfold Func.isWrapper; first | (rw [if_pos (by decide +kernel)]; kernel_rfl) | (rw [if_neg (by decide +kernel)]; exact ⟨rfl, rfl⟩))
    (fun os started H enc _ => lifted os started H enc)
end Go.Proofs.YtaokmgopghpikaaGreatDoor.validTags
