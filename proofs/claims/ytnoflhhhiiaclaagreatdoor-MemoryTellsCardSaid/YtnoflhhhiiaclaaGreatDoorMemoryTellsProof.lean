/- Proved: the given statement Rows.MemoryTellsCardSaid: the Go function cadenza/cadenzalaw43.MemoryTells returns true at every input, and the arguments read as before. No conditions. -/
import Derived.Test.YtnoflhhhiiaclaaGreatDoorRows
import Derived.Test.YtnoflhhhiiaclaaGreatDoorCards
import Derived.Test.YtnoflhhhiiaclaaGreatDoorTie
import Derived.Test.YtnoflhhhiiaclaaGreatDoorMtBA
import Derived.Test.YtnoflhhhiiaclaaGreatDoorMtBB
import Derived.Test.YtnoflhhhiiaclaaGreatDoorMtBC
import Derived.Test.YtnoflhhhiiaclaaGreatDoorMtO
import Derived.Test.YtnoflhhhiiaclaaGreatDoorMtWA
import Derived.Test.YtnoflhhhiiaclaaGreatDoorMtWB
import Derived.LaidMore
import Derived.Stop.Joined
import Derived.SevenTiedAt
import Derived.WalkKit
import Derived.ProofKit
import Derived.OpenShut
import Derived.ShutString
import Derived.ChangeOld
import Derived.Below
namespace Go.Proofs.YtnoflhhhiiaclaaGreatDoor.memoryTells
open Go Go.ChangeShapes Go.WideShapes Go.ChangeAt Go.RowKit Go.Lv
open Go.ChangeMaps (open_string shut_string)
set_option linter.unusedVariables false

theorem own : ownKnob Tryz.prog.godebug = none := by kernel_rfl
theorem laidOut : laidOutB Tryz.prog = true := by kernel_rfl

/-- WHAT THE WALK IS TOLD OF A SLICE OF INTEGERS THAT CAME IN: it is nil; or it leads to a row of 'cap' cells, the numbers 'zs' (the first 'len' are its elements, the rest its spare room), each fitting its kind. -/
def IsRow (k : IntKind) (w : World) (a : Option Addr) (len cap : Nat) (zs : List Int) : Prop :=
  (a = none ∧ len = 0 ∧ cap = 0 ∧ zs = []) ∨
  ∃ x, a = some x ∧ len ≤ cap ∧ cap ≤ maxLen ∧ zs.length = cap ∧ (∀ i, i < zs.length → w.cell? (x.add i) = some (.int k (zs.getD i 0))) ∧ ∀ n ∈ zs, (Lit.int k n).wf = true

def laidL : List (String × DataW Unit) := [("math/bits.deBruijn64tab", Rows.laid_math_bits_deBruijn64tab), ("cadenza/header.widths", Rows.laid_cadenza_header_widths), ("cadenza/pushdec.taken", Rows.laid_cadenza_pushdec_taken), ("cadenza/pushdec.waits", Rows.laid_cadenza_pushdec_waits)]
set_option maxRecDepth 100000 in
/-- What the card ties, where the walk asks for it. -/
theorem glOk {w : World} (h : laidMetH Tryz.prog laidL w) : Go.Rx.GlOk gl (fun _ => True) w := by
  rw [MakeChecks.laidMetH_plain _ _ _ (by kernel_rfl)] at h
  obtain ⟨ps, ⟨g0, t0, cs0, f0, p0, q0, hg0, ht0, hv0, hd0, ⟨g1, t1, cs1, f1, p1, q1, hg1, ht1, hv1, hd1, ⟨g2, t2, cs2, f2, p2, q2, hg2, ht2, hv2, hd2, ⟨g3, t3, cs3, f3, p3, q3, hg3, ht3, hv3, hd3, _, _⟩, _⟩, _⟩, _⟩, _, _⟩ := h
  have hgn0 : Tryz.prog.globalNamed "math/bits.deBruijn64tab" = some 6 := by kernel_rfl
  have htt0 : (Tryz.prog.globals[6]?).map (·.type) = some 371 := by kernel_rfl
  obtain rfl := Option.some.inj (hgn0.symm.trans hg0)
  obtain rfl := Option.some.inj (htt0.symm.trans ht0)
  have hgn1 : Tryz.prog.globalNamed "cadenza/header.widths" = some 2 := by kernel_rfl
  have htt1 : (Tryz.prog.globals[2]?).map (·.type) = some 197 := by kernel_rfl
  obtain rfl := Option.some.inj (hgn1.symm.trans hg1)
  obtain rfl := Option.some.inj (htt1.symm.trans ht1)
  have hgn2 : Tryz.prog.globalNamed "cadenza/pushdec.taken" = some 1 := by kernel_rfl
  have htt2 : (Tryz.prog.globals[1]?).map (·.type) = some 79 := by kernel_rfl
  obtain rfl := Option.some.inj (hgn2.symm.trans hg2)
  obtain rfl := Option.some.inj (htt2.symm.trans ht2)
  have hgn3 : Tryz.prog.globalNamed "cadenza/pushdec.waits" = some 0 := by kernel_rfl
  have htt3 : (Tryz.prog.globals[0]?).map (·.type) = some 79 := by kernel_rfl
  obtain rfl := Option.some.inj (hgn3.symm.trans hg3)
  obtain rfl := Option.some.inj (htt3.symm.trans ht3)
  exact (Go.Rx.glOk_cons hgn3 hv3 ((Go.Rx.laid_bool_int (b := true) (z := 0) Tryz.underlying79 (by kernel_rfl) (by kernel_rfl) rfl rfl (by kernel_rfl) (by kernel_rfl) (by kernel_rfl) hd3).trans rfl) (Go.Rx.glOk_cons hgn2 hv2 ((Go.Rx.laid_bool_int (b := false) (z := 0) Tryz.underlying79 (by kernel_rfl) (by kernel_rfl) rfl rfl (by kernel_rfl) (by kernel_rfl) (by kernel_rfl) hd2).trans rfl) (Go.Rx.glOk_cons hgn1 hv1 ((Go.Rx.laid_ints (n := 5) (e := 3) (k := .i64) (zs := [2, 2, 2, 4, 4]) (by kernel_rfl) (by kernel_rfl) (by kernel_rfl) (by kernel_rfl) hd1).trans rfl) (Go.Rx.glOk_cons hgn0 hv0 ((Go.Rx.laid_ints (n := 64) (e := 5) (k := .u8) (zs := [0, 1, 56, 2, 57, 49, 28, 3, 61, 58, 42, 50, 38, 29, 17, 4, 62, 47, 59, 36, 45, 43, 51, 22, 53, 39, 33, 30, 24, 18, 12, 5, 63, 55, 48, 27, 60, 41, 37, 16, 46, 35, 44, 21, 52, 32, 23, 11, 54, 26, 40, 15, 34, 20, 31, 10, 25, 14, 19, 9, 13, 8, 7, 6]) (by kernel_rfl) (by kernel_rfl) (by kernel_rfl) (by kernel_rfl) hd0).trans rfl) Go.Rx.glOk_nil))))
/-- The door's own heap meets the condition. -/
theorem door_met (os : Os) (args : Array Value) : laidMetH Tryz.prog laidL ((World.doorLaid Tryz.prog 58 os).forCall (fun _ _ => 0) ⟨#[], args, []⟩).memory :=
  laidMetH_of_parts3 (fuel := 8) (laidMet_of_run' 8 (by kernel_rfl) (by kernel_rfl)) (by kernel_rfl) (by kernel_rfl)

/-! ### STEP 1: THE WALK: the Go text returns true, AND WRITES NOTHING THAT WAS THERE: 'Below w.heap.size w w'' (Derived/Below.lean: '.refl', '.alloc', '.drew', '.setCell' at a new block, '.trans'). Open each 'IsRow' by 'rcases' AHEAD of 'go_enter'; part every test ahead of the walk. -/
theorem walk (a0 : Int) (a1 : Int) (a2 : Int) (a3 : ByteArray) (a4 : Option Addr) (len4 cap4 : Nat) (z4 : List Int) (a5 : Option Addr) (len5 cap5 : Nat) (z5 : List Int) (a6 : Option Addr) (len6 cap6 : Nat) (z6 : List (List UInt8)) (a7 : Option Addr) (len7 cap7 : Nat) (z7 : List Int) (a8 : Bool) (a9 : Int) (a10 : ByteArray) (a11 : Option Addr) (len11 cap11 : Nat) (z11 : List Int) (a12 : Int) (a13 : Int) (a14 : Int) (a15 : Int) (a16 : Int) (a17 : Option Addr) (len17 cap17 : Nat) (z17 : List Int) (a18 : Int) (a19 : Option Addr) (len19 cap19 : Nat) (z19 : List Int) (a20 : Bool) (a21 : Int) (a22 : Int) (w : World) (w0 : (Lit.int .i64 a0).wf = true) (w1 : (Lit.int .i64 a1).wf = true) (w2 : (Lit.int .i64 a2).wf = true) (w3 : a3.size ≤ maxLen) (w4 : IsRow .u8 w a4 len4 cap4 z4) (w5 : IsRow .i32 w a5 len5 cap5 z5) (w6 : Go.Rx.IsRows .u8 w a6 len6 cap6 z6) (w7 : IsRow .u8 w a7 len7 cap7 z7) (w9 : (Lit.int .i64 a9).wf = true) (w10 : a10.size ≤ maxLen) (w11 : IsRow .u8 w a11 len11 cap11 z11) (w12 : (Lit.int .i64 a12).wf = true) (w13 : (Lit.int .i64 a13).wf = true) (w14 : (Lit.int .i64 a14).wf = true) (w15 : (Lit.int .i64 a15).wf = true) (w16 : (Lit.int .i64 a16).wf = true) (w17 : IsRow .i64 w a17 len17 cap17 z17) (w18 : (Lit.int .i64 a18).wf = true) (w19 : IsRow .u8 w a19 len19 cap19 z19) (w21 : (Lit.int .i64 a21).wf = true) (w22 : (Lit.int .i64 a22).wf = true) (hL : laidMetH Tryz.prog laidL w) :
    Calls Tryz.prog 6 #[.agg #[.int .i64 a0, .int .i64 a1, .int .i64 a2, .string a3, .slice a4 len4 cap4, .slice a5 len5 cap5, .slice a6 len6 cap6, .slice a7 len7 cap7, .bool a8, .int .i64 a9], .agg #[.string a10, .slice a11 len11 cap11, .int .i64 a12, .int .i64 a13, .int .i64 a14, .int .i64 a15, .int .i64 a16, .slice a17 len17 cap17, .int .i64 a18, .slice a19 len19 cap19, .bool a20, .int .i64 a21], .int .i64 a22] w fun e w' => e = .returned (.bool true) ∧ Below w.heap.size w w' := by
  rw [Go.Lv.wf_ofZ (T := Int) w0]
  rw [Go.Lv.wf_ofZ (T := Int) w1]
  rw [Go.Lv.wf_ofZ (T := Int) w2]
  obtain ⟨l3, hl3⟩ := Go.Rx.string_sv a3
  rw [hl3]
  obtain ⟨l4, hl4⟩ := Go.Lv.row_rd (T := UInt8) w4
  obtain ⟨l5, hl5⟩ := Go.Lv.row_rd (T := Int32) w5
  obtain ⟨l7, hl7⟩ := Go.Lv.row_rd (T := UInt8) w7
  rw [Go.Lv.wf_ofZ (T := Int) w9]
  obtain ⟨l10, hl10⟩ := Go.Rx.string_sv a10
  rw [hl10]
  obtain ⟨l11, hl11⟩ := Go.Lv.row_rd (T := UInt8) w11
  rw [Go.Lv.wf_ofZ (T := Int) w12]
  rw [Go.Lv.wf_ofZ (T := Int) w13]
  rw [Go.Lv.wf_ofZ (T := Int) w14]
  rw [Go.Lv.wf_ofZ (T := Int) w15]
  rw [Go.Lv.wf_ofZ (T := Int) w16]
  obtain ⟨l17, hl17⟩ := Go.Lv.row_rd (T := Int) w17
  rw [Go.Lv.wf_ofZ (T := Int) w18]
  obtain ⟨l19, hl19⟩ := Go.Lv.row_rd (T := UInt8) w19
  rw [Go.Lv.wf_ofZ (T := Int) w21]
  rw [Go.Lv.wf_ofZ (T := Int) w22]
  exact Go.Rx.row_true F6.ok (x := ((GI.ofZ a0 : Int), (GI.ofZ a1 : Int), (GI.ofZ a2 : Int), l3, l4, l5, z6, l7, a8, (GI.ofZ a9 : Int), l10, l11, (GI.ofZ a12 : Int), (GI.ofZ a13 : Int), (GI.ofZ a14 : Int), (GI.ofZ a15 : Int), (GI.ofZ a16 : Int), l17, (GI.ofZ a18 : Int), l19, a20, (GI.ofZ a21 : Int), (GI.ofZ a22 : Int))) (pvs := [.agg [.agg [.val (.int .i64) (GI.ofZ a0 : Int), .val (.int .i64) (GI.ofZ a1 : Int)], .val (.int .i64) (GI.ofZ a2 : Int), .val .str l3, .val (.list (.int .u8)) l4, .val (.list (.int .i32)) l5, .val (.list (.list (.int .u8))) z6, .val (.list (.int .u8)) l7, .val .bool a8, .val (.int .i64) (GI.ofZ a9 : Int)], .agg [.val .str l10, .val (.list (.int .u8)) l11, .agg [.val (.int .i64) (GI.ofZ a12 : Int), .val (.int .i64) (GI.ofZ a13 : Int), .val (.int .i64) (GI.ofZ a14 : Int), .val (.int .i64) (GI.ofZ a15 : Int), .val (.int .i64) (GI.ofZ a16 : Int)], .val (.list (.int .i64)) l17, .val (.int .i64) (GI.ofZ a18 : Int), .val (.list (.int .u8)) l19, .val .bool a20, .val (.int .i64) (GI.ofZ a21 : Int)], .val (.int .i64) (GI.ofZ a22 : Int)]) rfl rfl (Go.Rx.encs_cons (Go.Rx.enc_agg (Go.Rx.agg_agg (Go.Rx.agg_leaf rfl (Go.Rx.enc_iv (k := .i64) _) (Go.Rx.agg_leaf rfl (Go.Rx.enc_iv (k := .i64) _) Go.Rx.agg_nil)) (Go.Rx.agg_leaf rfl (Go.Rx.enc_iv (k := .i64) _) (Go.Rx.agg_leaf rfl (Go.Rx.enc_str _) (Go.Rx.agg_leaf rfl (Go.Rx.enc_row (k := .u8) hl4) (Go.Rx.agg_leaf rfl (Go.Rx.enc_row (k := .i32) hl5) (Go.Rx.agg_leaf rfl (Go.Rx.enc_rows (k := .u8) w6) (Go.Rx.agg_leaf rfl (Go.Rx.enc_row (k := .u8) hl7) (Go.Rx.agg_leaf rfl (Go.Rx.enc_bool _) (Go.Rx.agg_leaf rfl (Go.Rx.enc_iv (k := .i64) _) Go.Rx.agg_nil)))))))))) (Go.Rx.encs_cons (Go.Rx.enc_agg (Go.Rx.agg_leaf rfl (Go.Rx.enc_str _) (Go.Rx.agg_leaf rfl (Go.Rx.enc_row (k := .u8) hl11) (Go.Rx.agg_agg (Go.Rx.agg_leaf rfl (Go.Rx.enc_iv (k := .i64) _) (Go.Rx.agg_leaf rfl (Go.Rx.enc_iv (k := .i64) _) (Go.Rx.agg_leaf rfl (Go.Rx.enc_iv (k := .i64) _) (Go.Rx.agg_leaf rfl (Go.Rx.enc_iv (k := .i64) _) (Go.Rx.agg_leaf rfl (Go.Rx.enc_iv (k := .i64) _) Go.Rx.agg_nil))))) (Go.Rx.agg_leaf rfl (Go.Rx.enc_row (k := .i64) hl17) (Go.Rx.agg_leaf rfl (Go.Rx.enc_iv (k := .i64) _) (Go.Rx.agg_leaf rfl (Go.Rx.enc_row (k := .u8) hl19) (Go.Rx.agg_leaf rfl (Go.Rx.enc_bool _) (Go.Rx.agg_leaf rfl (Go.Rx.enc_iv (k := .i64) _) Go.Rx.agg_nil))))))))) (Go.Rx.encs_cons (Go.Rx.enc_iv (k := .i64) _) Go.Rx.encs_nil))) (glOk hL) (Go.Pl.law_MemoryTells (GI.ofZ a0 : Int) (GI.ofZ a1 : Int) (GI.ofZ a2 : Int) l3 l4 l5 z6 l7 a8 (GI.ofZ a9 : Int) l10 l11 (GI.ofZ a12 : Int) (GI.ofZ a13 : Int) (GI.ofZ a14 : Int) (GI.ofZ a15 : Int) (GI.ofZ a16 : Int) l17 (GI.ofZ a18 : Int) l19 a20 (GI.ofZ a21 : Int) (GI.ofZ a22 : Int))

theorem arr10 {α : Type} (c : Array α) (h : c.size = 10) : ∃ e0 e1 e2 e3 e4 e5 e6 e7 e8 e9, c = #[e0, e1, e2, e3, e4, e5, e6, e7, e8, e9] := by
  obtain ⟨l⟩ := c
  match l, h with
  | [e0, e1, e2, e3, e4, e5, e6, e7, e8, e9], _ => exact ⟨e0, e1, e2, e3, e4, e5, e6, e7, e8, e9, rfl⟩
theorem arr12 {α : Type} (c : Array α) (h : c.size = 12) : ∃ e0 e1 e2 e3 e4 e5 e6 e7 e8 e9 e10 e11, c = #[e0, e1, e2, e3, e4, e5, e6, e7, e8, e9, e10, e11] := by
  obtain ⟨l⟩ := c
  match l, h with
  | [e0, e1, e2, e3, e4, e5, e6, e7, e8, e9, e10, e11], _ => exact ⟨e0, e1, e2, e3, e4, e5, e6, e7, e8, e9, e10, e11, rfl⟩
set_option maxRecDepth 100000 in
/-- A struct that comes in, opened. -/
theorem open0 {H : Type} {enc : TypeId × Value → H} {W : World} {fuel : Nat} {x : DataW H × List MemPlace} {e0 e1 e2 e3 e4 e5 e6 e7 e8 e9 : Value} (h : DataW.trod enc Tryz.prog W 0 (fun _ => true) true fuel 67 [e0, e1, e2, e3, e4, e5, e6, e7, e8, e9] = some x) :
    (∃ a, e0 = .int .i64 a ∧ (Lit.int .i64 a).wf = true) ∧ (∃ a, e1 = .int .i64 a ∧ (Lit.int .i64 a).wf = true) ∧ (∃ a, e2 = .int .i64 a ∧ (Lit.int .i64 a).wf = true) ∧ (∃ a : ByteArray, e3 = .string a ∧ a.size ≤ maxLen) ∧ (∃ a len cap zs, e4 = .slice a len cap ∧ IsRow .u8 W a len cap zs) ∧ (∃ a len cap zs, e5 = .slice a len cap ∧ IsRow .i32 W a len cap zs) ∧ (∃ a len cap zs, e6 = .slice a len cap ∧ Go.Rx.IsRows .u8 W a len cap zs) ∧ (∃ a len cap zs, e7 = .slice a len cap ∧ IsRow .u8 W a len cap zs) ∧ (∃ a : Bool, e8 = .bool a) ∧ (∃ a, e9 = .int .i64 a ∧ (Lit.int .i64 a).wf = true) := by
  obtain ⟨nh_0, yh_0, h_0⟩ := Go.Rx.fld Tryz.underlying67 h 0 rfl (k := 2) (part := [e0, e1]) (by kernel_rfl) rfl
  exact ⟨Go.Rx.fld_int Tryz.underlying64 h_0 0 rfl (by kernel_rfl) Tryz.underlying3 rfl, Go.Rx.fld_int Tryz.underlying64 h_0 1 rfl (by kernel_rfl) Tryz.underlying3 rfl, Go.Rx.fld_int Tryz.underlying67 h 1 rfl (by kernel_rfl) Tryz.underlying3 rfl, Go.Rx.fld_str Tryz.underlying67 h 2 rfl (by kernel_rfl) Tryz.underlying9 rfl, Go.Rx.fld_row Tryz.underlying67 h 3 rfl (by kernel_rfl) Tryz.underlying22 Tryz.underlying5 (by kernel_rfl) rfl, Go.Rx.fld_row Tryz.underlying67 h 4 rfl (by kernel_rfl) Tryz.underlying49 Tryz.underlying21 (by kernel_rfl) rfl, Go.Rx.fld_rows (k := .u8) Tryz.underlying67 h 5 rfl (by kernel_rfl) Tryz.underlying65 Tryz.underlying22 (by kernel_rfl) Tryz.underlying5 (by kernel_rfl) rfl, Go.Rx.fld_row Tryz.underlying67 h 6 rfl (by kernel_rfl) Tryz.underlying22 Tryz.underlying5 (by kernel_rfl) rfl, Go.Rx.fld_bool Tryz.underlying67 h 7 rfl (by kernel_rfl) Tryz.underlying4 rfl, Go.Rx.fld_int Tryz.underlying67 h 8 rfl (by kernel_rfl) Tryz.underlying26 rfl⟩
set_option maxRecDepth 100000 in
/-- A struct that comes in, opened. -/
theorem open1 {H : Type} {enc : TypeId × Value → H} {W : World} {fuel : Nat} {x : DataW H × List MemPlace} {e0 e1 e2 e3 e4 e5 e6 e7 e8 e9 e10 e11 : Value} (h : DataW.trod enc Tryz.prog W 0 (fun _ => true) true fuel 28 [e0, e1, e2, e3, e4, e5, e6, e7, e8, e9, e10, e11] = some x) :
    (∃ a : ByteArray, e0 = .string a ∧ a.size ≤ maxLen) ∧ (∃ a len cap zs, e1 = .slice a len cap ∧ IsRow .u8 W a len cap zs) ∧ (∃ a, e2 = .int .i64 a ∧ (Lit.int .i64 a).wf = true) ∧ (∃ a, e3 = .int .i64 a ∧ (Lit.int .i64 a).wf = true) ∧ (∃ a, e4 = .int .i64 a ∧ (Lit.int .i64 a).wf = true) ∧ (∃ a, e5 = .int .i64 a ∧ (Lit.int .i64 a).wf = true) ∧ (∃ a, e6 = .int .i64 a ∧ (Lit.int .i64 a).wf = true) ∧ (∃ a len cap zs, e7 = .slice a len cap ∧ IsRow .i64 W a len cap zs) ∧ (∃ a, e8 = .int .i64 a ∧ (Lit.int .i64 a).wf = true) ∧ (∃ a len cap zs, e9 = .slice a len cap ∧ IsRow .u8 W a len cap zs) ∧ (∃ a : Bool, e10 = .bool a) ∧ (∃ a, e11 = .int .i64 a ∧ (Lit.int .i64 a).wf = true) := by
  obtain ⟨nh_2, yh_2, h_2⟩ := Go.Rx.fld Tryz.underlying28 h 2 rfl (k := 5) (part := [e2, e3, e4, e5, e6]) (by kernel_rfl) rfl
  exact ⟨Go.Rx.fld_str Tryz.underlying28 h 0 rfl (by kernel_rfl) Tryz.underlying9 rfl, Go.Rx.fld_row Tryz.underlying28 h 1 rfl (by kernel_rfl) Tryz.underlying22 Tryz.underlying5 (by kernel_rfl) rfl, Go.Rx.fld_int Tryz.underlying24 h_2 0 rfl (by kernel_rfl) Tryz.underlying3 rfl, Go.Rx.fld_int Tryz.underlying24 h_2 1 rfl (by kernel_rfl) Tryz.underlying3 rfl, Go.Rx.fld_int Tryz.underlying24 h_2 2 rfl (by kernel_rfl) Tryz.underlying3 rfl, Go.Rx.fld_int Tryz.underlying24 h_2 3 rfl (by kernel_rfl) Tryz.underlying3 rfl, Go.Rx.fld_int Tryz.underlying24 h_2 4 rfl (by kernel_rfl) Tryz.underlying3 rfl, Go.Rx.fld_row Tryz.underlying28 h 3 rfl (by kernel_rfl) Tryz.underlying25 Tryz.underlying3 (by kernel_rfl) rfl, Go.Rx.fld_int Tryz.underlying28 h 4 rfl (by kernel_rfl) Tryz.underlying3 rfl, Go.Rx.fld_row Tryz.underlying28 h 5 rfl (by kernel_rfl) Tryz.underlying22 Tryz.underlying5 (by kernel_rfl) rfl, Go.Rx.fld_bool Tryz.underlying28 h 6 rfl (by kernel_rfl) Tryz.underlying4 rfl, Go.Rx.fld_int Tryz.underlying28 h 7 rfl (by kernel_rfl) Tryz.underlying26 rfl⟩
/-! ### THE ROW's STEP: WRITTEN OUT: LEAVE IT -/
set_option maxRecDepth 100000 in
theorem lifted (os : Os) (started : os.Started) (H : Type) (enc : TypeId × Value → H) :
    ReturnsInHanded {} Tryz.checked os 6 .any (fun w args => (Rows.memoryTellsSpec.pre enc Tryz.prog Tryz.f6 [] false w args ∧ laidMetH Tryz.prog laidL w) ∧ sizedMet enc Tryz.prog Tryz.f6 (OpenSpec.ofChange Rows.memoryTellsSpec) false w args) (Rows.memoryTellsSpec.post enc Tryz.prog Tryz.f6 false true false false) := by
  refine returnsInHanded_of_change_and (C := Tryz.checked) (X := fun w _ => laidMetH Tryz.prog laidL w) (fun _ _ _ hh h => h.of_heap hh) own started (by kernel_rfl) Tryz.func6
    (ChangeSpec.witness_shaped (enc := enc) (C := Tryz.checked) (os := os) (X := fun w _ => laidMetH Tryz.prog laidL w) false (World.doorLaid Tryz.prog 58 os) #[.agg #[.int .i64 0, .int .i64 0, .int .i64 0, .string ByteArray.empty, .slice none 0 0, .slice none 0 0, .slice none 0 0, .slice none 0 0, .bool false, .int .i64 0], .agg #[.string ByteArray.empty, .slice none 0 0, .int .i64 0, .int .i64 0, .int .i64 0, .int .i64 0, .int .i64 0, .slice none 0 0, .int .i64 0, .slice none 0 0, .bool false, .int .i64 0], .int .i64 0] 8 rfl (World.shaped_of_RefB (by kernel_rfl) (by kernel_rfl)) (by kernel_rfl) (by kernel_rfl) (by kernel_rfl) (door_met os _)) ?_
  intro W base args ds gs before hval0 hW _ _ hL _
  have hval : ∀ (j : Nat) t v, Tryz.f6.params[j]? = some t → args[j]? = some v → Value.okWide Tryz.prog W .any base t v := hval0
  have hW' := hW
  obtain ⟨p, q, hA0, hV, rfl, hfz, hnd⟩ := hW
  have hA : DataW.TrodAll enc Tryz.prog W 0 (fun _ => true) true Tryz.f6.params.toList args.toList ds p := hA0
  rw [Tryz.params6] at hA hval
  obtain ⟨v0, vs0, d0, ds0, p0, q0, hargs, rfl, rfl, h0, r0⟩ := trodAll_cons hA
  obtain ⟨v1, vs1, d1, ds1, p1, q1, rfl, rfl, rfl, h1, r1⟩ := trodAll_cons r0
  obtain ⟨v2, vs2, d2, ds2, p2, q2, rfl, rfl, rfl, h2, r2⟩ := trodAll_cons r1
  obtain ⟨rfl, rfl, rfl⟩ := trodAll_nil r2
  obtain rfl : args = #[v0, v1, v2] := by cases args; simp_all
  obtain ⟨rfl, rfl⟩ := trodVars_none hV
  obtain ⟨c0, rfl, hc0⟩ := okWide_struct Tryz.underlying67 (hval 0 67 v0 rfl rfl)
  have k0 := h0
  have lt0 : ∀ x ∈ p0, x.block < W.heap.size := by obtain ⟨m, hm⟩ := k0; exact DataW.trod_lt m _ _ _ hm
  obtain ⟨fuel0, hf0⟩ := h0
  obtain ⟨e0_0, e0_1, e0_2, e0_3, e0_4, e0_5, e0_6, e0_7, e0_8, e0_9, rfl⟩ := arr10 c0 (hc0.trans (by kernel_rfl))
  obtain ⟨⟨a0, rfl, w0⟩, ⟨a1, rfl, w1⟩, ⟨a2, rfl, w2⟩, ⟨a3, rfl, w3⟩, ⟨a4, len4, cap4, z4, rfl, w4⟩, ⟨a5, len5, cap5, z5, rfl, w5⟩, ⟨a6, len6, cap6, z6, rfl, w6⟩, ⟨a7, len7, cap7, z7, rfl, w7⟩, ⟨a8, rfl⟩, ⟨a9, rfl, w9⟩⟩ := open0 hf0
  obtain ⟨c1, rfl, hc1⟩ := okWide_struct Tryz.underlying28 (hval 1 28 v1 rfl rfl)
  have k1 := h1
  have lt1 : ∀ x ∈ p1, x.block < W.heap.size := by obtain ⟨m, hm⟩ := k1; exact DataW.trod_lt m _ _ _ hm
  obtain ⟨fuel1, hf1⟩ := h1
  obtain ⟨e1_0, e1_1, e1_2, e1_3, e1_4, e1_5, e1_6, e1_7, e1_8, e1_9, e1_10, e1_11, rfl⟩ := arr12 c1 (hc1.trans (by kernel_rfl))
  obtain ⟨⟨a10, rfl, w10⟩, ⟨a11, len11, cap11, z11, rfl, w11⟩, ⟨a12, rfl, w12⟩, ⟨a13, rfl, w13⟩, ⟨a14, rfl, w14⟩, ⟨a15, rfl, w15⟩, ⟨a16, rfl, w16⟩, ⟨a17, len17, cap17, z17, rfl, w17⟩, ⟨a18, rfl, w18⟩, ⟨a19, len19, cap19, z19, rfl, w19⟩, ⟨a20, rfl⟩, ⟨a21, rfl, w21⟩⟩ := open1 hf1
  obtain ⟨a22, rfl, rfl, rfl, w22⟩ := open_int Tryz.underlying3 (hval 2 3 v2 rfl rfl) h2
  clear hA0 hval0
  refine (walk a0 a1 a2 a3 a4 len4 cap4 z4 a5 len5 cap5 z5 a6 len6 cap6 z6 a7 len7 cap7 z7 a8 a9 a10 a11 len11 cap11 z11 a12 a13 a14 a15 a16 a17 len17 cap17 z17 a18 a19 len19 cap19 z19 a20 a21 a22 W w0 w1 w2 w3 w4 w5 w6 w7 w9 w10 w11 w12 w13 w14 w15 w16 w17 w18 w19 w21 w22 hL).mono fun e W' ⟨he, bel⟩ => ?_
  subst he
  exact ⟨_, rfl, _, _, _, [], _, [], hW', trodAll_mk1 (shut_bool Tryz.underlying4 _), (trodAll_cons_mk (Below.trod laidOut (by kernel_rfl) (of_decide_eq_true (by kernel_rfl)) k0 bel lt0) (trodAll_cons_mk (Below.trod laidOut (by kernel_rfl) (of_decide_eq_true (by kernel_rfl)) k1 bel lt1) (trodAll_cons_mk (shut_int Tryz.underlying3 w22) trodAll_mk0))), rfl, bel.frame _, fun h => by cases h⟩

theorem both_true {a b : Bool} (h : a = true) (k : b = true) : (a && b) = true := by rw [h, k]; rfl
set_option maxHeartbeats 20000000 in
theorem over : Rows.memoryTellsRow.holds Tryz.pinned (OpenSpec.ofChange Rows.memoryTellsSpec) :=
  OpenClaim.holds_of_wide 6 Tryz.f6 rfl rfl rfl rfl rfl rfl rfl ⟨rfl, rfl, rfl, rfl, rfl⟩ rfl rfl rfl rfl rfl (by kernel_rfl) Tryz.func6 (by
      unfold joinedFacts
      repeat' with_reducible apply both_true
      all_goals as_aux_lemma => kernel_rfl)
    (of_decide_eq_true (by kernel_rfl)) (by unfold Func.isWrapper; first | (rw [if_pos (by decide +kernel)]; kernel_rfl) | (rw [if_neg (by decide +kernel)]; exact ⟨rfl, rfl⟩))
    (fun os started H enc _ => lifted os started H enc)

/-- ████ THE STATEMENT: the tied card ████ -/
theorem proved : Rows.MemoryTellsCardSaid :=
  Claim7.holds_tied_plain_at .later [] [.data, .data, .data, .data] true (true, "852e0b1a53d63c2206b835c307a35786591231a42a7f9a387dbd463a6e0db748") false
    over (fun _ h => by cases h) (by kernel_rfl) (fun _ h => by cases h) memoryTells_row_tie rfl ⟨rfl, rfl⟩ (by kernel_rfl) rfl
    (fun f fn hf hfn => by
      obtain rfl : f = 6 := Option.some.inj ((show Tryz.prog.funcNamed "cadenza/cadenzalaw43.MemoryTells" = some 6 by kernel_rfl).symm.trans hf) |>.symm
      obtain rfl : fn = Tryz.f6 := (Option.some.inj (Tryz.func6.symm.trans hfn)).symm
      exact ⟨by kernel_rfl, fun j t ht => by
        rw [Tryz.params6] at ht
        have hm : t ∈ [67, 28, 3] := by simpa using Array.mem_of_getElem? ht
        have hall : ([67, 28, 3].all fun u => !Tryz.prog.wantsStandIn u) = true := by kernel_rfl
        exact (show Tryz.prog.wantsStandIn t = false by simpa using List.all_eq_true.1 hall t hm)⟩)
    (by kernel_rfl)
#print axioms proved
end Go.Proofs.YtnoflhhhiiaclaaGreatDoor.memoryTells
