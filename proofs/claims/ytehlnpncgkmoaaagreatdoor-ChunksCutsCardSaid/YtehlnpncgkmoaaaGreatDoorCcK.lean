/- A part of a proof (see the text that ends in Proof). No conditions. -/
import Derived.Test.YtehlnpncgkmoaaaGreatDoorRows
import Derived.Test.YtehlnpncgkmoaaaGreatDoorCcJ
import Derived.Test.YtehlnpncgkmoaaaGreatDoorCards
import Derived.Test.YtehlnpncgkmoaaaGreatDoorTie
import Derived.Test.YtehlnpncgkmoaaaGreatDoorCcO
import Derived.Test.YtehlnpncgkmoaaaGreatDoorCcWA
import Derived.LaidMore
import Derived.Stop.Joined
import Derived.SevenTiedAt
import Derived.WalkKit
import Derived.ProofKit
import Derived.OpenShut
import Derived.ShutString
import Derived.ChangeOld
import Derived.Below
namespace Go.Proofs.YtehlnpncgkmoaaaGreatDoor.chunksCuts
open Go Go.ChangeShapes Go.WideShapes Go.ChangeAt Go.RowKit Go.Lv
open Go.ChangeMaps (open_string shut_string)
set_option linter.unusedVariables false

theorem own : ownKnob Tryz.prog.godebug = none := by kernel_rfl
theorem laidOut : laidOutB Tryz.prog = true := by kernel_rfl

/-- WHAT THE WALK IS TOLD OF A SLICE OF INTEGERS THAT CAME IN: it is nil; or it leads to a row of 'cap' cells, the numbers 'zs' (the first 'len' are its elements, the rest its spare room), each fitting its kind. -/
def IsRow (k : IntKind) (w : World) (a : Option Addr) (len cap : Nat) (zs : List Int) : Prop :=
  (a = none ∧ len = 0 ∧ cap = 0 ∧ zs = []) ∨
  ∃ x, a = some x ∧ len ≤ cap ∧ cap ≤ maxLen ∧ zs.length = cap ∧ (∀ i, i < zs.length → w.cell? (x.add i) = some (.int k (zs.getD i 0))) ∧ ∀ n ∈ zs, (Lit.int k n).wf = true

def laidL : List (String × DataW Unit) := [("cadenza/header.widths", Rows.laid_cadenza_header_widths)]
set_option maxRecDepth 100000 in
/-- What the card ties, where the walk asks for it. -/
theorem glOk {w : World} (h : laidMetH Tryz.prog laidL w) : Go.Rx.GlOk gl (fun _ => True) w := by
  rw [MakeChecks.laidMetH_plain _ _ _ (by kernel_rfl)] at h
  obtain ⟨ps, ⟨g0, t0, cs0, f0, p0, q0, hg0, ht0, hv0, hd0, _, _⟩, _, _⟩ := h
  have hgn0 : Tryz.prog.globalNamed "cadenza/header.widths" = some 0 := by kernel_rfl
  have htt0 : (Tryz.prog.globals[0]?).map (·.type) = some 210 := by kernel_rfl
  obtain rfl := Option.some.inj (hgn0.symm.trans hg0)
  obtain rfl := Option.some.inj (htt0.symm.trans ht0)
  exact (Go.Rx.glOk_cons hgn0 hv0 ((Go.Rx.laid_ints (n := 5) (e := 3) (k := .i64) (zs := [2, 2, 2, 4, 4]) (by kernel_rfl) (by kernel_rfl) (by kernel_rfl) (by kernel_rfl) hd0).trans rfl) Go.Rx.glOk_nil)
/-- The door's own heap meets the condition. -/
theorem door_met (os : Os) (args : Array Value) : laidMetH Tryz.prog laidL ((World.doorLaid Tryz.prog 39 os).forCall (fun _ _ => 0) ⟨#[], args, []⟩).memory :=
  laidMetH_of_parts3 (fuel := 8) (laidMet_of_run' 8 (by kernel_rfl) (by kernel_rfl)) (by kernel_rfl) (by kernel_rfl)

/-! ### STEP 1: THE WALK: the Go text returns true, AND WRITES NOTHING THAT WAS THERE: 'Below w.heap.size w w'' (Derived/Below.lean: '.refl', '.alloc', '.drew', '.setCell' at a new block, '.trans'). Open each 'IsRow' by 'rcases' AHEAD of 'go_enter'; part every test ahead of the walk. -/
theorem walk (a0 : Int) (a1 : Int) (a2 : Int) (a3 : Int) (a4 : Int) (a5 : ByteArray) (a6 : Option Addr) (len6 cap6 : Nat) (z6 : List Int) (w : World) (w0 : (Lit.int .i64 a0).wf = true) (w1 : (Lit.int .u64 a1).wf = true) (w2 : (Lit.int .i64 a2).wf = true) (w3 : (Lit.int .i64 a3).wf = true) (w4 : (Lit.int .i64 a4).wf = true) (w5 : a5.size ≤ maxLen) (w6 : IsRow .u8 w a6 len6 cap6 z6) (hL : laidMetH Tryz.prog laidL w) :
    Calls Tryz.prog 5 #[.int .i64 a0, .int .u64 a1, .agg #[.int .i64 a2, .int .i64 a3], .int .i64 a4, .string a5, .slice a6 len6 cap6] w fun e w' => e = .returned (.bool true) ∧ Below w.heap.size w w' := by
  rw [Go.Lv.wf_ofZ (T := Int) w0]
  rw [Go.Lv.wf_ofZ (T := UInt64) w1]
  rw [Go.Lv.wf_ofZ (T := Int) w2]
  rw [Go.Lv.wf_ofZ (T := Int) w3]
  rw [Go.Lv.wf_ofZ (T := Int) w4]
  obtain ⟨l5, hl5⟩ := Go.Rx.string_sv a5
  rw [hl5]
  obtain ⟨l6, hl6⟩ := Go.Lv.row_rd (T := UInt8) w6
  exact Go.Rx.row_true F5.k.2 (x := ((GI.ofZ a0 : Int), (GI.ofZ a1 : UInt64), (GI.ofZ a2 : Int), (GI.ofZ a3 : Int), (GI.ofZ a4 : Int), l5, l6)) (pvs := [.val (.int .i64) (GI.ofZ a0 : Int), .val (.int .u64) (GI.ofZ a1 : UInt64), .agg [.val (.int .i64) (GI.ofZ a2 : Int), .val (.int .i64) (GI.ofZ a3 : Int)], .val (.int .i64) (GI.ofZ a4 : Int), .val .str l5, .val (.list (.int .u8)) l6]) rfl rfl (Go.Rx.encs_cons (Go.Rx.enc_iv (k := .i64) _) (Go.Rx.encs_cons (Go.Rx.enc_iv (k := .u64) _) (Go.Rx.encs_cons (Go.Rx.enc_agg (Go.Rx.agg_leaf rfl (Go.Rx.enc_iv (k := .i64) _) (Go.Rx.agg_leaf rfl (Go.Rx.enc_iv (k := .i64) _) Go.Rx.agg_nil))) (Go.Rx.encs_cons (Go.Rx.enc_iv (k := .i64) _) (Go.Rx.encs_cons (Go.Rx.enc_str _) (Go.Rx.encs_cons (Go.Rx.enc_row (k := .u8) hl6) Go.Rx.encs_nil)))))) (glOk hL) (Go.Pl.law_ChunksCuts (GI.ofZ a0 : Int) (GI.ofZ a1 : UInt64) (GI.ofZ a2 : Int) (GI.ofZ a3 : Int) (GI.ofZ a4 : Int) l5 l6)

theorem arr2 {α : Type} (c : Array α) (h : c.size = 2) : ∃ e0 e1, c = #[e0, e1] := by
  obtain ⟨l⟩ := c
  match l, h with
  | [e0, e1], _ => exact ⟨e0, e1, rfl⟩
set_option maxRecDepth 100000 in
/-- A struct that comes in, opened. -/
theorem open2 {H : Type} {enc : TypeId × Value → H} {W : World} {fuel : Nat} {x : DataW H × List MemPlace} {e0 e1 : Value} (h : DataW.trod enc Tryz.prog W 0 (fun _ => true) true fuel 23 [e0, e1] = some x) :
    (∃ a, e0 = .int .i64 a ∧ (Lit.int .i64 a).wf = true) ∧ (∃ a, e1 = .int .i64 a ∧ (Lit.int .i64 a).wf = true) := by
  exact ⟨Go.Rx.fld_int Tryz.underlying23 h 0 rfl (by kernel_rfl) Tryz.underlying3 rfl, Go.Rx.fld_int Tryz.underlying23 h 1 rfl (by kernel_rfl) Tryz.underlying3 rfl⟩
/-! ### THE ROW's STEP: WRITTEN OUT: LEAVE IT -/
set_option maxRecDepth 100000 in
theorem lifted (os : Os) (started : os.Started) (H : Type) (enc : TypeId × Value → H) :
    ReturnsInHanded {} Tryz.checked os 5 .any (fun w args => (Rows.chunksCutsSpec.pre enc Tryz.prog Tryz.f5 [] false w args ∧ laidMetH Tryz.prog laidL w) ∧ sizedMet enc Tryz.prog Tryz.f5 (OpenSpec.ofChange Rows.chunksCutsSpec) false w args) (Rows.chunksCutsSpec.post enc Tryz.prog Tryz.f5 false true false false) := by
  refine returnsInHanded_of_change_and (C := Tryz.checked) (X := fun w _ => laidMetH Tryz.prog laidL w) (fun _ _ _ hh h => h.of_heap hh) own started (by kernel_rfl) Tryz.func5
    (ChangeSpec.witness_shaped (enc := enc) (C := Tryz.checked) (os := os) (X := fun w _ => laidMetH Tryz.prog laidL w) false (World.doorLaid Tryz.prog 39 os) #[.int .i64 0, .int .u64 0, .agg #[.int .i64 0, .int .i64 0], .int .i64 0, .string ByteArray.empty, .slice none 0 0] 8 rfl (World.shaped_of_RefB (by kernel_rfl) (by kernel_rfl)) (by kernel_rfl) (by kernel_rfl) (by kernel_rfl) (door_met os _)) ?_
  intro W base args ds gs before hval0 hW _ _ hL _
  have hval : ∀ (j : Nat) t v, Tryz.f5.params[j]? = some t → args[j]? = some v → Value.okWide Tryz.prog W .any base t v := hval0
  have hW' := hW
  obtain ⟨p, q, hA0, hV, rfl, hfz, hnd⟩ := hW
  have hA : DataW.TrodAll enc Tryz.prog W 0 (fun _ => true) true Tryz.f5.params.toList args.toList ds p := hA0
  rw [Tryz.params5] at hA hval
  obtain ⟨v0, vs0, d0, ds0, p0, q0, hargs, rfl, rfl, h0, r0⟩ := trodAll_cons hA
  obtain ⟨v1, vs1, d1, ds1, p1, q1, rfl, rfl, rfl, h1, r1⟩ := trodAll_cons r0
  obtain ⟨v2, vs2, d2, ds2, p2, q2, rfl, rfl, rfl, h2, r2⟩ := trodAll_cons r1
  obtain ⟨v3, vs3, d3, ds3, p3, q3, rfl, rfl, rfl, h3, r3⟩ := trodAll_cons r2
  obtain ⟨v4, vs4, d4, ds4, p4, q4, rfl, rfl, rfl, h4, r4⟩ := trodAll_cons r3
  obtain ⟨v5, vs5, d5, ds5, p5, q5, rfl, rfl, rfl, h5, r5⟩ := trodAll_cons r4
  obtain ⟨rfl, rfl, rfl⟩ := trodAll_nil r5
  obtain rfl : args = #[v0, v1, v2, v3, v4, v5] := by cases args; simp_all
  obtain ⟨rfl, rfl⟩ := trodVars_none hV
  obtain ⟨a0, rfl, rfl, rfl, w0⟩ := open_int Tryz.underlying3 (hval 0 3 v0 rfl rfl) h0
  obtain ⟨a1, rfl, rfl, rfl, w1⟩ := open_int Tryz.underlying55 (hval 1 55 v1 rfl rfl) h1
  obtain ⟨c2, rfl, hc2⟩ := okWide_struct Tryz.underlying23 (hval 2 23 v2 rfl rfl)
  have k2 := h2
  have lt2 : ∀ x ∈ p2, x.block < W.heap.size := by obtain ⟨m, hm⟩ := k2; exact DataW.trod_lt m _ _ _ hm
  obtain ⟨fuel2, hf2⟩ := h2
  obtain ⟨e2_0, e2_1, rfl⟩ := arr2 c2 (hc2.trans (by kernel_rfl))
  obtain ⟨⟨a2, rfl, w2⟩, ⟨a3, rfl, w3⟩⟩ := open2 hf2
  obtain ⟨a4, rfl, rfl, rfl, w4⟩ := open_int Tryz.underlying3 (hval 3 3 v3 rfl rfl) h3
  obtain ⟨a5, rfl, rfl, rfl, w5⟩ := open_string Tryz.underlying9 (hval 4 9 v4 rfl rfl) h4
  have k5 := h5
  have lt5 : ∀ x ∈ p5, x.block < W.heap.size := by obtain ⟨m, hm⟩ := k5; exact DataW.trod_lt m _ _ _ hm
  obtain ⟨a6, len6, cap6, rfl⟩ := okWide_slice Tryz.underlying24 (hval 5 24 v5 rfl rfl)
  obtain ⟨z6, w6⟩ : ∃ zs, IsRow .u8 W a6 len6 cap6 zs := by
    obtain ⟨fuel, hf⟩ := h5
    rcases open_ints Tryz.underlying24 Tryz.underlying5 (by kernel_rfl) hf with ⟨hcs, _⟩ | ⟨x, l, c, zs, hcs, _, hl, hm, hz, _, hcell, hwz⟩
    · simp [Value.cells] at hcs
      obtain ⟨rfl, rfl, rfl⟩ := hcs
      exact ⟨[], .inl ⟨rfl, rfl, rfl, rfl⟩⟩
    · simp [Value.cells] at hcs
      obtain ⟨rfl, rfl, rfl⟩ := hcs
      exact ⟨zs, .inr ⟨_, rfl, hl, hm, by simpa using hz, hcell, hwz⟩⟩
  clear hA0 hval0
  refine (walk a0 a1 a2 a3 a4 a5 a6 len6 cap6 z6 W w0 w1 w2 w3 w4 w5 w6 hL).mono fun e W' ⟨he, bel⟩ => ?_
  subst he
  exact ⟨_, rfl, _, _, _, [], _, [], hW', trodAll_mk1 (shut_bool Tryz.underlying4 _), (trodAll_cons_mk (shut_int Tryz.underlying3 w0) (trodAll_cons_mk (shut_int Tryz.underlying55 w1) (trodAll_cons_mk (Below.trod laidOut (by kernel_rfl) (of_decide_eq_true (by kernel_rfl)) k2 bel lt2) (trodAll_cons_mk (shut_int Tryz.underlying3 w4) (trodAll_cons_mk (shut_string Tryz.underlying9 w5) (trodAll_cons_mk (Below.trod laidOut (by kernel_rfl) (of_decide_eq_true (by kernel_rfl)) k5 bel lt5) trodAll_mk0)))))), rfl, bel.frame _, fun h => by cases h⟩

set_option maxHeartbeats 20000000 in
theorem over : Rows.chunksCutsRow.holds Tryz.pinned (OpenSpec.ofChange Rows.chunksCutsSpec) :=
  OpenClaim.holds_of_wide 5 Tryz.f5 rfl rfl rfl rfl rfl rfl rfl ⟨rfl, rfl, rfl, rfl, rfl⟩ rfl rfl rfl rfl rfl (by kernel_rfl) Tryz.func5 jf_closed
    (of_decide_eq_true (by kernel_rfl)) (by unfold Func.isWrapper; first | (rw [if_pos (by decide +kernel)]; kernel_rfl) | (rw [if_neg (by decide +kernel)]; exact ⟨rfl, rfl⟩))
    (fun os started H enc _ => lifted os started H enc)
end Go.Proofs.YtehlnpncgkmoaaaGreatDoor.chunksCuts
