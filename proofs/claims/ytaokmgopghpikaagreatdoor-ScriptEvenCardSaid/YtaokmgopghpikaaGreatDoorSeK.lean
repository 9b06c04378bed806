/- A part of a proof (see the text that ends in Proof). No conditions. -/
import Derived.Test.YtaokmgopghpikaaGreatDoorRows
import Derived.Test.YtaokmgopghpikaaGreatDoorSeJ
import Derived.Test.YtaokmgopghpikaaGreatDoorCards
import Derived.Test.YtaokmgopghpikaaGreatDoorTie
import Derived.Test.YtaokmgopghpikaaGreatDoorSeO
import Derived.Test.YtaokmgopghpikaaGreatDoorSeWB
import Derived.LaidMore
import Derived.Stop.Joined
import Derived.SevenTiedAt
import Derived.WalkKit
import Derived.ProofKit
import Derived.OpenShut
import Derived.ShutString
import Derived.ChangeOld
import Derived.Below
namespace Go.Proofs.YtaokmgopghpikaaGreatDoor.scriptEven
open Go Go.ChangeShapes Go.WideShapes Go.ChangeAt Go.RowKit Go.Lv
open Go.ChangeMaps (open_string shut_string)
set_option linter.unusedVariables false

theorem own : ownKnob Tryz.prog.godebug = none := by kernel_rfl
theorem laidOut : laidOutB Tryz.prog = true := by kernel_rfl

/-- WHAT THE WALK IS TOLD OF A SLICE OF INTEGERS THAT CAME IN: it is nil; or it leads to a row of 'cap' cells, the numbers 'zs' (the first 'len' are its elements, the rest its spare room), each fitting its kind. -/
def IsRow (k : IntKind) (w : World) (a : Option Addr) (len cap : Nat) (zs : List Int) : Prop :=
  (a = none ∧ len = 0 ∧ cap = 0 ∧ zs = []) ∨
  ∃ x, a = some x ∧ len ≤ cap ∧ cap ≤ maxLen ∧ zs.length = cap ∧ (∀ i, i < zs.length → w.cell? (x.add i) = some (.int k (zs.getD i 0))) ∧ ∀ n ∈ zs, (Lit.int k n).wf = true

def laidL : List (String × DataW Unit) := [("math/bits.deBruijn64tab", Rows.laid_math_bits_deBruijn64tab), ("cadenza/header.widths", Rows.laid_cadenza_header_widths), ("cadenza/pushdec.taken", Rows.laid_cadenza_pushdec_taken), ("cadenza/pushdec.waits", Rows.laid_cadenza_pushdec_waits)]
set_option maxRecDepth 100000 in
/-- What the card ties, where the walk asks for it. -/
theorem glOk {w : World} (h : laidMetH Tryz.prog laidL w) : Go.Rx.GlOk gl (fun _ => True) w := by
  rw [MakeChecks.laidMetH_plain _ _ _ (by kernel_rfl)] at h
  obtain ⟨ps, ⟨g0, t0, cs0, f0, p0, q0, hg0, ht0, hv0, hd0, ⟨g1, t1, cs1, f1, p1, q1, hg1, ht1, hv1, hd1, ⟨g2, t2, cs2, f2, p2, q2, hg2, ht2, hv2, hd2, ⟨g3, t3, cs3, f3, p3, q3, hg3, ht3, hv3, hd3, _, _⟩, _⟩, _⟩, _⟩, _, _⟩ := h
  have hgn0 : Tryz.prog.globalNamed "math/bits.deBruijn64tab" = some 7 := by kernel_rfl
  have htt0 : (Tryz.prog.globals[7]?).map (·.type) = some 361 := by kernel_rfl
  obtain rfl := Option.some.inj (hgn0.symm.trans hg0)
  obtain rfl := Option.some.inj (htt0.symm.trans ht0)
  have hgn1 : Tryz.prog.globalNamed "cadenza/header.widths" = some 1 := by kernel_rfl
  have htt1 : (Tryz.prog.globals[1]?).map (·.type) = some 161 := by kernel_rfl
  obtain rfl := Option.some.inj (hgn1.symm.trans hg1)
  obtain rfl := Option.some.inj (htt1.symm.trans ht1)
  have hgn2 : Tryz.prog.globalNamed "cadenza/pushdec.taken" = some 2 := by kernel_rfl
  have htt2 : (Tryz.prog.globals[2]?).map (·.type) = some 96 := by kernel_rfl
  obtain rfl := Option.some.inj (hgn2.symm.trans hg2)
  obtain rfl := Option.some.inj (htt2.symm.trans ht2)
  have hgn3 : Tryz.prog.globalNamed "cadenza/pushdec.waits" = some 0 := by kernel_rfl
  have htt3 : (Tryz.prog.globals[0]?).map (·.type) = some 96 := by kernel_rfl
  obtain rfl := Option.some.inj (hgn3.symm.trans hg3)
  obtain rfl := Option.some.inj (htt3.symm.trans ht3)
  exact (Go.Rx.glOk_cons hgn3 hv3 ((Go.Rx.laid_bool_int (b := true) (z := 0) Tryz.underlying96 (by kernel_rfl) (by kernel_rfl) rfl rfl (by kernel_rfl) (by kernel_rfl) (by kernel_rfl) hd3).trans rfl) (Go.Rx.glOk_cons hgn1 hv1 ((Go.Rx.laid_ints (n := 5) (e := 3) (k := .i64) (zs := [2, 2, 2, 4, 4]) (by kernel_rfl) (by kernel_rfl) (by kernel_rfl) (by kernel_rfl) hd1).trans rfl) (Go.Rx.glOk_cons hgn2 hv2 ((Go.Rx.laid_bool_int (b := false) (z := 0) Tryz.underlying96 (by kernel_rfl) (by kernel_rfl) rfl rfl (by kernel_rfl) (by kernel_rfl) (by kernel_rfl) hd2).trans rfl) (Go.Rx.glOk_cons hgn0 hv0 ((Go.Rx.laid_ints (n := 64) (e := 5) (k := .u8) (zs := [0, 1, 56, 2, 57, 49, 28, 3, 61, 58, 42, 50, 38, 29, 17, 4, 62, 47, 59, 36, 45, 43, 51, 22, 53, 39, 33, 30, 24, 18, 12, 5, 63, 55, 48, 27, 60, 41, 37, 16, 46, 35, 44, 21, 52, 32, 23, 11, 54, 26, 40, 15, 34, 20, 31, 10, 25, 14, 19, 9, 13, 8, 7, 6]) (by kernel_rfl) (by kernel_rfl) (by kernel_rfl) (by kernel_rfl) hd0).trans rfl) Go.Rx.glOk_nil))))
/-- The door's own heap meets the condition. -/
theorem door_met (os : Os) (args : Array Value) : laidMetH Tryz.prog laidL ((World.doorLaid Tryz.prog 58 os).forCall (fun _ _ => 0) ⟨#[], args, []⟩).memory :=
  laidMetH_of_parts3 (fuel := 8) (laidMet_of_run' 8 (by kernel_rfl) (by kernel_rfl)) (by kernel_rfl) (by kernel_rfl)

/-! ### STEP 1: THE WALK: the Go text returns true, AND WRITES NOTHING THAT WAS THERE: 'Below w.heap.size w w'' (Derived/Below.lean: '.refl', '.alloc', '.drew', '.setCell' at a new block, '.trans'). Open each 'IsRow' by 'rcases' AHEAD of 'go_enter'; part every test ahead of the walk. -/
theorem walk (a0 : ByteArray) (a1 : Option Addr) (len1 cap1 : Nat) (z1 : List Int) (a2 : Int) (a3 : Int) (w : World) (w0 : a0.size ≤ maxLen) (w1 : IsRow .u8 w a1 len1 cap1 z1) (w2 : (Lit.int .i64 a2).wf = true) (w3 : (Lit.int .i64 a3).wf = true) (hL : laidMetH Tryz.prog laidL w) :
    Calls Tryz.prog 4 #[.string a0, .slice a1 len1 cap1, .int .i64 a2, .int .i64 a3] w fun e w' => e = .returned (.bool true) ∧ Below w.heap.size w w' := by
  obtain ⟨l0, hl0⟩ := Go.Rx.string_sv a0
  rw [hl0]
  obtain ⟨l1, hl1⟩ := Go.Lv.row_rd (T := UInt8) w1
  rw [Go.Lv.wf_ofZ (T := Int) w2]
  rw [Go.Lv.wf_ofZ (T := Int) w3]
  exact Go.Rx.row_true F4.k.2 (x := (l0, l1, (GI.ofZ a2 : Int), (GI.ofZ a3 : Int))) (pvs := [.val .str l0, .val (.list (.int .u8)) l1, .val (.int .i64) (GI.ofZ a2 : Int), .val (.int .i64) (GI.ofZ a3 : Int)]) rfl rfl (Go.Rx.encs_cons (Go.Rx.enc_str _) (Go.Rx.encs_cons (Go.Rx.enc_row (k := .u8) hl1) (Go.Rx.encs_cons (Go.Rx.enc_iv (k := .i64) _) (Go.Rx.encs_cons (Go.Rx.enc_iv (k := .i64) _) Go.Rx.encs_nil)))) (glOk hL) (Go.Pl.law_ScriptEven l0 l1 (GI.ofZ a2 : Int) (GI.ofZ a3 : Int))

/-! ### THE ROW's STEP: WRITTEN OUT: LEAVE IT -/
set_option maxRecDepth 100000 in
theorem lifted (os : Os) (started : os.Started) (H : Type) (enc : TypeId × Value → H) :
    ReturnsInHanded {} Tryz.checked os 4 .any (fun w args => (Rows.scriptEvenSpec.pre enc Tryz.prog Tryz.f4 [] false w args ∧ laidMetH Tryz.prog laidL w) ∧ sizedMet enc Tryz.prog Tryz.f4 (OpenSpec.ofChange Rows.scriptEvenSpec) false w args) (Rows.scriptEvenSpec.post enc Tryz.prog Tryz.f4 false true false false) := by
  refine returnsInHanded_of_change_and (C := Tryz.checked) (X := fun w _ => laidMetH Tryz.prog laidL w) (fun _ _ _ hh h => h.of_heap hh) own started (by kernel_rfl) Tryz.func4
    (ChangeSpec.witness_shaped (enc := enc) (C := Tryz.checked) (os := os) (X := fun w _ => laidMetH Tryz.prog laidL w) false (World.doorLaid Tryz.prog 58 os) #[.string ByteArray.empty, .slice none 0 0, .int .i64 0, .int .i64 0] 8 rfl (World.shaped_of_RefB (by kernel_rfl) (by kernel_rfl)) (by kernel_rfl) (by kernel_rfl) (by kernel_rfl) (door_met os _)) ?_
  intro W base args ds gs before hval0 hW _ _ hL _
  have hval : ∀ (j : Nat) t v, Tryz.f4.params[j]? = some t → args[j]? = some v → Value.okWide Tryz.prog W .any base t v := hval0
  have hW' := hW
  obtain ⟨p, q, hA0, hV, rfl, hfz, hnd⟩ := hW
  have hA : DataW.TrodAll enc Tryz.prog W 0 (fun _ => true) true Tryz.f4.params.toList args.toList ds p := hA0
  rw [Tryz.params4] at hA hval
  obtain ⟨v0, vs0, d0, ds0, p0, q0, hargs, rfl, rfl, h0, r0⟩ := trodAll_cons hA
  obtain ⟨v1, vs1, d1, ds1, p1, q1, rfl, rfl, rfl, h1, r1⟩ := trodAll_cons r0
  obtain ⟨v2, vs2, d2, ds2, p2, q2, rfl, rfl, rfl, h2, r2⟩ := trodAll_cons r1
  obtain ⟨v3, vs3, d3, ds3, p3, q3, rfl, rfl, rfl, h3, r3⟩ := trodAll_cons r2
  obtain ⟨rfl, rfl, rfl⟩ := trodAll_nil r3
  obtain rfl : args = #[v0, v1, v2, v3] := by cases args; simp_all
  obtain ⟨rfl, rfl⟩ := trodVars_none hV
  obtain ⟨a0, rfl, rfl, rfl, w0⟩ := open_string Tryz.underlying9 (hval 0 9 v0 rfl rfl) h0
  obtain ⟨a1, len1, cap1, rfl⟩ := okWide_slice Tryz.underlying22 (hval 1 22 v1 rfl rfl)
  have k1 := h1
  have lt1 : ∀ x ∈ p1, x.block < W.heap.size := by obtain ⟨m, hm⟩ := k1; exact DataW.trod_lt m _ _ _ hm
  obtain ⟨z1, w1⟩ : ∃ zs, IsRow .u8 W a1 len1 cap1 zs := by
    obtain ⟨fuel, hf⟩ := h1
    rcases open_ints Tryz.underlying22 Tryz.underlying5 (by kernel_rfl) hf with ⟨hcs, _⟩ | ⟨x, l, c, zs, hcs, _, hl, hm, hz, _, hcell, hwz⟩
    · simp [Value.cells] at hcs
      obtain ⟨rfl, rfl, rfl⟩ := hcs
      exact ⟨[], .inl ⟨rfl, rfl, rfl, rfl⟩⟩
    · simp [Value.cells] at hcs
      obtain ⟨rfl, rfl, rfl⟩ := hcs
      exact ⟨zs, .inr ⟨_, rfl, hl, hm, by simpa using hz, hcell, hwz⟩⟩
  obtain ⟨a2, rfl, rfl, rfl, w2⟩ := open_int Tryz.underlying3 (hval 2 3 v2 rfl rfl) h2
  obtain ⟨a3, rfl, rfl, rfl, w3⟩ := open_int Tryz.underlying3 (hval 3 3 v3 rfl rfl) h3
  clear hA0 hval0
  refine (walk a0 a1 len1 cap1 z1 a2 a3 W w0 w1 w2 w3 hL).mono fun e W' ⟨he, bel⟩ => ?_
  subst he
  exact ⟨_, rfl, _, _, _, [], _, [], hW', trodAll_mk1 (shut_bool Tryz.underlying4 _), (trodAll_cons_mk (shut_string Tryz.underlying9 w0) (trodAll_cons_mk (Below.trod laidOut (by kernel_rfl) (of_decide_eq_true (by kernel_rfl)) k1 bel lt1) (trodAll_cons_mk (shut_int Tryz.underlying3 w2) (trodAll_cons_mk (shut_int Tryz.underlying3 w3) trodAll_mk0)))), rfl, bel.frame _, fun h => by cases h⟩

set_option maxHeartbeats 20000000 in
theorem over : Rows.scriptEvenRow.holds Tryz.pinned (OpenSpec.ofChange Rows.scriptEvenSpec) :=
  OpenClaim.holds_of_wide 4 Tryz.f4 rfl rfl rfl rfl rfl rfl rfl ⟨rfl, rfl, rfl, rfl, rfl⟩ rfl rfl rfl rfl rfl (by kernel_rfl) Tryz.func4 jf_closed
    (of_decide_eq_true (by kernel_rfl)) (by unfold Func.isWrapper; first | (rw [if_pos (by decide +kernel)]; kernel_rfl) | (rw [if_neg (by decide +kernel)]; exact ⟨rfl, rfl⟩))
    (fun os started H enc _ => lifted os started H enc)
end Go.Proofs.YtaokmgopghpikaaGreatDoor.scriptEven
