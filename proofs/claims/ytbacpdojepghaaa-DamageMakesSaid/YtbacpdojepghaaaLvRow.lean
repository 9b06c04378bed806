/- From a row to a walk and back. -/
import Derived.Test.YtbacpdojepghaaaLvGen
import Derived.Below
import Derived.WalkKit
import Derived.OpenShut
set_option linter.unusedVariables false
set_option linter.unusedSimpArgs false
namespace Go.Lv
open Go.RowKit
/-! ### from what a row tells to what a walk asks, and back -/
theorem Fr.below {w w' : World} {F : List Fact} {L : List Mob} (h : Fr w w' F L) : Below w.heap.size w w' :=
  ⟨h.keep.gr.os, h.keep.gr.tape, h.keep.gr.output, h.keep.gr.le, fun b hb => h.keep.same b hb⟩
theorem wrap_wf {k : IntKind} {n : Int} (h : (Lit.int k n).wf = true) : k.wrap n = n := by
  simp only [Lit.wf, Bool.and_eq_true, decide_eq_true_eq] at h
  obtain ⟨h1, h2⟩ := h
  cases k <;> simp only [IntKind.min, IntKind.max, IntKind.bits, IntKind.signed, IntKind.wrap] at * <;> (try simp at *) <;> (try split) <;> omega
section
variable {T : Type} {k : IntKind} [GI T k]
/-- A number that fits is the value of one of the type. -/
theorem wf_ofZ {n : Int} (h : (Lit.int k n).wf = true) : (.int k n : Value) = iv (GI.ofZ n : T) := by
  rw [← ofZ_val, wrap_wf h]
theorem row_rd {w : World} {a : Option Addr} {len cap M : Nat} {zs : List Int}
    (h : (a = none ∧ len = 0 ∧ cap = 0 ∧ zs = []) ∨ ∃ x, a = some x ∧ len ≤ cap ∧ cap ≤ M ∧ zs.length = cap ∧ (∀ i, i < zs.length → w.cell? (x.add i) = some (.int k (zs.getD i 0))) ∧ ∀ n ∈ zs, (Lit.int k n).wf = true) :
    ∃ l : List T, Rd (fun _ => True) w 1 (.slice a len cap) (encL l) := by
  rcases h with ⟨rfl, rfl, rfl, rfl⟩ | ⟨x, rfl, hl, hm, hz, hcell, hwz⟩
  · exact ⟨[], Rd.nil⟩
  · refine ⟨(zs.take len).map GI.ofZ, some x, len, cap, rfl, by simp [encL]; omega, hl, (fun h => by cases h), fun hc => ?_⟩
    obtain ⟨b, off, spot⟩ := x
    have hc0 := hcell 0 (by omega)
    have hspot : spot = none := by simpa [Addr.add] using World.cell?_spot hc0
    subst hspot
    simp only [add_off] at hcell
    have hb : ∃ arr T fr, w.heap[b]? = some (.cells arr T fr) := by
      have := hcell 0 (by omega)
      unfold World.cell? at this
      split at this
      · rename_i arr T fr hh
        exact ⟨arr, T, fr, by simpa using hh⟩
      · cases this
    obtain ⟨arr, E, fr, hb⟩ := hb
    refine ⟨b, off, arr, E, fr, rfl, trivial, hb, ?_, fun i hi => ?_⟩
    · have := hcell (cap - 1) (by omega)
      rw [cell_of hb] at this
      have := (Array.getElem?_eq_some_iff.1 this).1
      omega
    · have h1 := hcell i (by omega)
      rw [cell_of hb] at h1
      rw [h1]
      have hlt : i < len := by omega
      have hzi : i < zs.length := by omega
      have hmem : zs.getD i 0 ∈ zs := by
        rw [List.getD_eq_getElem?_getD, List.getElem?_eq_getElem hzi]; exact List.getElem_mem hzi
      rw [wf_ofZ (T := T) (hwz _ hmem)]
      simp only [encL, List.map_map, List.getElem?_map, List.getElem?_take]
      rw [if_pos hlt, List.getElem?_eq_getElem hzi]
      simp [List.getD_eq_getElem?_getD, List.getElem?_eq_getElem hzi]
end
end Go.Lv
