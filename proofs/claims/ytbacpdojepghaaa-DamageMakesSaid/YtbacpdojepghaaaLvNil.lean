/- Comparing a slice with nil. -/
import Derived.Test.YtbacpdojepghaaaLvGen
set_option linter.unusedVariables false
set_option linter.unusedSimpArgs false
namespace Go.Lv
variable {P : Program} {n : Nat} {ops : Array Oper} {rest : List Oper} {K : Env → World → Prop} {Q : Exit → Env → World → Prop} {σ : Env} {w : World}
variable {d : Nat} {ty : TypeId} {pos : String} {after : Array Edge} {A : Reg} {F : List Fact} {L : List Mob}
theorem run_equalIn_nil {t e : TypeId} (hu : P.underlying t = some (.slice e)) (q : Nat) (p : Option Addr) (l c : Nat) (w : World) : (Op.equalIn (q + 1) t (.slice p l c) (.slice none 0 0)).run P w = .ok p.isNone w := by
  cases p <;> simp [Op.equalIn, run_underlying hu]
theorem Bin.nil_eql {t e : TypeId} (hu : P.underlying t = some (.slice e)) (p : Option Addr) (l c : Nat) : BinOk P .eql t (.slice p l c) (.slice none 0 0) (.bool p.isNone) := fun _ _ w => by
  have h := run_equalIn_nil hu 9999 p l c w
  simp only [eqGuard, binOp, Op.equal, Op.maxDepth]
  simp [h]
theorem Bin.nil_neq {t e : TypeId} (hu : P.underlying t = some (.slice e)) (p : Option Addr) (l c : Nat) : BinOk P .neq t (.slice p l c) (.slice none 0 0) (.bool p.isSome) := fun _ _ w => by
  have h := run_equalIn_nil hu 9999 p l c w
  simp only [eqGuard, binOp, Op.equal, Op.maxDepth]
  cases p <;> simp [h]
theorem Rd.none_nil {R : Reg} {s l c : Nat} {cs : List Value} (h : Rd R w s (.slice none l c) cs) : cs = [] := by
  obtain ⟨p, len, cap, e, h2, h3, h4, _⟩ := h
  cases e
  have := h4 rfl
  have h5 : cs.length = 0 := by rw [h2, show l = 0 by omega, Nat.zero_mul]
  exact List.length_eq_zero_iff.1 h5
end Go.Lv
