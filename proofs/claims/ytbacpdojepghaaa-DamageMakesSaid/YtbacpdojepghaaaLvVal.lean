/- The model's binary operations give the plain ones. -/
import Derived.Test.YtbacpdojepghaaaLvMem
import Derived.Test.YtbacpdojepghaaaLvPure
import Derived.Laws.Entries
import Derived.Laws.Strings
set_option linter.unusedVariables false
set_option linter.unusedSimpArgs false
namespace Go.Lv
section
variable {T : Type} {k : IntKind} [GI T k]
/-- An integer as a value. -/
@[reducible] def iv (x : T) : Value := .int k (GI.toZ x)
/-- A string as a value. -/
@[reducible] def sv (l : List UInt8) : Value := .string ⟨l.toArray⟩
variable {P : Program}
/-- What a binary operation yields, whatever the world. -/
def BinOk (P : Program) (b : BinOp) (t : TypeId) (x y v : Value) : Prop :=
  ∀ (ox oy : Operand) (w : World), (do eqGuard b t ox oy x y; binOp b t x y : Sem Value).run P w = .ok v w
theorem ofZ_val (n : Int) : (.int k (k.wrap n) : Value) = iv (GI.ofZ n : T) := by rw [iv, GI.toZ_ofZ]
theorem Bin.add {t : TypeId} (a b : T) : BinOk P .add t (iv a) (iv b) (iv (gadd a b)) := fun _ _ w => by
  simp [eqGuard, binOp, Op.intArith, gadd, ← ofZ_val]
theorem Bin.sub {t : TypeId} (a b : T) : BinOk P .sub t (iv a) (iv b) (iv (gsub a b)) := fun _ _ w => by
  simp [eqGuard, binOp, Op.intArith, gsub, ← ofZ_val]
theorem Bin.mul {t : TypeId} (a b : T) : BinOk P .mul t (iv a) (iv b) (iv (gmul a b)) := fun _ _ w => by
  simp [eqGuard, binOp, Op.intArith, gmul, ← ofZ_val]
theorem Bin.quo {t : TypeId} (a b : T) (h : GI.toZ b ≠ 0) : BinOk P .quo t (iv a) (iv b) (iv (gquo a b)) := fun _ _ w => by
  simp [eqGuard, binOp, Op.intDiv, gquo, ← ofZ_val, h]
theorem Bin.and {t : TypeId} (a b : T) : BinOk P .and t (iv a) (iv b) (iv (gand a b)) := fun _ _ w => by
  simp [eqGuard, binOp, Op.intBits, gand, ← ofZ_val]
theorem Bin.or {t : TypeId} (a b : T) : BinOk P .or t (iv a) (iv b) (iv (gor a b)) := fun _ _ w => by
  simp [eqGuard, binOp, Op.intBits, gor, ← ofZ_val]
theorem Bin.xor {t : TypeId} (a b : T) : BinOk P .xor t (iv a) (iv b) (iv (gxor a b)) := fun _ _ w => by
  simp [eqGuard, binOp, Op.intBits, gxor, ← ofZ_val]
theorem Bin.eql {t : TypeId} (a b : T) : BinOk P .eql t (iv a) (iv b) (.bool (geq a b)) := fun _ _ w => by
  simp [eqGuard, binOp, Op.intCmp, geq]
theorem Bin.neq {t : TypeId} (a b : T) : BinOk P .neq t (iv a) (iv b) (.bool (gne a b)) := fun _ _ w => by
  simp [eqGuard, binOp, Op.intCmp, gne]
theorem Bin.lss {t : TypeId} (a b : T) : BinOk P .lss t (iv a) (iv b) (.bool (glt a b)) := fun _ _ w => by
  simp [eqGuard, binOp, Op.intCmp, glt]
theorem Bin.leq {t : TypeId} (a b : T) : BinOk P .leq t (iv a) (iv b) (.bool (gle a b)) := fun _ _ w => by
  simp [eqGuard, binOp, Op.intCmp, gle]
theorem Bin.gtr {t : TypeId} (a b : T) : BinOk P .gtr t (iv a) (iv b) (.bool (ggt a b)) := fun _ _ w => by
  simp [eqGuard, binOp, Op.intCmp, ggt]
theorem Bin.geq {t : TypeId} (a b : T) : BinOk P .geq t (iv a) (iv b) (.bool (gge a b)) := fun _ _ w => by
  simp [eqGuard, binOp, Op.intCmp, gge]
variable {T' : Type} {k' : IntKind} [GI T' k']
theorem Bin.shl {t : TypeId} (a : T) (b : T') (h : 0 ≤ GI.toZ b) : BinOk P .shl t (iv a) (iv b) (iv (gshl a (GI.toZ b).toNat)) := fun _ _ w => by
  have : ¬ GI.toZ b < 0 := by omega
  simp [eqGuard, binOp, Op.shift, gshl, ← ofZ_val, this]
/-- A shift to the right stays in the type's range. -/
theorem Bin.shr {t : TypeId} (a : T) (b : T') (h : 0 ≤ GI.toZ b) (hr : k.wrap ((GI.toZ a).fdiv (2 ^ (min (GI.toZ b).toNat k.bits))) = (GI.toZ a).fdiv (2 ^ (min (GI.toZ b).toNat k.bits))) :
    BinOk P .shr t (iv a) (iv b) (iv (gshr a (GI.toZ b).toNat)) := fun _ _ w => by
  have : ¬ GI.toZ b < 0 := by omega
  simp [eqGuard, binOp, Op.shift, gshr, ← ofZ_val, this, hr]
theorem run_equalIn_bool {t : TypeId} (hu : P.underlying t = some .bool) (d : Nat) (a b : Bool) (w : World) : (Op.equalIn (d + 1) t (.bool a) (.bool b)).run P w = .ok (a == b) w := by
  simp [Op.equalIn, run_underlying hu]
theorem Bin.bool_eql {t : TypeId} (hu : P.underlying t = some .bool) (a b : Bool) : BinOk P .eql t (.bool a) (.bool b) (.bool (a == b)) := fun _ _ w => by
  have h := run_equalIn_bool hu 9999 a b w
  simp only [eqGuard, binOp, Op.equal, Op.maxDepth]
  simp [h]
theorem Bin.bool_neq {t : TypeId} (hu : P.underlying t = some .bool) (a b : Bool) : BinOk P .neq t (.bool a) (.bool b) (.bool (a != b)) := fun _ _ w => by
  have h := run_equalIn_bool hu 9999 a b w
  simp only [eqGuard, binOp, Op.equal, Op.maxDepth]
  simp [h, bne]
theorem ba_toList (a : List UInt8) : (⟨a.toArray⟩ : ByteArray).toList = a := by rw [ByteArray.toList_eq]
theorem Bin.str_eql {t : TypeId} (a b : List UInt8) : BinOk P .eql t (sv a) (sv b) (.bool (a == b)) := fun _ _ w => by
  simp [eqGuard, binOp, Op.stringOp, ba_toList]
theorem Bin.str_neq {t : TypeId} (a b : List UInt8) : BinOk P .neq t (sv a) (sv b) (.bool (a != b)) := fun _ _ w => by
  simp [eqGuard, binOp, Op.stringOp, bne, ba_toList]
theorem ba_append (a b : List UInt8) : (⟨a.toArray⟩ : ByteArray) ++ ⟨b.toArray⟩ = ⟨(a ++ b).toArray⟩ := by
  simp [ByteArray.ext_iff]
theorem Bin.str_add {t : TypeId} (a b : List UInt8) (h : (a.length : Int) + b.length ≤ 9223372036854775807) : BinOk P .add t (sv a) (sv b) (sv (a ++ b)) := fun _ _ w => by
  have h1 : ¬ (9223372036854775807 < (a.length : Int) + b.length) := by omega
  have h2 : ∀ l : List UInt8, (⟨l.toArray⟩ : ByteArray).size = l.length := fun l => by simp [ByteArray.size]
  simp only [eqGuard, binOp, Op.stringOp]
  simp [h2, h1, ba_append]
end
end Go.Lv
