/- The plain operations. -/
import GoSem.Core.View
set_option linter.unusedVariables false
set_option linter.unusedSimpArgs false
namespace Go.Lv

/-- Lean's types that stand for Go's integers. -/
class GI (T : Type) (k : outParam IntKind) where
  toZ : T → Int
  ofZ : Int → T
  toZ_ofZ : ∀ n, toZ (ofZ n) = k.wrap n

def wrap64 (n : Int) : Int := IntKind.i64.wrap n
theorem wrap64_eq (n : Int) : wrap64 n = if n % 18446744073709551616 ≥ 9223372036854775808 then n % 18446744073709551616 - 18446744073709551616 else n % 18446744073709551616 := by
  unfold wrap64 IntKind.wrap
  simp only [IntKind.bits, IntKind.signed, Bool.true_and]
  change (if decide (n % 18446744073709551616 ≥ 9223372036854775808) = true then n % 18446744073709551616 - 18446744073709551616 else n % 18446744073709551616) = _
  by_cases h : n % 18446744073709551616 ≥ 9223372036854775808 <;> simp [h]
theorem wrap64_id {n : Int} (h : -9223372036854775808 ≤ n) (h' : n ≤ 9223372036854775807) : wrap64 n = n := by
  rw [wrap64_eq]; split <;> omega
/-- Go's int. -/
instance : GI Int .i64 where
  toZ x := x
  ofZ n := wrap64 n
  toZ_ofZ _ := rfl
instance : GI UInt8 .u8 where
  toZ x := (x.toNat : Int)
  ofZ n := UInt8.ofNat (n % 256).toNat
  toZ_ofZ n := by
    simp only [IntKind.wrap, IntKind.bits, IntKind.signed, Bool.false_and, Bool.false_eq_true, if_false, UInt8.toNat_ofNat']
    show ((n % 256).toNat % 256 : Nat) = n % 256
    omega
instance : GI UInt32 .u32 where
  toZ x := (x.toNat : Int)
  ofZ n := UInt32.ofNat (n % 4294967296).toNat
  toZ_ofZ n := by
    simp only [IntKind.wrap, IntKind.bits, IntKind.signed, Bool.false_and, Bool.false_eq_true, if_false, UInt32.toNat_ofNat']
    show ((n % 4294967296).toNat % 4294967296 : Nat) = n % 4294967296
    omega
instance : GI UInt64 .u64 where
  toZ x := (x.toNat : Int)
  ofZ n := UInt64.ofNat (n % 18446744073709551616).toNat
  toZ_ofZ n := by
    simp only [IntKind.wrap, IntKind.bits, IntKind.signed, Bool.false_and, Bool.false_eq_true, if_false, UInt64.toNat_ofNat']
    show ((n % 18446744073709551616).toNat % 18446744073709551616 : Nat) = n % 18446744073709551616
    omega
instance : GI Int32 .i32 where
  toZ x := x.toInt
  ofZ n := Int32.ofInt n
  toZ_ofZ n := by
    rw [Int32.toInt_ofInt, Int.bmod_def]
    simp only [IntKind.wrap, IntKind.bits, IntKind.signed, Bool.true_and]
    change (if n % 4294967296 < (4294967296 + 1) / 2 then n % 4294967296 else n % 4294967296 - 4294967296) = if decide (n % 4294967296 ≥ 2147483648) = true then n % 4294967296 - 4294967296 else n % 4294967296
    by_cases h : n % 4294967296 ≥ 2147483648
    · rw [if_neg (by omega), if_pos (by simpa using h)]
    · rw [if_pos (by omega), if_neg (by simpa using h)]
instance : GI Int8 .i8 where
  toZ x := x.toInt
  ofZ n := Int8.ofInt n
  toZ_ofZ n := by
    rw [Int8.toInt_ofInt, Int.bmod_def]
    simp only [IntKind.wrap, IntKind.bits, IntKind.signed, Bool.true_and]
    change (if n % 256 < (256 + 1) / 2 then n % 256 else n % 256 - 256) = if decide (n % 256 ≥ 128) = true then n % 256 - 256 else n % 256
    by_cases h : n % 256 ≥ 128
    · rw [if_neg (by omega), if_pos (by simpa using h)]
    · rw [if_pos (by omega), if_neg (by simpa using h)]

section
variable {T : Type} {k : IntKind} [GI T k]
open GI
def gadd (a b : T) : T := ofZ (toZ a + toZ b)
def gsub (a b : T) : T := ofZ (toZ a - toZ b)
def gmul (a b : T) : T := ofZ (toZ a * toZ b)
def gquo (a b : T) : T := ofZ ((toZ a).tdiv (toZ b))
def grem (a b : T) : T := ofZ ((toZ a).tmod (toZ b))
def gand (a b : T) : T := ofZ (BitVec.ofInt k.bits (toZ a) &&& BitVec.ofInt k.bits (toZ b)).toNat
def gor (a b : T) : T := ofZ (BitVec.ofInt k.bits (toZ a) ||| BitVec.ofInt k.bits (toZ b)).toNat
def gxor (a b : T) : T := ofZ (BitVec.ofInt k.bits (toZ a) ^^^ BitVec.ofInt k.bits (toZ b)).toNat
def gnot (a : T) : T := ofZ (BitVec.ofInt k.bits (if k.signed then -1 else k.max) ^^^ BitVec.ofInt k.bits (toZ a)).toNat
def gneg (a : T) : T := ofZ (0 - toZ a)
def gshl (a : T) (n : Nat) : T := ofZ (toZ a * 2 ^ (min n k.bits))
def gshr (a : T) (n : Nat) : T := ofZ ((toZ a).fdiv (2 ^ (min n k.bits)))
def geq (a b : T) : Bool := toZ a == toZ b
def gne (a b : T) : Bool := toZ a != toZ b
def glt (a b : T) : Bool := decide (toZ a < toZ b)
def gle (a b : T) : Bool := decide (toZ a ≤ toZ b)
def ggt (a b : T) : Bool := decide (toZ a > toZ b)
def gge (a b : T) : Bool := decide (toZ a ≥ toZ b)
def gmin (a b : T) : T := if toZ b < toZ a then b else a
def gmax (a b : T) : T := if toZ b > toZ a then b else a
def gconv {T' : Type} {k' : IntKind} [GI T' k'] (a : T) : T' := ofZ (toZ a)
end

/-- Go's remainder, and shift to the right, of an int (they stay in the range). -/
def irem (a b : Int) : Int := a.tmod b
def ishr (a : Int) (n : Nat) : Int := a.fdiv (2 ^ (min n 64))

/-! ### lists -/
def getI {α : Type} (l : List α) (i : Int) : Option α := if 0 ≤ i then l[i.toNat]? else none
def setI {α : Type} (l : List α) (i : Int) (x : α) : Option (List α) := if 0 ≤ i ∧ i < l.length then some (l.set i.toNat x) else none
/-- A slice of a slice (never beyond the length). -/
def cutI {α : Type} (l : List α) (lo hi : Int) : Option (List α) := if 0 ≤ lo ∧ lo ≤ hi ∧ hi ≤ l.length then some ((l.take hi.toNat).drop lo.toNat) else none
/-- How long a slice may become. -/
def LIM : Nat := 2 ^ 34
def appI {α : Type} (l m : List α) : Option (List α) := if l.length + m.length ≤ LIM then some (l ++ m) else none
def mkI {α : Type} (n : Int) (z : α) : Option (List α) := if 0 ≤ n ∧ n ≤ LIM then some (List.replicate n.toNat z) else none
/-- A condition that Go asks, as a step. -/
def okI (b : Bool) : Option Unit := if b = true then some () else none
def lenI {α : Type} (l : List α) : Int := (l.length : Int)
/-- How often a loop may go round. -/
def FUEL : Nat := 2 ^ 65
/-- How a loop, or a piece of code, is left. -/
inductive Out (σ ρ : Type) where
  | brk (s : σ)
  | ret (r : ρ)
end Go.Lv
