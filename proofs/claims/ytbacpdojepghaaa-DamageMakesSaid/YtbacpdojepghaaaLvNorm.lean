/- The plain operations on the plain types. -/
import Derived.Test.YtbacpdojepghaaaLvPure
set_option linter.unusedVariables false
set_option linter.unusedSimpArgs false
namespace Go.Lv
/-! ### the plain operations on Lean's own types -/
theorem wrap_min {x n : Nat} : min x n ≤ n := Nat.min_le_right _ _

section
variable (a b : UInt8)
theorem toZ_u8 : GI.toZ a = (a.toNat : Int) := rfl
theorem ofZ_u8 (n : Int) : (GI.ofZ n : UInt8) = UInt8.ofNat (n % 256).toNat := rfl
theorem ofZ_u8_nat (n : Nat) : (GI.ofZ (n : Int) : UInt8) = UInt8.ofNat n := by
  rw [ofZ_u8]; apply UInt8.toNat_inj.1; simp only [UInt8.toNat_ofNat']; omega
theorem gadd_u8 : gadd a b = a + b := by
  simp only [gadd, toZ_u8, ← Int.natCast_add, ofZ_u8_nat]; apply UInt8.toNat_inj.1; simp
theorem gsub_u8 : gsub a b = a - b := by
  simp only [gsub, toZ_u8, ofZ_u8]; apply UInt8.toNat_inj.1
  have h1 := a.toNat_lt; have h2 := b.toNat_lt
  simp only [UInt8.toNat_ofNat', UInt8.toNat_sub]; omega
theorem gmul_u8 : gmul a b = a * b := by
  simp only [gmul, toZ_u8, ← Int.natCast_mul, ofZ_u8_nat]; apply UInt8.toNat_inj.1; simp
theorem gquo_u8 : gquo a b = a / b := by
  simp only [gquo, toZ_u8]
  rw [← Int.ofNat_tdiv, ofZ_u8_nat]; apply UInt8.toNat_inj.1
  rw [UInt8.toNat_ofNat', UInt8.toNat_div]
  exact Nat.mod_eq_of_lt (Nat.lt_of_le_of_lt (Nat.div_le_self _ _) a.toNat_lt)
theorem grem_u8 : grem a b = a % b := by
  simp only [grem, toZ_u8]
  rw [← Int.ofNat_tmod, ofZ_u8_nat]; apply UInt8.toNat_inj.1
  rw [UInt8.toNat_ofNat', UInt8.toNat_mod]
  exact Nat.mod_eq_of_lt (Nat.lt_of_le_of_lt (Nat.mod_le _ _) a.toNat_lt)
theorem bv_u8 : BitVec.ofInt (IntKind.bits .u8) (GI.toZ a) = a.toBitVec := by
  rw [toZ_u8]; apply BitVec.eq_of_toNat_eq; have := a.toNat_lt
  simp only [IntKind.bits, BitVec.toNat_ofInt, UInt8.toNat_toBitVec]; omega
theorem gand_u8 : gand a b = a &&& b := by
  simp only [gand, bv_u8, ofZ_u8_nat]; apply UInt8.toNat_inj.1; rw [UInt8.toNat_ofNat', UInt8.toNat_and]
  exact (Nat.mod_eq_of_lt (a.toBitVec &&& b.toBitVec).isLt).trans (BitVec.toNat_and _ _)
theorem gor_u8 : gor a b = a ||| b := by
  simp only [gor, bv_u8, ofZ_u8_nat]; apply UInt8.toNat_inj.1; rw [UInt8.toNat_ofNat', UInt8.toNat_or]
  exact (Nat.mod_eq_of_lt (a.toBitVec ||| b.toBitVec).isLt).trans (BitVec.toNat_or _ _)
theorem gxor_u8 : gxor a b = a ^^^ b := by
  simp only [gxor, bv_u8, ofZ_u8_nat]; apply UInt8.toNat_inj.1; rw [UInt8.toNat_ofNat', UInt8.toNat_xor]
  exact (Nat.mod_eq_of_lt (a.toBitVec ^^^ b.toBitVec).isLt).trans (BitVec.toNat_xor _ _)
theorem gshl_u8 (n : Nat) : (gshl a n).toNat = a.toNat * 2 ^ n % 256 := by
  have h : (a.toNat : Int) * 2 ^ min n (IntKind.bits .u8) = ((a.toNat * 2 ^ min n 8 : Nat) : Int) := by simp [IntKind.bits]
  simp only [gshl, toZ_u8, h, ofZ_u8_nat, UInt8.toNat_ofNat']
  show a.toNat * 2 ^ min n 8 % 256 = _
  rcases Nat.le_total n 8 with h | h
  · rw [Nat.min_eq_left h]
  · rw [Nat.min_eq_right h]
    obtain ⟨d, rfl⟩ := Nat.exists_eq_add_of_le h
    rw [Nat.pow_add, ← Nat.mul_assoc, Nat.mul_right_comm, Nat.mul_mod_left, Nat.mul_mod_left]
theorem gshr_u8 (n : Nat) : (gshr a n).toNat = a.toNat / 2 ^ n := by
  have h : (a.toNat : Int).fdiv (2 ^ min n (IntKind.bits .u8)) = ((a.toNat / 2 ^ min n 8 : Nat) : Int) := by
    rw [Int.fdiv_eq_ediv_of_nonneg _ (Int.le_of_lt (Int.pow_pos (by decide)))]; simp [IntKind.bits]
  have hlt := a.toNat_lt
  have hle := Nat.div_le_self a.toNat (2 ^ min n 8)
  simp only [gshr, toZ_u8, h, ofZ_u8_nat, UInt8.toNat_ofNat']
  show a.toNat / 2 ^ min n 8 % 256 = _
  rw [Nat.mod_eq_of_lt (by omega)]
  rcases Nat.le_total n 8 with h | h
  · rw [Nat.min_eq_left h]
  · rw [Nat.min_eq_right h]
    rw [Nat.div_eq_of_lt (by omega), Nat.div_eq_of_lt]
    exact Nat.lt_of_lt_of_le hlt (Nat.pow_le_pow_right (by decide) h)
theorem geq_u8 : geq a b = (a == b) := by
  rw [Bool.eq_iff_iff]; simp [geq, toZ_u8, Int.natCast_inj, UInt8.toNat_inj]
theorem gne_u8 : gne a b = (a != b) := by
  rw [Bool.eq_iff_iff]; simp [gne, toZ_u8, Int.natCast_inj, UInt8.toNat_inj]
theorem glt_u8 : glt a b = decide (a.toNat < b.toNat) := by simp [glt, toZ_u8]
theorem gle_u8 : gle a b = decide (a.toNat ≤ b.toNat) := by simp [gle, toZ_u8]
theorem ggt_u8 : ggt a b = decide (b.toNat < a.toNat) := by simp [ggt, toZ_u8]
theorem gge_u8 : gge a b = decide (b.toNat ≤ a.toNat) := by simp [gge, toZ_u8]
theorem gconv_u8 : (gconv a : Int) = wrap64 (a.toNat : Int) := rfl
theorem gconv_i_u8 (n : Int) : (gconv n : UInt8) = UInt8.ofNat (n % 256).toNat := rfl
end

section
variable (a b : UInt32)
theorem toZ_u32 : GI.toZ a = (a.toNat : Int) := rfl
theorem ofZ_u32 (n : Int) : (GI.ofZ n : UInt32) = UInt32.ofNat (n % 4294967296).toNat := rfl
theorem ofZ_u32_nat (n : Nat) : (GI.ofZ (n : Int) : UInt32) = UInt32.ofNat n := by
  rw [ofZ_u32]; apply UInt32.toNat_inj.1; simp only [UInt32.toNat_ofNat']; omega
theorem gadd_u32 : gadd a b = a + b := by
  simp only [gadd, toZ_u32, ← Int.natCast_add, ofZ_u32_nat]; apply UInt32.toNat_inj.1; simp
theorem gsub_u32 : gsub a b = a - b := by
  simp only [gsub, toZ_u32, ofZ_u32]; apply UInt32.toNat_inj.1
  have h1 := a.toNat_lt; have h2 := b.toNat_lt
  simp only [UInt32.toNat_ofNat', UInt32.toNat_sub]; omega
theorem gmul_u32 : gmul a b = a * b := by
  simp only [gmul, toZ_u32, ← Int.natCast_mul, ofZ_u32_nat]; apply UInt32.toNat_inj.1; simp
theorem gquo_u32 : gquo a b = a / b := by
  simp only [gquo, toZ_u32]
  rw [← Int.ofNat_tdiv, ofZ_u32_nat]; apply UInt32.toNat_inj.1
  rw [UInt32.toNat_ofNat', UInt32.toNat_div]
  exact Nat.mod_eq_of_lt (Nat.lt_of_le_of_lt (Nat.div_le_self _ _) a.toNat_lt)
theorem grem_u32 : grem a b = a % b := by
  simp only [grem, toZ_u32]
  rw [← Int.ofNat_tmod, ofZ_u32_nat]; apply UInt32.toNat_inj.1
  rw [UInt32.toNat_ofNat', UInt32.toNat_mod]
  exact Nat.mod_eq_of_lt (Nat.lt_of_le_of_lt (Nat.mod_le _ _) a.toNat_lt)
theorem bv_u32 : BitVec.ofInt (IntKind.bits .u32) (GI.toZ a) = a.toBitVec := by
  rw [toZ_u32]; apply BitVec.eq_of_toNat_eq; have := a.toNat_lt
  simp only [IntKind.bits, BitVec.toNat_ofInt, UInt32.toNat_toBitVec]; omega
theorem gand_u32 : gand a b = a &&& b := by
  simp only [gand, bv_u32, ofZ_u32_nat]; apply UInt32.toNat_inj.1; rw [UInt32.toNat_ofNat', UInt32.toNat_and]
  exact (Nat.mod_eq_of_lt (a.toBitVec &&& b.toBitVec).isLt).trans (BitVec.toNat_and _ _)
theorem gor_u32 : gor a b = a ||| b := by
  simp only [gor, bv_u32, ofZ_u32_nat]; apply UInt32.toNat_inj.1; rw [UInt32.toNat_ofNat', UInt32.toNat_or]
  exact (Nat.mod_eq_of_lt (a.toBitVec ||| b.toBitVec).isLt).trans (BitVec.toNat_or _ _)
theorem gxor_u32 : gxor a b = a ^^^ b := by
  simp only [gxor, bv_u32, ofZ_u32_nat]; apply UInt32.toNat_inj.1; rw [UInt32.toNat_ofNat', UInt32.toNat_xor]
  exact (Nat.mod_eq_of_lt (a.toBitVec ^^^ b.toBitVec).isLt).trans (BitVec.toNat_xor _ _)
theorem gshl_u32 (n : Nat) : (gshl a n).toNat = a.toNat * 2 ^ n % 4294967296 := by
  have h : (a.toNat : Int) * 2 ^ min n (IntKind.bits .u32) = ((a.toNat * 2 ^ min n 32 : Nat) : Int) := by simp [IntKind.bits]
  simp only [gshl, toZ_u32, h, ofZ_u32_nat, UInt32.toNat_ofNat']
  show a.toNat * 2 ^ min n 32 % 4294967296 = _
  rcases Nat.le_total n 32 with h | h
  · rw [Nat.min_eq_left h]
  · rw [Nat.min_eq_right h]
    obtain ⟨d, rfl⟩ := Nat.exists_eq_add_of_le h
    rw [Nat.pow_add, ← Nat.mul_assoc, Nat.mul_right_comm, Nat.mul_mod_left, Nat.mul_mod_left]
theorem gshr_u32 (n : Nat) : (gshr a n).toNat = a.toNat / 2 ^ n := by
  have h : (a.toNat : Int).fdiv (2 ^ min n (IntKind.bits .u32)) = ((a.toNat / 2 ^ min n 32 : Nat) : Int) := by
    rw [Int.fdiv_eq_ediv_of_nonneg _ (Int.le_of_lt (Int.pow_pos (by decide)))]; simp [IntKind.bits]
  have hlt := a.toNat_lt
  have hle := Nat.div_le_self a.toNat (2 ^ min n 32)
  simp only [gshr, toZ_u32, h, ofZ_u32_nat, UInt32.toNat_ofNat']
  show a.toNat / 2 ^ min n 32 % 4294967296 = _
  rw [Nat.mod_eq_of_lt (by omega)]
  rcases Nat.le_total n 32 with h | h
  · rw [Nat.min_eq_left h]
  · rw [Nat.min_eq_right h]
    rw [Nat.div_eq_of_lt (by omega), Nat.div_eq_of_lt]
    exact Nat.lt_of_lt_of_le hlt (Nat.pow_le_pow_right (by decide) h)
theorem geq_u32 : geq a b = (a == b) := by
  rw [Bool.eq_iff_iff]; simp [geq, toZ_u32, Int.natCast_inj, UInt32.toNat_inj]
theorem gne_u32 : gne a b = (a != b) := by
  rw [Bool.eq_iff_iff]; simp [gne, toZ_u32, Int.natCast_inj, UInt32.toNat_inj]
theorem glt_u32 : glt a b = decide (a.toNat < b.toNat) := by simp [glt, toZ_u32]
theorem gle_u32 : gle a b = decide (a.toNat ≤ b.toNat) := by simp [gle, toZ_u32]
theorem ggt_u32 : ggt a b = decide (b.toNat < a.toNat) := by simp [ggt, toZ_u32]
theorem gge_u32 : gge a b = decide (b.toNat ≤ a.toNat) := by simp [gge, toZ_u32]
theorem gconv_u32 : (gconv a : Int) = wrap64 (a.toNat : Int) := rfl
theorem gconv_i_u32 (n : Int) : (gconv n : UInt32) = UInt32.ofNat (n % 4294967296).toNat := rfl
end

section
variable (a b : UInt64)
theorem toZ_u64 : GI.toZ a = (a.toNat : Int) := rfl
theorem ofZ_u64 (n : Int) : (GI.ofZ n : UInt64) = UInt64.ofNat (n % 18446744073709551616).toNat := rfl
theorem ofZ_u64_nat (n : Nat) : (GI.ofZ (n : Int) : UInt64) = UInt64.ofNat n := by
  rw [ofZ_u64]; apply UInt64.toNat_inj.1; simp only [UInt64.toNat_ofNat']; omega
theorem gadd_u64 : gadd a b = a + b := by
  simp only [gadd, toZ_u64, ← Int.natCast_add, ofZ_u64_nat]; apply UInt64.toNat_inj.1; simp
theorem gsub_u64 : gsub a b = a - b := by
  simp only [gsub, toZ_u64, ofZ_u64]; apply UInt64.toNat_inj.1
  have h1 := a.toNat_lt; have h2 := b.toNat_lt
  simp only [UInt64.toNat_ofNat', UInt64.toNat_sub]; omega
theorem gmul_u64 : gmul a b = a * b := by
  simp only [gmul, toZ_u64, ← Int.natCast_mul, ofZ_u64_nat]; apply UInt64.toNat_inj.1; simp
theorem gquo_u64 : gquo a b = a / b := by
  simp only [gquo, toZ_u64]
  rw [← Int.ofNat_tdiv, ofZ_u64_nat]; apply UInt64.toNat_inj.1
  rw [UInt64.toNat_ofNat', UInt64.toNat_div]
  exact Nat.mod_eq_of_lt (Nat.lt_of_le_of_lt (Nat.div_le_self _ _) a.toNat_lt)
theorem grem_u64 : grem a b = a % b := by
  simp only [grem, toZ_u64]
  rw [← Int.ofNat_tmod, ofZ_u64_nat]; apply UInt64.toNat_inj.1
  rw [UInt64.toNat_ofNat', UInt64.toNat_mod]
  exact Nat.mod_eq_of_lt (Nat.lt_of_le_of_lt (Nat.mod_le _ _) a.toNat_lt)
theorem bv_u64 : BitVec.ofInt (IntKind.bits .u64) (GI.toZ a) = a.toBitVec := by
  rw [toZ_u64]; apply BitVec.eq_of_toNat_eq; have := a.toNat_lt
  simp only [IntKind.bits, BitVec.toNat_ofInt, UInt64.toNat_toBitVec]; omega
theorem gand_u64 : gand a b = a &&& b := by
  simp only [gand, bv_u64, ofZ_u64_nat]; apply UInt64.toNat_inj.1; rw [UInt64.toNat_ofNat', UInt64.toNat_and]
  exact (Nat.mod_eq_of_lt (a.toBitVec &&& b.toBitVec).isLt).trans (BitVec.toNat_and _ _)
theorem gor_u64 : gor a b = a ||| b := by
  simp only [gor, bv_u64, ofZ_u64_nat]; apply UInt64.toNat_inj.1; rw [UInt64.toNat_ofNat', UInt64.toNat_or]
  exact (Nat.mod_eq_of_lt (a.toBitVec ||| b.toBitVec).isLt).trans (BitVec.toNat_or _ _)
theorem gxor_u64 : gxor a b = a ^^^ b := by
  simp only [gxor, bv_u64, ofZ_u64_nat]; apply UInt64.toNat_inj.1; rw [UInt64.toNat_ofNat', UInt64.toNat_xor]
  exact (Nat.mod_eq_of_lt (a.toBitVec ^^^ b.toBitVec).isLt).trans (BitVec.toNat_xor _ _)
theorem gshl_u64 (n : Nat) : (gshl a n).toNat = a.toNat * 2 ^ n % 18446744073709551616 := by
  have h : (a.toNat : Int) * 2 ^ min n (IntKind.bits .u64) = ((a.toNat * 2 ^ min n 64 : Nat) : Int) := by simp [IntKind.bits]
  simp only [gshl, toZ_u64, h, ofZ_u64_nat, UInt64.toNat_ofNat']
  show a.toNat * 2 ^ min n 64 % 18446744073709551616 = _
  rcases Nat.le_total n 64 with h | h
  · rw [Nat.min_eq_left h]
  · rw [Nat.min_eq_right h]
    obtain ⟨d, rfl⟩ := Nat.exists_eq_add_of_le h
    rw [Nat.pow_add, ← Nat.mul_assoc, Nat.mul_right_comm, Nat.mul_mod_left, Nat.mul_mod_left]
theorem gshr_u64 (n : Nat) : (gshr a n).toNat = a.toNat / 2 ^ n := by
  have h : (a.toNat : Int).fdiv (2 ^ min n (IntKind.bits .u64)) = ((a.toNat / 2 ^ min n 64 : Nat) : Int) := by
    rw [Int.fdiv_eq_ediv_of_nonneg _ (Int.le_of_lt (Int.pow_pos (by decide)))]; simp [IntKind.bits]
  have hlt := a.toNat_lt
  have hle := Nat.div_le_self a.toNat (2 ^ min n 64)
  simp only [gshr, toZ_u64, h, ofZ_u64_nat, UInt64.toNat_ofNat']
  show a.toNat / 2 ^ min n 64 % 18446744073709551616 = _
  rw [Nat.mod_eq_of_lt (by omega)]
  rcases Nat.le_total n 64 with h | h
  · rw [Nat.min_eq_left h]
  · rw [Nat.min_eq_right h]
    rw [Nat.div_eq_of_lt (by omega), Nat.div_eq_of_lt]
    exact Nat.lt_of_lt_of_le hlt (Nat.pow_le_pow_right (by decide) h)
theorem geq_u64 : geq a b = (a == b) := by
  rw [Bool.eq_iff_iff]; simp [geq, toZ_u64, Int.natCast_inj, UInt64.toNat_inj]
theorem gne_u64 : gne a b = (a != b) := by
  rw [Bool.eq_iff_iff]; simp [gne, toZ_u64, Int.natCast_inj, UInt64.toNat_inj]
theorem glt_u64 : glt a b = decide (a.toNat < b.toNat) := by simp [glt, toZ_u64]
theorem gle_u64 : gle a b = decide (a.toNat ≤ b.toNat) := by simp [gle, toZ_u64]
theorem ggt_u64 : ggt a b = decide (b.toNat < a.toNat) := by simp [ggt, toZ_u64]
theorem gge_u64 : gge a b = decide (b.toNat ≤ a.toNat) := by simp [gge, toZ_u64]
theorem gconv_u64 : (gconv a : Int) = wrap64 (a.toNat : Int) := rfl
theorem gconv_i_u64 (n : Int) : (gconv n : UInt64) = UInt64.ofNat (n % 18446744073709551616).toNat := rfl
end

section
variable (a b : Int)
theorem gadd_i : gadd a b = wrap64 (a + b) := rfl
theorem gsub_i : gsub a b = wrap64 (a - b) := rfl
theorem gmul_i : gmul a b = wrap64 (a * b) := rfl
theorem gquo_i : gquo a b = wrap64 (a.tdiv b) := rfl
theorem gneg_i : gneg a = wrap64 (0 - a) := rfl
theorem geq_i : geq a b = (a == b) := rfl
theorem gne_i : gne a b = (a != b) := rfl
theorem glt_i : glt a b = decide (a < b) := rfl
theorem gle_i : gle a b = decide (a ≤ b) := rfl
theorem ggt_i : ggt a b = decide (a > b) := rfl
theorem gge_i : gge a b = decide (a ≥ b) := rfl
theorem gmin_i : gmin a b = min a b := by unfold gmin; show (if b < a then b else a) = _; omega
theorem gmax_i : gmax a b = max a b := by unfold gmax; show (if b > a then b else a) = _; omega
theorem gconv_ii : (gconv a : Int) = wrap64 a := rfl
end
end Go.Lv
