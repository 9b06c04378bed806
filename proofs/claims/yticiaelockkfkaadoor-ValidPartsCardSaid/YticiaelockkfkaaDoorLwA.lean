/- A part of the proof of a statement of this seat (see the text that ends in Proof): LwBase, LwLe, LwCrc, LwId, LwApe, LwStrip, LwLen, LwHead, LwSeek, LwParts. No conditions of its own. -/
import Derived.Test.YticiaelockkfkaaDoorLvAll
import Derived.Test.YticiaelockkfkaaDoorDPure
set_option linter.unusedVariables false
set_option linter.unusedSimpArgs false
namespace Go.Lv
/-! ### plain steps, where nothing overflows -/
theorem gadd_n {a b : Int} (h : -9223372036854775808 ≤ a + b) (h' : a + b ≤ 9223372036854775807) : gadd a b = a + b := by rw [gadd_i, wrap64_id h h']
theorem gsub_n {a b : Int} (h : -9223372036854775808 ≤ a - b) (h' : a - b ≤ 9223372036854775807) : gsub a b = a - b := by rw [gsub_i, wrap64_id h h']
theorem gmul_n {a b : Int} (h : -9223372036854775808 ≤ a * b) (h' : a * b ≤ 9223372036854775807) : gmul a b = a * b := by rw [gmul_i, wrap64_id h h']
theorem gconv_u8i (c : UInt8) : (gconv c : Int) = (c.toNat : Int) := by rw [gconv_u8, wrap64_id] <;> have := c.toNat_lt <;> omega
theorem gconv_u32i (c : UInt32) : (gconv c : Int) = (c.toNat : Int) := by rw [gconv_u32, wrap64_id] <;> have := c.toNat_lt <;> omega
theorem gconv_8_64 (c : UInt8) : (gconv c : UInt64) = UInt64.ofNat c.toNat := by simp only [gconv, toZ_u8, ofZ_u64_nat]
theorem gconv_32_64 (c : UInt32) : (gconv c : UInt64) = UInt64.ofNat c.toNat := by simp only [gconv, toZ_u32, ofZ_u64_nat]
theorem gconv_64_8 (c : UInt64) : (gconv c : UInt8) = UInt8.ofNat c.toNat := by simp only [gconv, toZ_u64, ofZ_u8_nat]
theorem gconv_32_8 (c : UInt32) : (gconv c : UInt8) = UInt8.ofNat c.toNat := by simp only [gconv, toZ_u32, ofZ_u8_nat]
theorem gconv_n64 (n : Nat) : (gconv (n : Int) : UInt64) = UInt64.ofNat n := by simp only [gconv]; exact ofZ_u64_nat n
theorem gconv_n32 (n : Nat) : (gconv (n : Int) : UInt32) = UInt32.ofNat n := by simp only [gconv]; exact ofZ_u32_nat n
theorem gconv_n8 (n : Nat) : (gconv (n : Int) : UInt8) = UInt8.ofNat n := by simp only [gconv]; exact ofZ_u8_nat n
theorem gconv_64i {c : UInt64} (h : c.toNat < 9223372036854775808) : (gconv c : Int) = (c.toNat : Int) := by rw [gconv_u64, wrap64_id] <;> omega
theorem LIM_val : LIM = 17179869184 := by decide
theorem FUEL_gt : 36893488147419103231 < FUEL := by decide
theorem getI_n {α : Type} {l : List α} {n : Nat} (h : n < l.length) : getI l (n : Int) = some l[n] := by simp [getI, h]
theorem getI_z {α : Type} {l : List α} {i : Int} (h : 0 ≤ i) (h' : i < l.length) : getI l i = some (l[i.toNat]'(by omega)) := by
  obtain ⟨n, rfl⟩ := Int.eq_ofNat_of_zero_le h
  simpa using getI_n (by omega)
theorem setI_n {α : Type} {l : List α} {n : Nat} (x : α) (h : n < l.length) : setI l (n : Int) x = some (l.set n x) := by simp [setI, h]
theorem cutI_n {α : Type} {l : List α} {a b : Int} (h : 0 ≤ a) (h1 : a ≤ b) (h2 : b ≤ l.length) : cutI l a b = some ((l.take b.toNat).drop a.toNat) := by rw [cutI, if_pos ⟨h, h1, h2⟩]
theorem cutI_from {α : Type} {l : List α} {a : Int} (h : 0 ≤ a) (h1 : a ≤ l.length) : cutI l a (lenI l) = some (l.drop a.toNat) := by
  unfold lenI; rw [cutI_n h h1 (Int.le_refl _), Int.toNat_natCast, List.take_length]
theorem cutI_to {α : Type} {l : List α} {b : Int} (h : 0 ≤ b) (h1 : b ≤ l.length) : cutI l 0 b = some (l.take b.toNat) := by rw [cutI_n (Int.le_refl _) h h1]; rfl
theorem appI_n {α : Type} {l m : List α} (h : l.length + m.length ≤ 17179869184) : appI l m = some (l ++ m) := by rw [appI, LIM_val, if_pos h]
theorem mkI_n {α : Type} {n : Int} {z : α} (h : 0 ≤ n) (h' : n ≤ 17179869184) : mkI n z = some (List.replicate n.toNat z) := by rw [mkI, LIM_val, if_pos ⟨h, h'⟩]
theorem okI_t : okI true = some () := rfl
theorem okI_of {b : Bool} (h : b = true) : okI b = some () := by rw [h]; rfl
theorem bind_s {α β : Type} (a : α) (f : α → Option β) : Option.bind (some a) f = f a := rfl
theorem take_drop_len {α : Type} (l : List α) (a b : Nat) (h : b ≤ l.length) : ((l.take b).drop a).length = b - a := by simp; omega
theorem drop_cons {α : Type} {l : List α} {n : Nat} (h : n < l.length) : l.drop n = l[n] :: l.drop (n + 1) := List.drop_eq_getElem_cons h
theorem take_snoc {α : Type} {l : List α} {n : Nat} (h : n < l.length) : l.take (n + 1) = l.take n ++ [l[n]] := by rw [List.take_add_one, List.getElem?_eq_getElem h]; rfl

/-! ### numbers of bytes, the lowest first -/
def leN : List UInt8 → Nat
  | [] => 0
  | x :: r => x.toNat + 256 * leN r
theorem leN_lt : ∀ l : List UInt8, leN l < 256 ^ l.length
  | [] => by simp [leN]
  | x :: r => by
    have h := leN_lt r
    have := x.toNat_lt
    simp only [leN, List.length_cons, Nat.pow_succ]
    omega
theorem leN_append : ∀ l m : List UInt8, leN (l ++ m) = leN l + 256 ^ l.length * leN m
  | [], m => by simp [leN]
  | x :: r, m => by
    simp only [leN, List.cons_append, leN_append r m, List.length_cons, Nat.pow_succ, Nat.mul_add]
    rw [Nat.mul_comm (256 ^ r.length) 256, Nat.mul_assoc]; omega
def leU (l : List UInt8) : UInt64 := UInt64.ofNat (leN l)
theorem leN_lt8 {l : List UInt8} (h : l.length ≤ 8) : leN l < 18446744073709551616 := by
  have h1 := leN_lt l
  have h2 : 256 ^ l.length ≤ 256 ^ 8 := Nat.pow_le_pow_right (by omega) h
  exact Nat.lt_of_lt_of_le h1 (by simpa using h2)
theorem leN_lt4 {l : List UInt8} (h : l.length ≤ 4) : leN l < 4294967296 := by
  have h1 := leN_lt l
  have h2 : 256 ^ l.length ≤ 256 ^ 4 := Nat.pow_le_pow_right (by omega) h
  exact Nat.lt_of_lt_of_le h1 (by simpa using h2)
theorem leU_nat {l : List UInt8} (h : l.length ≤ 8) : (leU l).toNat = leN l := by
  rw [leU, UInt64.toNat_ofNat', Nat.mod_eq_of_lt (leN_lt8 h)]
theorem leU_int {l : List UInt8} (h : l.length ≤ 4) : (gconv (leU l) : Int) = (leN l : Int) := by
  have := leN_lt4 h
  rw [gconv_64i] <;> rw [leU_nat (by omega)]; omega
/-- The bytes of a number. -/
def leB (n : Nat) : Nat → List UInt8
  | 0 => []
  | w + 1 => UInt8.ofNat n :: leB (n / 256) w
theorem leB_len : ∀ (w n : Nat), (leB n w).length = w
  | 0, _ => rfl
  | w + 1, n => by simp [leB, leB_len w]
theorem leB_snoc : ∀ (w n : Nat), leB n (w + 1) = leB n w ++ [UInt8.ofNat (n / 256 ^ w)]
  | 0, n => by simp [leB]
  | w + 1, n => by
    rw [leB, leB_snoc w (n / 256), leB]
    simp [Nat.div_div_eq_div_mul, Nat.pow_succ, Nat.mul_comm]
end Go.Lv

set_option linter.unusedVariables false
set_option linter.unusedSimpArgs false
namespace Go.Pl
open Go Go.Lv
/-! ### numbers of bytes -/
theorem ofLoop (b : List UInt8) (hb : b.length < 4611686018427387904) : ∀ (j q : Nat), j ≤ b.length → j < q → cadenzaref01_Of_l4 b q (leU (b.drop j)) ((j : Int) - 1) = some (leU b)
  | 0, q + 1, _, _ => by
    rw [cadenzaref01_Of_l4, cadenzaref01_Of_s4, if_neg (by rw [gge_i]; simp)]
    simp [cadenzaref01_Of_p6, cadenzaref01_Of_s6]
  | j + 1, q + 1, hj, hq => by
    rw [cadenzaref01_Of_l4, cadenzaref01_Of_s4, if_pos (by rw [gge_i]; simp), show ((j + 1 : Nat) : Int) - 1 = (j : Int) by omega, getI_n (by omega), bind_s, gsub_n (by omega) (by omega)]
    have h : gadd (gmul (256 : UInt64) (leU (b.drop (j + 1)))) (gconv b[j] : UInt64) = leU (b.drop j) := by
      rw [gadd_u64, gmul_u64, gconv_8_64, drop_cons (n := j) (by omega), leU, leU, leN, UInt64.ofNat_add, UInt64.ofNat_mul]
      exact UInt64.add_comm _ _
    rw [h]
    exact ofLoop b hb j q (by omega) (by omega)
theorem Of_eq (b : List UInt8) (hb : b.length < 4611686018427387904) : cadenzaref01_Of b = some (leU b) := by
  have h := ofLoop b hb b.length FUEL (Nat.le_refl _) (by have := FUEL_gt; omega)
  rw [cadenzaref01_Of, cadenzaref01_Of_s0, cadenzaref01_Of_p4]
  have e : gsub (lenI b) 1 = (b.length : Int) - 1 := gsub_n (by unfold lenI; omega) (by unfold lenI; omega)
  rw [e, ← h, List.drop_length]; rfl
theorem or_shl {n c : UInt64} {i : Nat} (hn : n.toNat < 2 ^ i) (hc : c.toNat * 2 ^ i < 18446744073709551616) : gor n (gshl c i) = UInt64.ofNat (n.toNat + c.toNat * 2 ^ i) := by
  rw [gor_u64]; apply UInt64.toNat_inj.1
  rw [UInt64.toNat_or, gshl_u64, Nat.mod_eq_of_lt hc, Nat.mul_comm, Nat.or_comm, ← Nat.two_pow_add_eq_or_of_lt hn, UInt64.toNat_ofNat', Nat.mod_eq_of_lt, Nat.add_comm, Nat.mul_comm]
  have h := Nat.two_pow_add_eq_or_of_lt hn c.toNat
  have h2 : 2 ^ i * c.toNat + n.toNat < 2 ^ 64 := by
    rw [h]
    exact Nat.or_lt_two_pow (by rw [Nat.mul_comm]; simpa using hc) n.toNat_lt
  rw [Nat.add_comm]; first | exact h2 | (rw [Nat.mul_comm]; exact h2)
theorem valueLoop (b : List UInt8) (hb : b.length ≤ 8) : ∀ (j i q : Nat), i + j = b.length → j < q → le_Value_l4 b q (leU (b.take i)) (i : Int) = some (leU b, 0)
  | 0, i, q + 1, hi, _ => by
    rw [le_Value_l4, le_Value_s4, if_neg (by rw [glt_i, lenI]; simp; omega), show i = b.length by omega, List.take_length]; rfl
  | j + 1, i, q + 1, hi, hq => by
    have hlt : i < b.length := by omega
    rw [le_Value_l4, le_Value_s4, if_pos (by rw [glt_i, lenI]; simp; omega), getI_n hlt, bind_s, gmul_n (by omega) (by omega), okI_of (by rw [gge_i]; simp; omega), bind_s, gadd_n (by omega) (by omega)]
    have h : gor (leU (b.take i)) (gshl (gconv b[i] : UInt64) (GI.toZ ((8 : Int) * (i : Int))).toNat) = leU (b.take (i + 1)) := by
      have e : (GI.toZ ((8 : Int) * (i : Int))).toNat = 8 * i := by show ((8 : Int) * (i : Int)).toNat = _; omega
      have e2 : (2 : Nat) ^ (8 * i) = 256 ^ i := by rw [Nat.pow_mul]
      have h1 := leN_lt (b.take i)
      rw [List.length_take, Nat.min_eq_left (by omega)] at h1
      have h3 := b[i].toNat_lt
      have hle : (256 : Nat) ^ (i + 1) ≤ 256 ^ 8 := Nat.pow_le_pow_right (by omega) (by omega)
      rw [Nat.pow_succ] at hle
      have h4 : (gconv b[i] : UInt64).toNat = b[i].toNat := by rw [gconv_8_64, UInt64.toNat_ofNat']; omega
      have h5 : b[i].toNat * 256 ^ i < 18446744073709551616 := by
        have : b[i].toNat * 256 ^ i < 256 * 256 ^ i := Nat.mul_lt_mul_of_pos_right (by simpa using h3) (Nat.pow_pos (by omega))
        simp at hle; omega
      rw [e, or_shl (by rw [leU_nat (by simp; omega), e2]; exact h1) (by rw [h4, e2]; exact h5), leU_nat (by simp; omega), h4, e2, take_snoc hlt]
      rw [leU, leN_append]
      simp only [leN, List.length_take, Nat.min_eq_left (Nat.le_of_lt hlt), Nat.mul_zero, Nat.add_zero]
      rw [Nat.mul_comm]
    rw [h]
    exact valueLoop b hb j (i + 1) q (by omega) (by omega)
theorem Value_eq (b : List UInt8) (h1 : 1 ≤ b.length) (h2 : b.length ≤ 8) : le_Value b = some (leU b, 0) := by
  have h := valueLoop b h2 b.length 0 FUEL (by omega) (by have := FUEL_gt; omega)
  rw [le_Value, le_Value_s0, if_neg (by simp [glt_i, ggt_i, lenI]; omega), le_Value_p4]
  exact h
/-- w bytes from an index on. -/
def part (b : List UInt8) (at' w : Nat) : List UInt8 := (b.take (at' + w)).drop at'
theorem part_len {b : List UInt8} {a w : Nat} (h : a + w ≤ b.length) : (part b a w).length = w := by simp [part]; omega
theorem At_eq (b : List UInt8) (a w : Nat) (h1 : 1 ≤ w) (h2 : w ≤ 8) (h3 : a + w ≤ b.length) (hb : b.length < 4611686018427387904) : le_At b (a : Int) (w : Int) = some (leU (part b a w), 0) := by
  rw [le_At, if_neg (by simp [glt_i, ggt_i]; omega), if_neg (by rw [ggt_i, gsub_n (by unfold lenI; omega) (by unfold lenI; omega), lenI]; simp; omega), gadd_n (by omega) (by omega), cutI_n (by omega) (by omega) (by omega), bind_s]
  rw [show ((a : Int) + (w : Int)).toNat = a + w by omega, show (a : Int).toNat = a by omega]
  rw [Value_eq _ (by rw [show ((b.take (a + w)).drop a).length = _ from part_len h3]; exact h1) (by rw [show ((b.take (a + w)).drop a).length = _ from part_len h3]; exact h2), bind_s]; rfl
theorem writtenLoop (w : Nat) (hw : w ≤ 1000) : ∀ (j i q : Nat) (n : UInt64) (acc : List UInt8), i + j = w → j < q → acc.length + j ≤ 1000000 → cadenzaref01_Written_l4 (w : Int) q n (i : Int) acc = some (acc ++ leB n.toNat j)
  | 0, i, q + 1, n, acc, hi, _, _ => by
    rw [cadenzaref01_Written_l4, cadenzaref01_Written_s4, if_neg (by rw [glt_i]; simp; omega)]
    simp [cadenzaref01_Written_p6, cadenzaref01_Written_s6, leB]
  | j + 1, i, q + 1, n, acc, hi, hq, ha => by
    rw [cadenzaref01_Written_l4, cadenzaref01_Written_s4, if_pos (by rw [glt_i]; simp; omega)]
    have e : (gconv (grem n (256 : UInt64)) : UInt8) = UInt8.ofNat n.toNat := by
      rw [gconv_64_8, grem_u64]; apply UInt8.toNat_inj.1
      rw [UInt8.toNat_ofNat', UInt8.toNat_ofNat', UInt64.toNat_mod]
      show n.toNat % 256 % 256 = _
      omega
    have e2 : (gquo n (256 : UInt64)).toNat = n.toNat / 256 := by rw [gquo_u64, UInt64.toNat_div]; rfl
    rw [appI_n (by simp; omega), bind_s, gadd_n (by omega) (by omega), e]
    have h := writtenLoop w hw j (i + 1) q (gquo n 256) (acc ++ [UInt8.ofNat n.toNat]) (by omega) (by omega) (by simp; omega)
    rw [e2] at h
    rw [show ((i : Int) + 1) = ((i + 1 : Nat) : Int) by omega, h, leB]; simp
theorem Written_eq (n : UInt64) (w : Nat) (hw : w ≤ 1000) : cadenzaref01_Written n (w : Int) = some (leB n.toNat w) := by
  rw [cadenzaref01_Written, cadenzaref01_Written_s0, cadenzaref01_Written_p4]
  have h := writtenLoop w hw w 0 FUEL n [] (by omega) (by have := FUEL_gt; omega) (by simp; omega)
  simpa using h
theorem set_mid {α : Type} {l m : List α} {x y : α} {i : Nat} (h : l.length = i) : (l ++ x :: m).set i y = l ++ y :: m := by subst h; simp
theorem bytesLoop (n : UInt64) (l4 : List UInt8) (w : Nat) (hl : l4.length = w) (hw : w ≤ 8) : ∀ (j i q : Nat), i + j = w → j < q → le_Bytes_l4 n l4 q (i : Int) (leB n.toNat i ++ List.replicate j 0) = some (leB n.toNat w, 0)
  | 0, i, q + 1, hi, _ => by
    rw [le_Bytes_l4, le_Bytes_s4, if_neg (by rw [glt_i, lenI]; simp; omega)]
    obtain rfl : i = w := by omega
    simp [le_Bytes_p6, le_Bytes_s6]
  | j + 1, i, q + 1, hi, hq => by
    have hlen : (leB n.toNat i ++ List.replicate (j + 1) 0).length = i + (j + 1) := by simp [leB_len]
    rw [le_Bytes_l4, le_Bytes_s4, if_pos (by rw [glt_i, lenI]; simp; omega), gmul_n (by omega) (by omega), okI_of (by rw [gge_i]; simp; omega), bind_s, getI_n (by rw [hlen]; omega), bind_s, setI_n _ (by rw [hlen]; omega), bind_s, gadd_n (by omega) (by omega)]
    have e : (gconv (gshr n (GI.toZ ((8 : Int) * (i : Int))).toNat) : UInt8) = UInt8.ofNat (n.toNat / 256 ^ i) := by
      have e : (GI.toZ ((8 : Int) * (i : Int))).toNat = 8 * i := by show ((8 : Int) * (i : Int)).toNat = _; omega
      rw [e, gconv_64_8, gshr_u64, Nat.pow_mul]
    rw [e, List.replicate_succ, set_mid (leB_len _ _)]
    have h := bytesLoop n l4 w hl hw j (i + 1) q (by omega) (by omega)
    rw [leB_snoc] at h
    simpa using h
theorem fits_eq (n : UInt64) (w : Nat) (h1 : 1 ≤ w) (h2 : w ≤ 8) (h : n.toNat < 256 ^ w) : le_fits n (w : Int) = some true := by
  rw [le_fits]
  by_cases h8 : w = 8
  · subst h8; rw [if_pos (by rw [geq_i]; rfl)]
  · rw [if_neg (by rw [geq_i]; simp; omega), gmul_n (by omega) (by omega), okI_of (by rw [gge_i]; simp; omega), bind_s]
    have e : (GI.toZ ((8 : Int) * (w : Int))).toNat = 8 * w := by show ((8 : Int) * (w : Int)).toNat = _; omega
    rw [e, geq_u64]
    have : gshr n (8 * w) = 0 := by
      apply UInt64.toNat_inj.1
      rw [gshr_u64, Nat.pow_mul]
      exact Nat.div_eq_of_lt h
    rw [this]; rfl
theorem Bytes_eq (n : UInt64) (w : Nat) (h1 : 1 ≤ w) (h2 : w ≤ 8) (h : n.toNat < 256 ^ w) : le_Bytes n (w : Int) = some (leB n.toNat w, 0) := by
  rw [le_Bytes, le_Bytes_s0, if_neg (by simp [glt_i, ggt_i]; omega), fits_eq n w h1 h2 h, bind_s, if_neg (by simp), mkI_n (by omega) (by omega), bind_s, okI_of (by rw [geq_i]; simp), bind_s, le_Bytes_p4]
  have h := bytesLoop n (List.replicate (w : Int).toNat 0) w (by simp) h2 w 0 FUEL (by omega) (by have := FUEL_gt; omega)
  simpa [leB] using h
end Go.Pl

set_option linter.unusedVariables false
set_option linter.unusedSimpArgs false
namespace Go.Pl
open Go Go.Lv
/-! ### the sum of 32 bits -/
def stepN (s : Nat) : Nat := (s / 2) ^^^ (if s % 2 = 1 then 3988292384 else 0)
theorem stepN_lt {s : Nat} (h : s < 4294967296) : stepN s < 4294967296 := by
  unfold stepN
  exact Nat.xor_lt_two_pow (n := 32) (by simp; omega) (by split <;> decide)
theorem xor_half (x y : Nat) : (x ^^^ y) / 2 = (x / 2) ^^^ (y / 2) := by
  have := Nat.shiftRight_xor_distrib (a := x) (b := y) (i := 1)
  simpa [Nat.shiftRight_eq_div_pow] using this
theorem stepN_xor (x y : Nat) : stepN (x ^^^ y) = stepN x ^^^ stepN y := by
  have h : (x ^^^ y) % 2 = (x % 2 + y % 2) % 2 := by
    have := Nat.xor_mod_two_eq_one (a := x) (b := y)
    have h1 : (x ^^^ y) % 2 < 2 := Nat.mod_lt _ (by omega)
    omega
  simp only [stepN, xor_half, h]
  have hx : x % 2 = 0 ∨ x % 2 = 1 := by omega
  have hy : y % 2 = 0 ∨ y % 2 = 1 := by omega
  rcases hx with hx | hx <;> rcases hy with hy | hy <;> simp only [hx, hy] <;> simp
  · rw [Nat.xor_assoc]
  · rw [Nat.xor_assoc, Nat.xor_comm (y / 2), Nat.xor_assoc, Nat.xor_comm 3988292384 (y/2)]
  · rw [Nat.xor_assoc, Nat.xor_comm 3988292384, Nat.xor_assoc, Nat.xor_self]; simp
def iterN : Nat → Nat → Nat
  | 0, s => s
  | k + 1, s => iterN k (stepN s)
theorem iterN_xor : ∀ (k x y : Nat), iterN k (x ^^^ y) = iterN k x ^^^ iterN k y
  | 0, _, _ => rfl
  | k + 1, x, y => by rw [iterN, stepN_xor, iterN_xor k]; rfl
theorem iterN_two : ∀ (k h : Nat), iterN k (2 ^ k * h) = h
  | 0, h => by simp [iterN]
  | k + 1, h => by
    have : stepN (2 ^ (k + 1) * h) = 2 ^ k * h := by
      rw [Nat.pow_succ, Nat.mul_comm (2 ^ k) 2, Nat.mul_assoc, stepN, if_neg (by omega), Nat.mul_div_cancel_left _ (by omega)]; simp
    rw [iterN, this, iterN_two k]
theorem iterN_lt : ∀ (k : Nat) {s : Nat}, s < 4294967296 → iterN k s < 4294967296
  | 0, _, h => h
  | k + 1, _, h => iterN_lt k (stepN_lt h)
theorem iterN_snoc : ∀ (k s : Nat), iterN (k + 1) s = stepN (iterN k s)
  | 0, _ => rfl
  | k + 1, s => by rw [iterN, iterN_snoc k, ← iterN]
/-- The state behind a byte. -/
def byteN (s c : Nat) : Nat := iterN 8 (s ^^^ c)
theorem byteN_lt {s c : Nat} (h : s < 4294967296) (hc : c < 256) : byteN s c < 4294967296 := iterN_lt 8 (Nat.xor_lt_two_pow (n := 32) (by simpa using h) (by simp; omega))
/-- By the table. -/
theorem byteN_table {s c : Nat} (hc : c < 256) : byteN s c = (s / 256) ^^^ iterN 8 ((s % 256) ^^^ c) := by
  have h : s = (2 ^ 8 * (s / 256)) ^^^ (s % 256) := by
    have h1 : s % 256 < 2 ^ 8 := by simpa using Nat.mod_lt s (by omega : 256 > 0)
    have := Nat.two_pow_add_eq_or_of_lt h1 (s / 256)
    have h2 : 2 ^ 8 * (s / 256) ||| s % 256 = (2 ^ 8 * (s / 256)) ^^^ (s % 256) := by
      apply Nat.eq_of_testBit_eq; intro i
      rw [Nat.testBit_or, Nat.testBit_xor]
      by_cases hi : i < 8
      · have : (2 ^ 8 * (s / 256)).testBit i = false := by rw [Nat.testBit_two_pow_mul]; simp; omega
        rw [this]; simp
      · have : (s % 256).testBit i = false := Nat.testBit_lt_two_pow (Nat.lt_of_lt_of_le h1 (Nat.pow_le_pow_right (by omega) (by omega)))
        rw [this]; simp
    omega
  rw [byteN]
  conv => lhs; rw [h]
  rw [Nat.xor_assoc, iterN_xor, iterN_two]
def crcN (s : Nat) (l : List UInt8) : Nat := l.foldl (fun s c => byteN s c.toNat) s
theorem crcN_lt : ∀ {l : List UInt8} {s : Nat}, s < 4294967296 → crcN s l < 4294967296
  | [], _, h => h
  | c :: l, _, h => crcN_lt (l := l) (byteN_lt h c.toNat_lt)
def crcOf (b : List UInt8) : UInt32 := 4294967295 - UInt32.ofNat (crcN 4294967295 b)
/-! the reference -/
theorem refStep (s : UInt32) (c : Nat) (hc : c < 256) : cadenzaref03_Step s (gconv (grem (UInt8.ofNat c) (2 : UInt8)) : Int) = some (UInt32.ofNat (s.toNat / 2 ^^^ (if (s.toNat ^^^ c) % 2 = 1 then 3988292384 else 0))) := by
  have h1 : (gconv (grem (UInt8.ofNat c) (2 : UInt8)) : Int) = ((c % 2 : Nat) : Int) := by
    rw [gconv_u8i, grem_u8, UInt8.toNat_mod, UInt8.toNat_ofNat']
    show ((c % 256 % 2 : Nat) : Int) = _
    omega
  have h2 : geq (grem s (2 : UInt32)) (1 : UInt32) = decide (s.toNat % 2 = 1) := by
    rw [geq_u32, grem_u32, Bool.eq_iff_iff]
    simp only [beq_iff_eq, decide_eq_true_eq]
    rw [← UInt32.toNat_inj, UInt32.toNat_mod]; rfl
  have h3 : gquo s (2 : UInt32) = UInt32.ofNat (s.toNat / 2) := by
    apply UInt32.toNat_inj.1
    rw [gquo_u32, UInt32.toNat_div, UInt32.toNat_ofNat']
    show s.toNat / 2 = _
    have := s.toNat_lt
    omega
  have h4 : gxor (gquo s (2 : UInt32)) (3988292384 : UInt32) = UInt32.ofNat (s.toNat / 2 ^^^ 3988292384) := by
    apply UInt32.toNat_inj.1
    rw [h3, gxor_u32, UInt32.toNat_xor, UInt32.toNat_ofNat', UInt32.toNat_ofNat']
    have := s.toNat_lt
    rw [Nat.mod_eq_of_lt (a := s.toNat / 2) (by omega), Nat.mod_eq_of_lt]
    · rfl
    · exact Nat.xor_lt_two_pow (n := 32) (by omega) (by decide)
  have hx : (s.toNat ^^^ c) % 2 = (s.toNat % 2 + c % 2) % 2 := by
    have := Nat.xor_mod_two_eq_one (a := s.toNat) (b := c)
    have h1 : (s.toNat ^^^ c) % 2 < 2 := Nat.mod_lt _ (by omega)
    omega
  have hs : s.toNat % 2 = 0 ∨ s.toNat % 2 = 1 := by omega
  have hc2 : c % 2 = 0 ∨ c % 2 = 1 := by omega
  rw [cadenzaref03_Step, cadenzaref03_Step_s0, h1, h2, hx]
  rcases hs with hs | hs <;> rcases hc2 with hc2 | hc2 <;> simp [hs, hc2, geq_i, cadenzaref03_Step_p2, cadenzaref03_Step_s2, gxor_u32, h3]
theorem refByteLoop : ∀ (j i q : Nat) (s : UInt32) (c : Nat), i + j = 8 → j < q → c < 2 ^ j → cadenzaref03_Byte_l4 q s (UInt8.ofNat c) (i : Int) = some (UInt32.ofNat (iterN j (s.toNat ^^^ c)))
  | 0, i, q + 1, s, c, hi, _, hc => by
    obtain rfl : i = 8 := by omega
    obtain rfl : c = 0 := by simpa using hc
    rw [cadenzaref03_Byte_l4, cadenzaref03_Byte_s4, if_neg (by rw [glt_i]; simp), cadenzaref03_Byte_p6, cadenzaref03_Byte_s6, iterN]
    simp
  | j + 1, i, q + 1, s, c, hi, hq, hc => by
    have hc8 : c < 256 := Nat.lt_of_lt_of_le hc (show 2 ^ (j + 1) ≤ 2 ^ 8 from Nat.pow_le_pow_right (by omega) (by omega))
    rw [cadenzaref03_Byte_l4, cadenzaref03_Byte_s4, if_pos (by rw [glt_i]; simp; omega), refStep s c hc8, bind_s, gadd_n (by omega) (by omega)]
    have e : gquo (UInt8.ofNat c) (2 : UInt8) = UInt8.ofNat (c / 2) := by
      apply UInt8.toNat_inj.1
      rw [gquo_u8, UInt8.toNat_div, UInt8.toNat_ofNat', UInt8.toNat_ofNat']
      show c % 256 / 2 = _
      omega
    rw [e]
    have h := refByteLoop j (i + 1) q (UInt32.ofNat (s.toNat / 2 ^^^ (if (s.toNat ^^^ c) % 2 = 1 then 3988292384 else 0))) (c / 2) (by omega) (by omega) (by rw [Nat.pow_succ] at hc; omega)
    rw [show ((i : Int) + 1) = ((i + 1 : Nat) : Int) by omega, h, UInt32.toNat_ofNat', iterN]
    congr 3
    have := s.toNat_lt
    rw [Nat.mod_eq_of_lt, stepN, xor_half, Nat.xor_assoc, Nat.xor_assoc, Nat.xor_comm (c / 2)]
    exact Nat.xor_lt_two_pow (n := 32) (by omega) (by split <;> decide)
theorem refByte (s : UInt32) (c : UInt8) : cadenzaref03_Byte s c = some (UInt32.ofNat (byteN s.toNat c.toNat)) := by
  have h := refByteLoop 8 0 FUEL s c.toNat (by omega) (by have := FUEL_gt; omega) (by simpa using c.toNat_lt)
  rw [UInt8.ofNat_toNat] at h
  exact h
theorem refBehindLoop (b : List UInt8) (hb : b.length < 4611686018427387904) : ∀ (j i q : Nat) (s : UInt32), i + j = b.length → j < q → cadenzaref03_Behind_l4 b q s (i : Int) = some (UInt32.ofNat (crcN s.toNat (b.drop i)))
  | 0, i, q + 1, s, hi, _ => by
    rw [cadenzaref03_Behind_l4, cadenzaref03_Behind_s4, if_neg (by rw [glt_i, lenI]; simp; omega), show i = b.length by omega, List.drop_length]
    simp [cadenzaref03_Behind_p6, cadenzaref03_Behind_s6, crcN]
  | j + 1, i, q + 1, s, hi, hq => by
    have hlt : i < b.length := by omega
    rw [cadenzaref03_Behind_l4, cadenzaref03_Behind_s4, if_pos (by rw [glt_i, lenI]; simp; omega), getI_n hlt, bind_s, refByte, bind_s, gadd_n (by omega) (by omega)]
    have h := refBehindLoop b hb j (i + 1) q (UInt32.ofNat (byteN s.toNat b[i].toNat)) (by omega) (by omega)
    rw [show ((i : Int) + 1) = ((i + 1 : Nat) : Int) by omega, h, drop_cons hlt, UInt32.toNat_ofNat', Nat.mod_eq_of_lt (byteN_lt s.toNat_lt b[i].toNat_lt)]
    rfl
theorem refOf (b : List UInt8) (hb : b.length < 4611686018427387904) : cadenzaref03_Of b = some (crcOf b) := by
  have h := refBehindLoop b hb b.length 0 FUEL 4294967295 (by omega) (by have := FUEL_gt; omega)
  rw [cadenzaref03_Of, cadenzaref03_Behind, cadenzaref03_Behind_s0, cadenzaref03_Behind_p4, show ((0 : Int)) = ((0 : Nat) : Int) from rfl, h, bind_s, gsub_u32]; rfl
/-! the program -/
theorem tblStep (c : UInt32) : gxor (gshr c (GI.toZ (1 : UInt64)).toNat) (gmul (3988292384 : UInt32) (gand c (1 : UInt32))) = UInt32.ofNat (stepN c.toNat) := by
  apply UInt32.toNat_inj.1
  have e : (GI.toZ (1 : UInt64)).toNat = 1 := rfl
  have h1 : (gshr c 1).toNat = c.toNat / 2 := by rw [gshr_u32]
  have h2 : (gmul (3988292384 : UInt32) (gand c (1 : UInt32))).toNat = if c.toNat % 2 = 1 then 3988292384 else 0 := by
    rw [gmul_u32, gand_u32, UInt32.toNat_mul, UInt32.toNat_and]
    show 3988292384 * (c.toNat &&& 1) % 4294967296 = _
    rw [Nat.and_one_is_mod]
    have : c.toNat % 2 = 0 ∨ c.toNat % 2 = 1 := by omega
    rcases this with h | h <;> simp [h]
  rw [e, gxor_u32, UInt32.toNat_xor, h1, h2, UInt32.toNat_ofNat', Nat.mod_eq_of_lt (stepN_lt c.toNat_lt)]; rfl
theorem tblInner (bk16 : Int → List UInt32 → Option (UInt32 × Int)) (s : UInt32) (b : List UInt8) (x : Int) (t : List UInt32) : ∀ (j i q : Nat) (c : UInt32), i + j = 8 → j < q →
    crc32_Next_l21 bk16 s b x t q c (i : Int) = crc32_Next_p23 bk16 s b x (UInt32.ofNat (iterN j c.toNat)) t
  | 0, i, q + 1, c, hi, _ => by
    obtain rfl : i = 8 := by omega
    rw [crc32_Next_l21, crc32_Next_s21, if_neg (by rw [glt_i]; simp), iterN, UInt32.ofNat_toNat]
  | j + 1, i, q + 1, c, hi, hq => by
    rw [crc32_Next_l21, crc32_Next_s21, if_pos (by rw [glt_i]; simp; omega), tblStep, gadd_n (by omega) (by omega), show ((i : Int) + 1) = ((i + 1 : Nat) : Int) by omega, tblInner bk16 s b x t j (i + 1) q _ (by omega) (by omega), UInt32.toNat_ofNat', Nat.mod_eq_of_lt (stepN_lt c.toNat_lt)]; rfl
def tbl (n : Nat) : List UInt32 := (List.range n).map fun i => UInt32.ofNat (iterN 8 i)
theorem tblLoop (s : UInt32) (b : List UInt8) : ∀ (j i q : Nat), i + j = 256 → j < q → crc32_Next_l16 s b q (i : Int) (tbl i ++ List.replicate j 0) = crc32_Next_p26 s b (tbl 256)
  | 0, i, q + 1, hi, _ => by
    obtain rfl : i = 256 := by omega
    rw [crc32_Next_l16, crc32_Next_s16, if_neg (by rw [glt_i]; simp)]; simp
  | j + 1, i, q + 1, hi, hq => by
    have hlen : (tbl i ++ List.replicate (j + 1) 0).length = i + (j + 1) := by simp [tbl]
    rw [crc32_Next_l16, crc32_Next_s16, if_pos (by rw [glt_i]; simp; omega), crc32_Next_p21]
    have h := tblInner (crc32_Next_l16 s b q) s b (i : Int) (tbl i ++ List.replicate (j + 1) 0) 8 0 FUEL (gconv (i : Int)) (by omega) (by have := FUEL_gt; omega)
    rw [show ((0 : Int)) = ((0 : Nat) : Int) from rfl, h, crc32_Next_p23, crc32_Next_s23, getI_n (by rw [hlen]; omega), bind_s, setI_n _ (by rw [hlen]; omega), bind_s, crc32_Next_p24, crc32_Next_s24, gadd_n (by omega) (by omega)]
    have e : (gconv (i : Int) : UInt32).toNat = i := by rw [gconv_n32, UInt32.toNat_ofNat', Nat.mod_eq_of_lt (by omega)]
    rw [e, List.replicate_succ, set_mid (by simp [tbl])]
    have h2 := tblLoop s b j (i + 1) q (by omega) (by omega)
    have h3 : tbl (i + 1) = tbl i ++ [UInt32.ofNat (iterN 8 i)] := by simp [tbl, List.range_succ]
    rw [h3] at h2
    rw [show ((i : Int) + 1) = ((i + 1 : Nat) : Int) by omega, ← h2]
    simp
theorem tbl_get {i : Nat} (h : i < 256) : getI (tbl 256) (i : Int) = some (UInt32.ofNat (iterN 8 i)) := by
  rw [getI_n (by simpa [tbl] using h)]; simp [tbl]
theorem nextByte (s : UInt32) (c : UInt8) : getI (tbl 256) (GI.toZ (gxor (gconv s : UInt8) c)) = some (UInt32.ofNat (iterN 8 ((s.toNat % 256) ^^^ c.toNat))) := by
  have e : GI.toZ (gxor (gconv s : UInt8) c) = (((s.toNat % 256) ^^^ c.toNat : Nat) : Int) := by
    rw [toZ_u8, gxor_u8, UInt8.toNat_xor, gconv_32_8, UInt8.toNat_ofNat']
  rw [e, tbl_get]
  exact Nat.xor_lt_two_pow (n := 8) (by simp; omega) (by simpa using c.toNat_lt)
theorem nextState (s : UInt32) (c : UInt8) : gxor (gshr s (GI.toZ (8 : UInt64)).toNat) (UInt32.ofNat (iterN 8 ((s.toNat % 256) ^^^ c.toNat))) = UInt32.ofNat (byteN s.toNat c.toNat) := by
  apply UInt32.toNat_inj.1
  have hlt : iterN 8 ((s.toNat % 256) ^^^ c.toNat) < 4294967296 := iterN_lt 8 (Nat.xor_lt_two_pow (n := 32) (by simp; omega) (by have := c.toNat_lt; simp; omega))
  have e : (GI.toZ (8 : UInt64)).toNat = 8 := rfl
  rw [e, gxor_u32, UInt32.toNat_xor, gshr_u32, UInt32.toNat_ofNat', UInt32.toNat_ofNat', Nat.mod_eq_of_lt hlt, Nat.mod_eq_of_lt (byteN_lt s.toNat_lt c.toNat_lt), byteN_table c.toNat_lt]
theorem nextLoop (b : List UInt8) (hb : b.length < 4611686018427387904) : ∀ (j i q : Nat) (s : UInt32), i + j = b.length → j < q → crc32_Next_l28 b (tbl 256) q s (i : Int) = some (UInt32.ofNat (crcN s.toNat (b.drop i)), 0)
  | 0, i, q + 1, s, hi, _ => by
    rw [crc32_Next_l28, crc32_Next_s28, if_neg (by rw [glt_i, lenI]; simp; omega), show i = b.length by omega, List.drop_length]
    simp [crc32_Next_p30, crc32_Next_s30, crcN]
  | j + 1, i, q + 1, s, hi, hq => by
    have hlt : i < b.length := by omega
    rw [crc32_Next_l28, crc32_Next_s28, if_pos (by rw [glt_i, lenI]; simp; omega), getI_n hlt, bind_s, nextByte, bind_s, bind_s, nextState, gadd_n (by omega) (by omega)]
    have h := nextLoop b hb j (i + 1) q (UInt32.ofNat (byteN s.toNat b[i].toNat)) (by omega) (by omega)
    rw [show ((i : Int) + 1) = ((i + 1 : Nat) : Int) by omega, h, drop_cons hlt, UInt32.toNat_ofNat', Nat.mod_eq_of_lt (byteN_lt s.toNat_lt b[i].toNat_lt)]
    rfl
theorem Next_eq (s : UInt32) (b : List UInt8) (hb : b.length ≤ 100000) : crc32_Next s b = some (UInt32.ofNat (crcN s.toNat b), 0) := by
  have h := tblLoop s b 256 0 FUEL (by omega) (by have := FUEL_gt; omega)
  have h2 := nextLoop b (by omega) b.length 0 FUEL s (by omega) (by have := FUEL_gt; omega)
  rw [crc32_Next, crc32_Next_s0, if_neg (by rw [ggt_i, lenI]; simp; omega), crc32_Next_p16]
  refine Eq.trans h ?_
  rw [crc32_Next_p26, crc32_Next_s26, crc32_Next_p27, crc32_Next_s27, crc32_Next_p28]
  exact h2
theorem gnot_u32 (a : UInt32) : gnot a = 4294967295 - a := by
  have h := a.toNat_lt
  have e : gnot a = UInt32.ofNat (BitVec.ofInt 32 4294967295 ^^^ BitVec.ofInt 32 (a.toNat : Int)).toNat := ofZ_u32_nat _
  apply UInt32.toNat_inj.1
  rw [e, UInt32.toNat_ofNat', UInt32.toNat_sub_of_le _ _ (by rw [UInt32.le_iff_toNat_le]; show a.toNat ≤ 4294967295; omega)]
  have h1 : BitVec.ofInt 32 (a.toNat : Int) = a.toBitVec := bv_u32 a
  have h2 : (BitVec.ofInt 32 4294967295 : BitVec 32) = BitVec.allOnes 32 := by decide
  rw [h1, h2, BitVec.allOnes_xor, BitVec.toNat_not]
  show (4294967296 - 1 - a.toNat) % 4294967296 = 4294967295 - a.toNat
  omega
theorem Sum_eq (b : List UInt8) (hb : b.length ≤ 100000) : crc32_Sum b = some (crcOf b, 0) := by
  rw [crc32_Sum, Next_eq _ _ hb, bind_s]
  simp only [gne_i, gnot_u32]
  rfl
end Go.Pl

set_option linter.unusedVariables false
set_option linter.unusedSimpArgs false
namespace Go.Pl
open Go Go.Lv
/-! ### tags in front -/
def valL : List UInt8 → Nat → Int × Int
  | [], n => ((n : Int), 0)
  | c :: r, n => if 128 ≤ c.toNat then (0, 12) else valL r (128 * n + c.toNat)
theorem valL_lt : ∀ (l : List UInt8) (n k : Nat), n < 128 ^ k → 0 ≤ (valL l n).1 ∧ (valL l n).1 < ((128 ^ (k + l.length) : Nat) : Int)
  | [], n, k, h => by simp [valL]; exact_mod_cast h
  | c :: r, n, k, h => by
    rw [valL]
    split
    · have : 0 < 128 ^ (k + (c :: r).length) := Nat.pow_pos (by omega)
      exact ⟨Int.le_refl _, by simp only; exact_mod_cast this⟩
    · have := valL_lt r (128 * n + c.toNat) (k + 1) (by rw [Nat.pow_succ]; omega)
      rw [List.length_cons, show k + (r.length + 1) = k + 1 + r.length by omega]
      exact this
theorem or7 (n c : Nat) (hn : n < 268435456) (hc : c < 128) : gor (gshl (n : Int) (GI.toZ (7 : UInt64)).toNat) (c : Int) = ((128 * n + c : Nat) : Int) := by
  have e : (GI.toZ (7 : UInt64)).toNat = 7 := rfl
  have h1 : gshl (n : Int) 7 = ((2 ^ 7 * n : Nat) : Int) := by
    have : gshl (n : Int) 7 = wrap64 ((n : Int) * 2 ^ 7) := rfl
    rw [this, wrap64_id (by omega) (by omega)]; omega
  rw [e, h1]
  have h2 : gor ((2 ^ 7 * n : Nat) : Int) (c : Int) = wrap64 ((BitVec.ofInt 64 ((2 ^ 7 * n : Nat) : Int) ||| BitVec.ofInt 64 (c : Int)).toNat : Int) := rfl
  rw [h2, BitVec.toNat_or, BitVec.toNat_ofInt, BitVec.toNat_ofInt]
  have h3 : (((2 ^ 7 * n : Nat) : Int) % ((2 ^ 64 : Nat) : Int)).toNat = 2 ^ 7 * n := by omega
  have h4 : ((c : Int) % ((2 ^ 64 : Nat) : Int)).toNat = c := by omega
  rw [h3, h4, ← Nat.two_pow_add_eq_or_of_lt (by simpa using hc), wrap64_id (by omega) (by omega)]
theorem valProg (b : List UInt8) (hb : b.length = 4) : ∀ (j i q n : Nat), i + j = 4 → j < q → n < 128 ^ i → idthree_Value_l4 b q (n : Int) (i : Int) = some (valL (b.drop i) n)
  | 0, i, q + 1, n, hi, _, _ => by
    rw [idthree_Value_l4, idthree_Value_s4, if_neg (by rw [glt_i, lenI]; simp; omega), show b.drop i = [] by simp; omega]; rfl
  | j + 1, i, q + 1, n, hi, hq, hn => by
    have hlt : i < b.length := by omega
    have hn2 : n < 268435456 := Nat.lt_of_lt_of_le hn (show 128 ^ i ≤ 128 ^ 4 from Nat.pow_le_pow_right (by omega) (by omega))
    rw [idthree_Value_l4, idthree_Value_s4, if_pos (by rw [glt_i, lenI]; simp; omega), getI_n hlt, bind_s, drop_cons hlt, valL, ggt_u8]
    by_cases hc : 128 ≤ b[i].toNat
    · rw [if_pos (by simp; omega), if_pos hc]
    · rw [if_neg (by simp; omega), if_neg hc, gconv_u8i, or7 n _ hn2 (by omega), gadd_n (by omega) (by omega)]
      exact valProg b hb j (i + 1) q _ (by omega) (by omega) (by rw [Nat.pow_succ]; omega)
theorem valRef (b : List UInt8) (hb : b.length = 4) : ∀ (j i q n : Nat), i + j = 4 → j < q → n < 128 ^ i → cadenzaref28_Value_l4 b q (n : Int) (i : Int) = some (valL (b.drop i) n)
  | 0, i, q + 1, n, hi, _, _ => by
    rw [cadenzaref28_Value_l4, cadenzaref28_Value_s4, if_neg (by rw [glt_i]; simp; omega), show b.drop i = [] by simp; omega]; rfl
  | j + 1, i, q + 1, n, hi, hq, hn => by
    have hlt : i < b.length := by omega
    have hn2 : n < 268435456 := Nat.lt_of_lt_of_le hn (show 128 ^ i ≤ 128 ^ 4 from Nat.pow_le_pow_right (by omega) (by omega))
    rw [cadenzaref28_Value_l4, cadenzaref28_Value_s4, if_pos (by rw [glt_i]; simp; omega), getI_n hlt, bind_s, drop_cons hlt, valL, gge_u8]
    have h128 : (128 : UInt8).toNat = 128 := rfl
    by_cases hc : 128 ≤ b[i].toNat
    · rw [if_pos (by simpa using hc), if_pos hc]
    · have h3 := b[i].toNat_lt
      rw [if_neg (by simpa using hc), if_neg hc, bind_s, gconv_u8i, gmul_n (by omega) (by omega), gadd_n (by omega) (by omega), gadd_n (by omega) (by omega)]
      have := valRef b hb j (i + 1) q (128 * n + b[i].toNat) (by omega) (by omega) (by rw [Nat.pow_succ]; omega)
      rw [← this]; rfl
theorem Value_prog (b : List UInt8) (hb : b.length = 4) : idthree_Value b = some (valL b 0) := by
  have h := valProg b hb 4 0 FUEL 0 (by omega) (by have := FUEL_gt; omega) (by simp)
  rw [idthree_Value, idthree_Value_s0, if_neg (by rw [gne_i, lenI]; simp; omega), idthree_Value_p4]; exact h
theorem Value_ref (b : List UInt8) (hb : b.length = 4) : cadenzaref28_Value b = some (valL b 0) := by
  have h := valRef b hb 4 0 FUEL 0 (by omega) (by have := FUEL_gt; omega) (by simp)
  rw [cadenzaref28_Value, cadenzaref28_Value_s0, if_neg (by rw [gne_i, lenI]; simp; omega), cadenzaref28_Value_p4]; exact h
theorem valL_4 {b : List UInt8} (hb : b.length = 4) : 0 ≤ (valL b 0).1 ∧ (valL b 0).1 < 268435456 := by
  have := valL_lt b 0 0 (by simp)
  rw [hb] at this
  simpa using this
theorem HasPrefix_eq (s p : List UInt8) : bytes_HasPrefix s p = some (decide (p.length ≤ s.length ∧ s.take p.length = p)) := by
  rw [bytes_HasPrefix]
  by_cases h : p.length ≤ s.length
  · rw [if_pos (by rw [gge_i, lenI, lenI]; simp; omega), show lenI p = (p.length : Int) from rfl, cutI_to (by omega) (by omega), bind_s, bytes_Equal, bind_s, Int.toNat_natCast]
    congr 1
    rw [Bool.eq_iff_iff]; simp [h]
  · rw [if_neg (by rw [gge_i, lenI, lenI]; simp; omega)]
    simp [h]
def tailN (b : List UInt8) (n : Int) : Int × Int :=
  if 4000 < n then (0, 4) else if (b.length : Int) < n then (0, 24) else
  if b.getD 5 0 = 16 ∧ (b.take n.toNat).drop (n - 10).toNat ≠ [51, 68, 73] ++ part b 3 7 then (0, 12) else (n, 0)
def tailT (b : List UInt8) (r : Int) : Int × Int := tailN b (r + 10 + (if b.getD 5 0 = 16 then 10 else 0))
def sizeT (b : List UInt8) : Int × Int :=
  if ¬ (3 ≤ b.length ∧ b.take 3 = [73, 68, 51]) then (0, 6) else if b.length < 10 then (0, 24) else
  if (valL (part b 6 4) 0).2 ≠ 0 ∨ b.getD 4 0 ≠ 0 ∨ ¬ ((b.getD 5 0 = 0 ∧ 2 ≤ (b.getD 3 0).toNat ∧ (b.getD 3 0).toNat ≤ 4) ∨ (b.getD 5 0 = 16 ∧ b.getD 3 0 = 4)) then (0, 12) else
  tailT b (valL (part b 6 4) 0).1
theorem getI_D {b : List UInt8} {i : Nat} (h : i < b.length) : getI b (i : Int) = some (b.getD i 0) := by
  rw [getI_n h]; simp [List.getD_eq_getElem?_getD, h]
theorem cut_part {b : List UInt8} (a w : Nat) (h : a + w ≤ b.length) : cutI b (a : Int) ((a + w : Nat) : Int) = some (part b a w) := by
  rw [cutI_n (by omega) (by omega) (by omega)]; rfl
theorem refTail (b : List UInt8) (r : Int) (h10 : 10 ≤ b.length) (h0 : 0 ≤ r) (h1 : r < 268435456) : cadenzaref28_Size_p5 b r = some (tailT b r) := by
  have g5 : getI b (5 : Int) = some (b.getD 5 0) := getI_D (i := 5) (by omega)
  have key : ∀ n : Int, 10 ≤ n → n < 268435500 → cadenzaref28_Size_p6 b n = some (tailN b n) := by
    intro n hn hn2
    rw [cadenzaref28_Size_p6, cadenzaref28_Size_s6, tailN]
    by_cases c1 : 4000 < n
    · rw [if_pos (by rw [ggt_i]; simpa using c1), if_pos c1]
    · rw [if_neg (by rw [ggt_i]; simpa using c1), if_neg c1]
      by_cases c2 : (b.length : Int) < n
      · rw [if_pos (by rw [glt_i, lenI]; simpa using c2), if_pos c2]
      · have e3 : cutI b (3 : Int) (10 : Int) = some (part b 3 7) := cut_part 3 7 (by omega)
        rw [if_neg (by rw [glt_i, lenI]; simpa using c2), if_neg c2, g5, bind_s]
        by_cases c3 : b.getD 5 0 = 16
        · rw [if_pos (by rw [geq_u8]; simpa using c3), gsub_n (by omega) (by omega), cutI_n (by omega) (by omega) (by omega), bind_s, e3, bind_s, appI_n (by rw [part_len (by omega)]; simp), bind_s]
          by_cases c4 : (b.take n.toNat).drop (n - 10).toNat = [51, 68, 73] ++ part b 3 7
          · rw [if_neg (by simpa using c4), if_neg (by intro h; exact h.2 c4)]
          · rw [if_pos (by simpa using c4), if_pos ⟨c3, c4⟩]
        · rw [if_neg (by rw [geq_u8]; simpa using c3), if_neg (fun h => c3 h.1)]
  rw [cadenzaref28_Size_p5, cadenzaref28_Size_s5, g5, bind_s, tailT]
  by_cases c3 : b.getD 5 0 = 16
  · rw [if_pos (by rw [geq_u8]; simpa using c3), gadd_n (by rw [gadd_n] <;> omega) (by rw [gadd_n] <;> omega), gadd_n (by omega) (by omega), key _ (by omega) (by omega), if_pos c3, show 10 + r + 10 = r + 10 + 10 by omega]
  · rw [if_neg (by rw [geq_u8]; simpa using c3), gadd_n (by omega) (by omega), key _ (by omega) (by omega), if_neg c3, show 10 + r = r + 10 + 0 by omega]
theorem Size_ref (b : List UInt8) (hb : b.length < 4611686018427387904) : cadenzaref28_Size b = some (sizeT b) := by
  rw [cadenzaref28_Size, cadenzaref28_Size_s0, sizeT]
  by_cases h3 : 3 ≤ b.length
  · rw [if_neg (by rw [glt_i, lenI]; simp; omega), cutI_to (by omega) (by omega), bind_s]
    by_cases hp : b.take 3 = [73, 68, 51]
    · rw [if_neg (by simpa using hp), if_neg (by simp [h3, hp]), cadenzaref28_Size_p4, cadenzaref28_Size_s4]
      by_cases h10 : b.length < 10
      · rw [if_pos (by rw [glt_i, lenI]; simp; omega), if_pos h10]
      · have e6 : cutI b (6 : Int) (10 : Int) = some (part b 6 4) := cut_part 6 4 (by omega)
        have g3 : getI b (3 : Int) = some (b.getD 3 0) := getI_D (i := 3) (by omega)
        have g4 : getI b (4 : Int) = some (b.getD 4 0) := getI_D (i := 4) (by omega)
        have g5 : getI b (5 : Int) = some (b.getD 5 0) := getI_D (i := 5) (by omega)
        obtain ⟨v1, v2⟩ := valL_4 (b := part b 6 4) (part_len (by omega))
        rw [if_neg (by rw [glt_i, lenI]; simp; omega), if_neg h10, e6, bind_s, Value_ref _ (part_len (by omega)), bind_s]
        have ht := refTail b (valL (part b 6 4) 0).1 (by omega) v1 v2
        generalize valL (part b 6 4) 0 = v at *
        obtain ⟨v, e⟩ := v
        simp only at ht v1 v2 ⊢
        simp only [bind_s, g3, g4, g5, ht]
        generalize b.getD 3 0 = x at *
        generalize b.getD 4 0 = y at *
        generalize b.getD 5 0 = z at *
        simp only [gne_u8, glt_u8, ggt_u8, gne_i]
        by_cases he : e = 0 <;> by_cases hy : y = 0 <;> by_cases hz : z = 0 <;> by_cases hz2 : z = 16 <;> by_cases hx : x = 4 <;> by_cases hx2 : x.toNat < 2 <;> by_cases hx4 : 4 < x.toNat <;> simp_all <;> (rw [if_neg (by omega), if_neg (by omega)])
    · rw [if_pos (by simpa using hp), if_pos (by simp [hp])]
  · rw [if_pos (by rw [glt_i, lenI]; simp; omega), if_pos (by simp [h3])]
theorem progTail8 (b : List UInt8) (n : Int) (h10 : 10 ≤ b.length) (hn : 10 ≤ n) (hn2 : n < 268435500) : idthree_Size_p8 b (b.getD 5 0) n = some (tailN b n) := by
  rw [idthree_Size_p8, idthree_Size_s8]
  by_cases c1 : 4000 < n
  · rw [if_pos (by rw [ggt_i]; simpa using c1), tailN, if_pos c1]
  · rw [if_neg (by rw [ggt_i]; simpa using c1)]
    by_cases c2 : (b.length : Int) < n
    · rw [if_pos (by rw [glt_i, lenI]; simpa using c2), tailN, if_neg c1, if_pos c2]
    · have e3 : cutI b (3 : Int) (10 : Int) = some (part b 3 7) := cut_part 3 7 (by omega)
      rw [if_neg (by rw [glt_i, lenI]; simpa using c2)]
      by_cases c3 : b.getD 5 0 = 16
      · have hl : ((b.take n.toNat).drop (n - 10).toNat).length = 10 := by simp; omega
        have ht : tailN b n = if (b.take n.toNat).drop (n - 10).toNat ≠ [51, 68, 73] ++ part b 3 7 then (0, 12) else (n, 0) := by rw [tailN, if_neg c1, if_neg c2]; simp only [c3, true_and]
        rw [if_pos (by rw [geq_u8]; simpa using c3), gsub_n (by omega) (by omega), cutI_n (by omega) (by omega) (by omega), bind_s, ht]
        generalize (b.take n.toNat).drop (n - 10).toNat = f at *
        rw [cutI_to (by omega) (by omega), bind_s, cutI_from (by omega) (by omega), bind_s, e3, bind_s, bytes_Equal, bind_s]
        have hf : f = f.take 3 ++ f.drop 3 := (List.take_append_drop 3 f).symm
        by_cases c4 : f = [51, 68, 73] ++ part b 3 7
        · subst c4
          simp
        · by_cases c5 : f.take 3 = [51, 68, 73]
          · have : f.drop 3 ≠ part b 3 7 := fun h => c4 (by rw [hf, c5, h])
            simp only [List.cons_append, List.nil_append] at c4
            simp [c4, c5, this]
          · simp only [List.cons_append, List.nil_append] at c4
            simp [c4, c5]
      · rw [if_neg (by rw [geq_u8]; simpa using c3), tailN, if_neg c1, if_neg c2, if_neg (fun h => c3 h.1)]
theorem progTail (b : List UInt8) (r : Int) (h10 : 10 ≤ b.length) (h0 : 0 ≤ r) (h1 : r < 268435456) : idthree_Size_p7 b r (b.getD 5 0) = some (tailT b r) := by
  rw [idthree_Size_p7, idthree_Size_s7, tailT]
  by_cases c3 : b.getD 5 0 = 16
  · rw [if_pos (by rw [geq_u8]; simpa using c3), gadd_n (by rw [gadd_n] <;> omega) (by rw [gadd_n] <;> omega), gadd_n (by omega) (by omega), progTail8 b _ h10 (by omega) (by omega), if_pos c3]
  · rw [if_neg (by rw [geq_u8]; simpa using c3), gadd_n (by omega) (by omega), progTail8 b _ h10 (by omega) (by omega), if_neg c3]; simp
theorem Size_prog (b : List UInt8) (hb : b.length < 4611686018427387904) : idthree_Size b = some (sizeT b) := by
  rw [idthree_Size, idthree_Size_s0, HasPrefix_eq, bind_s]
  by_cases hp : 3 ≤ b.length ∧ b.take 3 = [73, 68, 51]
  · rw [if_neg (by simpa using hp)]
    by_cases h10 : b.length < 10
    · rw [if_pos (by rw [glt_i, lenI]; simp; omega), sizeT, if_neg (fun h => h hp), if_pos h10]
    · have e6 : cutI b (6 : Int) (10 : Int) = some (part b 6 4) := cut_part 6 4 (by omega)
      have g3 : getI b (3 : Int) = some (b.getD 3 0) := getI_D (i := 3) (by omega)
      have g4 : getI b (4 : Int) = some (b.getD 4 0) := getI_D (i := 4) (by omega)
      have g5 : getI b (5 : Int) = some (b.getD 5 0) := getI_D (i := 5) (by omega)
      obtain ⟨v1, v2⟩ := valL_4 (b := part b 6 4) (part_len (by omega))
      have ht := progTail b (valL (part b 6 4) 0).1 (by omega) v1 v2
      rw [if_neg (by rw [glt_i, lenI]; simp; omega), g3, bind_s, g5, bind_s, idthree_Size_p5, idthree_Size_s5, e6, bind_s, Value_prog _ (part_len (by omega)), bind_s, sizeT, if_neg (fun h => h hp), if_neg h10]
      generalize valL (part b 6 4) 0 = v at *
      obtain ⟨v, e⟩ := v
      simp only at ht v1 v2 ⊢
      simp only [bind_s, g4, idthree_Size_p6, idthree_Size_s6]
      generalize b.getD 3 0 = x at *
      generalize b.getD 4 0 = y at *
      generalize b.getD 5 0 = z at *
      simp only [gne_u8, gle_u8, geq_u8, gge_u8, gne_i]
      have e2 : (2 : UInt8).toNat = 2 := rfl
      have e4 : (4 : UInt8).toNat = 4 := rfl
      by_cases he : e = 0 <;> by_cases hy : y = 0 <;> by_cases hz : z = 0 <;> by_cases hz2 : z = 16 <;> by_cases hx : x = 4 <;> by_cases hx2 : 2 ≤ x.toNat <;> by_cases hx4 : x.toNat ≤ 4 <;> simp_all
  · rw [if_pos (by rw [Bool.not_eq_true', decide_eq_false_iff_not]; exact hp), sizeT, if_pos hp]
/-- What a tag's size is. -/
theorem sizeT_ok {b : List UInt8} {n : Int} (h : sizeT b = (n, 0)) : 10 ≤ n ∧ n ≤ b.length ∧ n ≤ 4000 := by
  unfold sizeT at h
  split at h; · simp at h
  split at h; · simp at h
  split at h; · simp at h
  rename_i h10 _
  obtain ⟨v1, v2⟩ := valL_4 (b := part b 6 4) (part_len (by omega))
  unfold tailT at h
  generalize hm : (valL (part b 6 4) 0).1 + 10 + (if b.getD 5 0 = 16 then 10 else 0) = m at h
  unfold tailN at h
  split at h; · simp at h
  split at h; · simp at h
  split at h; · simp at h
  simp only [Prod.mk.injEq, and_true] at h
  subst h
  refine ⟨?_, by omega, by omega⟩
  rw [← hm]
  split <;> omega
end Go.Pl

set_option linter.unusedVariables false
set_option linter.unusedSimpArgs false
namespace Go.Pl
open Go Go.Lv
def APE : List UInt8 := [65, 80, 69, 84, 65, 71, 69, 88]
/-- The head, or the foot, of a tag. -/
def endS (n m fl : Nat) : List UInt8 := APE ++ leB 2000 4 ++ leB (n + 32) 4 ++ leB m 4 ++ leB fl 4 ++ List.replicate 8 0
theorem endS_len (n m fl : Nat) : (endS n m fl).length = 32 := by simp [endS, APE, leB_len]
theorem u64_nat {n : Nat} (h : n < 18446744073709551616) : (UInt64.ofNat n).toNat = n := by rw [UInt64.toNat_ofNat', Nat.mod_eq_of_lt h]
theorem endStep (n m : Int) (fl : UInt64) (c : UInt64) (i q : Nat) (acc : List UInt8) (hi : i < 6) (hc : getI ([(2000 : UInt64), (gconv (gadd n (32 : Int)) : UInt64), (gconv m : UInt64), fl, (0 : UInt64), (0 : UInt64)] : List UInt64) (i : Int) = some c) (h : c.toNat < 4294967296) (ha : acc.length ≤ 1000000) :
    ape_end_l4 n m fl (q + 1) (i : Int) acc = ape_end_l4 n m fl q ((i + 1 : Nat) : Int) (acc ++ leB c.toNat 4) := by
  have hb := Bytes_eq c 4 (by omega) (by omega) (by simpa using h)
  rw [ape_end_l4, ape_end_s4, if_pos (by rw [glt_i, lenI]; simp; omega), hc, bind_s, bind_s, show ((4 : Int)) = ((4 : Nat) : Int) from rfl, hb, bind_s]
  simp only
  rw [appI_n (by rw [leB_len]; omega), bind_s, gadd_n (by omega) (by omega)]; rfl
theorem end_prog (n m : Nat) (fl : UInt64) (hn : n ≤ 3000) (hm : m ≤ 1000) (hf : fl.toNat < 4294967296) : ape_end (n : Int) (m : Int) fl = some (endS n m fl.toNat) := by
  have e1 : (gconv (gadd (n : Int) (32 : Int)) : UInt64).toNat = n + 32 := by rw [gadd_n (by omega) (by omega), show (n : Int) + 32 = ((n + 32 : Nat) : Int) by omega, gconv_n64, u64_nat (by omega)]
  have e2 : (gconv (m : Int) : UInt64).toNat = m := by rw [gconv_n64, u64_nat (by omega)]
  have hF : FUEL = (FUEL - 7) + 1 + 1 + 1 + 1 + 1 + 1 + 1 := by have := FUEL_gt; omega
  rw [ape_end, ape_end_s0, ape_end_p4, hF]
  rw [show ((0 : Int)) = ((0 : Nat) : Int) from rfl, endStep n m fl 2000 0 _ _ (by omega) rfl (by decide) (by simp), endStep n m fl _ 1 _ _ (by omega) rfl (by rw [e1]; omega) (by simp [leB_len]), endStep n m fl _ 2 _ _ (by omega) rfl (by rw [e2]; omega) (by simp [leB_len]),
    endStep n m fl fl 3 _ _ (by omega) rfl hf (by simp [leB_len]), endStep n m fl 0 4 _ _ (by omega) rfl (by decide) (by simp [leB_len]), endStep n m fl 0 5 _ _ (by omega) rfl (by decide) (by simp [leB_len]), e1, e2]
  rw [ape_end_l4, ape_end_s4, if_neg (by rw [glt_i, lenI]; simp), ape_end_p6, ape_end_s6, endS]
  have z : leB (0 : UInt64).toNat 4 ++ leB (0 : UInt64).toNat 4 = List.replicate 8 0 := by decide
  have z2 : leB (2000 : UInt64).toNat 4 = leB 2000 4 := rfl
  rw [List.append_assoc _ (leB (0 : UInt64).toNat 4), z, z2]; rfl
theorem end_ref (n m : Nat) (fl : UInt64) (hn : n ≤ 3000) (hm : m ≤ 1000) (hf : fl.toNat < 4294967296) : cadenzaref29_end (n : Int) (m : Int) fl = some (endS n m fl.toNat) := by
  have e1 : (gconv (gadd (n : Int) (32 : Int)) : UInt64).toNat = n + 32 := by rw [gadd_n (by omega) (by omega), show (n : Int) + 32 = ((n + 32 : Nat) : Int) by omega, gconv_n64, u64_nat (by omega)]
  have e2 : (gconv (m : Int) : UInt64).toNat = m := by rw [gconv_n64, u64_nat (by omega)]
  have w : ∀ c : UInt64, cadenzaref01_Written c 4 = some (leB c.toNat 4) := fun c => Written_eq c 4 (by omega)
  have z2 : leB (2000 : UInt64).toNat 4 = leB 2000 4 := rfl
  rw [cadenzaref29_end]
  simp only [w, e1, e2, bind_s]
  rw [appI_n (by simp [leB_len]), bind_s, appI_n (by simp [leB_len]), bind_s, appI_n (by simp [leB_len]), bind_s, appI_n (by simp [leB_len]), bind_s, mkI_n (by omega) (by omega), bind_s, appI_n (by simp [leB_len]), bind_s, z2]; rfl
theorem part_take {b : List UInt8} {a w k : Nat} (h : a + w ≤ k) : part (b.take k) a w = part b a w := by rw [part, part, List.take_take, Nat.min_eq_left h]
def badA (b : List UInt8) : Bool := decide (leN (part b 12 4) < 32 ∨ 3032 < leN (part b 12 4) ∨ 1000 < leN (part b 16 4))
theorem cmp64 {b : List UInt8} (h : b.length ≤ 8) : (leU b).toNat = leN b := leU_nat h
theorem bad_eq (b : List UInt8) (h : 20 ≤ b.length) : (((glt (leU (part b 12 4)) (32 : UInt64)) || (ggt (leU (part b 12 4)) (3032 : UInt64))) || (ggt (leU (part b 16 4)) (1000 : UInt64))) = badA b := by
  rw [glt_u64, ggt_u64, ggt_u64, leU_nat (by rw [part_len (by omega)]; omega), leU_nat (by rw [part_len (by omega)]; omega), badA]
  show ((decide (leN (part b 12 4) < 32) || decide (3032 < leN (part b 12 4))) || decide (1000 < leN (part b 16 4))) = _
  simp [Bool.or_assoc]
theorem itm_eq (b : List UInt8) (h : 20 ≤ b.length) (hb : badA b = false) : gsub (gconv (leU (part b 12 4)) : Int) (32 : Int) = ((leN (part b 12 4) - 32 : Nat) : Int) ∧ (gconv (leU (part b 16 4)) : Int) = ((leN (part b 16 4) : Nat) : Int) ∧ leN (part b 12 4) - 32 ≤ 3000 ∧ leN (part b 16 4) ≤ 1000 := by
  simp only [badA, decide_eq_false_iff_not] at hb
  refine ⟨?_, leU_int (by rw [part_len (by omega)]; omega), by omega, by omega⟩
  rw [leU_int (by rw [part_len (by omega)]; omega), gsub_n (by omega) (by omega)]; omega
theorem tells_prog (b : List UInt8) (fl : UInt64) (h : 20 ≤ b.length) (hl : b.length < 4611686018427387904) (hf : fl.toNat < 4294967296) :
    ape_tells b fl = some (if badA b = true then (0, 0, false) else (((leN (part b 12 4) - 32 : Nat) : Int), ((leN (part b 16 4) : Nat) : Int), b == endS (leN (part b 12 4) - 32) (leN (part b 16 4)) fl.toNat)) := by
  have a1 : le_At b 12 4 = some (leU (part b 12 4), 0) := At_eq b 12 4 (by omega) (by omega) (by omega) hl
  have a2 : le_At b 16 4 = some (leU (part b 16 4), 0) := At_eq b 16 4 (by omega) (by omega) (by omega) hl
  rw [ape_tells, a1, bind_s]
  simp only
  rw [a2, bind_s]
  simp only
  rw [bad_eq b h]
  cases hb : badA b with
  | true => rfl
  | false =>
    obtain ⟨i1, i2, i3, i4⟩ := itm_eq b h hb
    rw [i1, i2, end_prog _ _ _ i3 i4 hf]
    rfl
theorem told_ref (b : List UInt8) (h : 20 ≤ b.length) (hl : b.length < 4611686018427387904) :
    cadenzaref29_told b = some (if badA b = true then (0, 0, false) else (((leN (part b 12 4) - 32 : Nat) : Int), ((leN (part b 16 4) : Nat) : Int), true)) := by
  have a1 : cutI b 12 16 = some (part b 12 4) := cut_part 12 4 (by omega)
  have a2 : cutI b 16 20 = some (part b 16 4) := cut_part 16 4 (by omega)
  rw [cadenzaref29_told, a1, bind_s, Of_eq _ (by rw [part_len (by omega)]; omega), bind_s, a2, bind_s, Of_eq _ (by rw [part_len (by omega)]; omega), bind_s, bad_eq b h]
  cases hb : badA b with
  | true => rfl
  | false =>
    obtain ⟨i1, i2, i3, i4⟩ := itm_eq b h hb
    rw [i1, i2]; rfl
/-- The size of the tag in front. -/
def frontA (b : List UInt8) : Int × Int :=
  if ¬ (8 ≤ b.length ∧ b.take 8 = APE) then (0, 6) else if b.length < 32 then (0, 24) else
  if badA b = true ∨ b.take 32 ≠ endS (leN (part b 12 4) - 32) (leN (part b 16 4)) 2684354560 then (0, 12) else
  if b.length < leN (part b 12 4) + 32 then (0, 24) else
  if (b.take (leN (part b 12 4) + 32)).drop (leN (part b 12 4)) ≠ endS (leN (part b 12 4) - 32) (leN (part b 16 4)) 2147483648 then (0, 12) else (((leN (part b 12 4) + 32 : Nat) : Int), 0)
theorem bad_take (b : List UInt8) : badA (b.take 32) = badA b := by rw [badA, badA, part_take (by omega), part_take (by omega)]
section
variable {b : List UInt8}
theorem fa1 (h : ¬ (8 ≤ b.length ∧ b.take 8 = APE)) : frontA b = (0, 6) := by rw [frontA, if_pos h]
theorem fa2 (h : 8 ≤ b.length ∧ b.take 8 = APE) (h2 : b.length < 32) : frontA b = (0, 24) := by rw [frontA, if_neg (fun h' => h' h), if_pos h2]
variable (h : 8 ≤ b.length ∧ b.take 8 = APE) (h2 : ¬ b.length < 32)
include h h2
theorem fa3 (h3 : badA b = true) : frontA b = (0, 12) := by rw [frontA, if_neg (fun h' => h' h), if_neg h2, if_pos (.inl h3)]
theorem fa4 (h4 : b.take 32 ≠ endS (leN (part b 12 4) - 32) (leN (part b 16 4)) 2684354560) : frontA b = (0, 12) := by rw [frontA, if_neg (fun h' => h' h), if_neg h2, if_pos (.inr h4)]
variable (h3 : badA b = false) (h4 : b.take 32 = endS (leN (part b 12 4) - 32) (leN (part b 16 4)) 2684354560)
include h3 h4
theorem fa5 (h5 : b.length < leN (part b 12 4) + 32) : frontA b = (0, 24) := by
  rw [frontA, if_neg (fun h' => h' h), if_neg h2, if_neg (fun h' => h'.elim (fun e => by rw [h3] at e; cases e) fun e => e h4), if_pos h5]
theorem fa6 (h5 : ¬ b.length < leN (part b 12 4) + 32) (h6 : (b.take (leN (part b 12 4) + 32)).drop (leN (part b 12 4)) ≠ endS (leN (part b 12 4) - 32) (leN (part b 16 4)) 2147483648) : frontA b = (0, 12) := by
  rw [frontA, if_neg (fun h' => h' h), if_neg h2, if_neg (fun h' => h'.elim (fun e => by rw [h3] at e; cases e) fun e => e h4), if_neg h5, if_pos h6]
theorem fa7 (h5 : ¬ b.length < leN (part b 12 4) + 32) (h6 : (b.take (leN (part b 12 4) + 32)).drop (leN (part b 12 4)) = endS (leN (part b 12 4) - 32) (leN (part b 16 4)) 2147483648) : frontA b = (((leN (part b 12 4) + 32 : Nat) : Int), 0) := by
  rw [frontA, if_neg (fun h' => h' h), if_neg h2, if_neg (fun h' => h'.elim (fun e => by rw [h3] at e; cases e) fun e => e h4), if_neg h5, if_neg (fun h' => h' h6)]
end
theorem Front_prog (b : List UInt8) (hl : b.length < 4611686018427387904) : ape_Front b = some (frontA b) := by
  rw [ape_Front, HasPrefix_eq, bind_s]
  by_cases hp : 8 ≤ b.length ∧ b.take 8 = APE
  · rw [if_neg (by simpa [APE] using hp)]
    by_cases h32 : b.length < 32
    · rw [if_pos (by rw [glt_i, lenI]; simp; omega), fa2 hp h32]
    · have t := tells_prog (b.take 32) 2684354560 (by simp; omega) (by simp; omega) (by decide)
      rw [bad_take, part_take (by omega), part_take (by omega)] at t
      rw [if_neg (by rw [glt_i, lenI]; simp; omega), cutI_to (by omega) (by omega), bind_s, show (32 : Int).toNat = 32 from rfl, t, bind_s]
      cases hb : badA b with
      | true => rw [fa3 hp h32 hb]; simp
      | false =>
        obtain ⟨i1, i2, i3, i4⟩ := itm_eq b (by omega) hb
        have i5 : 32 ≤ leN (part b 12 4) := by simp only [badA, decide_eq_false_iff_not] at hb; omega
        simp only [Bool.false_eq_true, if_false, false_or]
        by_cases c1 : b.take 32 = endS (leN (part b 12 4) - 32) (leN (part b 16 4)) 2684354560
        · have c1' : b.take 32 = endS (leN (part b 12 4) - 32) (leN (part b 16 4)) (2684354560 : UInt64).toNat := c1
          rw [if_neg (by simpa using c1'), gadd_n (by omega) (by omega)]
          have e1 : ((leN (part b 12 4) - 32 : Nat) : Int) + 64 = ((leN (part b 12 4) + 32 : Nat) : Int) := by omega
          rw [e1]
          by_cases c2 : b.length < leN (part b 12 4) + 32
          · rw [if_pos (by rw [glt_i, lenI]; simp; omega), fa5 hp h32 hb c1 c2]
          · rw [if_neg (by rw [glt_i, lenI]; simp; omega), gsub_n (by omega) (by omega), cutI_n (by omega) (by omega) (by omega), bind_s, end_prog _ _ _ i3 i4 (by decide), bind_s, bytes_Equal, bind_s]
            rw [show (((leN (part b 12 4) + 32 : Nat) : Int)).toNat = leN (part b 12 4) + 32 by omega, show (((leN (part b 12 4) + 32 : Nat) : Int) - 32).toNat = leN (part b 12 4) by omega]
            by_cases c3 : (b.take (leN (part b 12 4) + 32)).drop (leN (part b 12 4)) = endS (leN (part b 12 4) - 32) (leN (part b 16 4)) 2147483648
            · have c3' : (b.take (leN (part b 12 4) + 32)).drop (leN (part b 12 4)) = endS (leN (part b 12 4) - 32) (leN (part b 16 4)) (2147483648 : UInt64).toNat := c3
              rw [if_neg (by simpa using c3'), fa7 hp h32 hb c1 c2 c3]
            · have c3' : ¬ (b.take (leN (part b 12 4) + 32)).drop (leN (part b 12 4)) = endS (leN (part b 12 4) - 32) (leN (part b 16 4)) (2147483648 : UInt64).toNat := c3
              rw [if_pos (by simpa using c3'), fa6 hp h32 hb c1 c2 c3]
        · have c1' : ¬ b.take 32 = endS (leN (part b 12 4) - 32) (leN (part b 16 4)) (2684354560 : UInt64).toNat := c1
          rw [if_pos (by simpa using c1'), fa4 hp h32 c1]
  · rw [if_pos (by rw [Bool.not_eq_true', decide_eq_false_iff_not]; exact hp), fa1 hp]
theorem Front_ref (b : List UInt8) (hl : b.length < 4611686018427387904) : cadenzaref29_Front b = some (frontA b) := by
  rw [cadenzaref29_Front, cadenzaref29_Front_s0]
  by_cases h8 : 8 ≤ b.length
  · rw [if_neg (by rw [glt_i, lenI]; simp; omega), cutI_to (by omega) (by omega), bind_s, show (8 : Int).toNat = 8 from rfl]
    by_cases ha : b.take 8 = APE
    · have hp := And.intro h8 ha
      rw [if_neg (by simpa [APE] using ha), cadenzaref29_Front_p3, cadenzaref29_Front_s3]
      by_cases h32 : b.length < 32
      · rw [if_pos (by rw [glt_i, lenI]; simp; omega), fa2 hp h32]
      · have t := told_ref (b.take 32) (by simp; omega) (by simp; omega)
        rw [bad_take, part_take (by omega), part_take (by omega)] at t
        rw [if_neg (by rw [glt_i, lenI]; simp; omega), cutI_to (by omega) (by omega), bind_s, show (32 : Int).toNat = 32 from rfl, t, bind_s]
        cases hb : badA b with
        | true => rw [fa3 hp h32 hb]; simp
        | false =>
          obtain ⟨i1, i2, i3, i4⟩ := itm_eq b (by omega) hb
          have i5 : 32 ≤ leN (part b 12 4) := by simp only [badA, decide_eq_false_iff_not] at hb; omega
          simp only [Bool.false_eq_true, if_false, false_or, bind_s, Bool.not_true]
          rw [cadenzaref29_head, end_ref _ _ _ i3 i4 (by decide), bind_s, bind_s]
          by_cases c1 : b.take 32 = endS (leN (part b 12 4) - 32) (leN (part b 16 4)) 2684354560
          · have c1' : b.take 32 = endS (leN (part b 12 4) - 32) (leN (part b 16 4)) (2684354560 : UInt64).toNat := c1
            rw [if_neg (by simpa using c1'), cadenzaref29_Front_p4, cadenzaref29_Front_s4, gadd_n (by omega) (by omega)]
            have e1 : 64 + ((leN (part b 12 4) - 32 : Nat) : Int) = ((leN (part b 12 4) + 32 : Nat) : Int) := by omega
            rw [e1]
            by_cases c2 : b.length < leN (part b 12 4) + 32
            · rw [if_pos (by rw [glt_i, lenI]; simp; omega), fa5 hp h32 hb c1 c2]
            · rw [if_neg (by rw [glt_i, lenI]; simp; omega), gsub_n (by omega) (by omega), cutI_n (by omega) (by omega) (by omega), bind_s, cadenzaref29_foot, if_pos rfl, end_ref _ _ _ i3 i4 (by decide), bind_s, bind_s]
              rw [show (((leN (part b 12 4) + 32 : Nat) : Int)).toNat = leN (part b 12 4) + 32 by omega, show (((leN (part b 12 4) + 32 : Nat) : Int) - 32).toNat = leN (part b 12 4) by omega]
              by_cases c3 : (b.take (leN (part b 12 4) + 32)).drop (leN (part b 12 4)) = endS (leN (part b 12 4) - 32) (leN (part b 16 4)) 2147483648
              · have c3' : (b.take (leN (part b 12 4) + 32)).drop (leN (part b 12 4)) = endS (leN (part b 12 4) - 32) (leN (part b 16 4)) (2147483648 : UInt64).toNat := c3
                rw [if_neg (by simpa using c3'), fa7 hp h32 hb c1 c2 c3]
              · have c3' : ¬ (b.take (leN (part b 12 4) + 32)).drop (leN (part b 12 4)) = endS (leN (part b 12 4) - 32) (leN (part b 16 4)) (2147483648 : UInt64).toNat := c3
                rw [if_pos (by simpa using c3'), fa6 hp h32 hb c1 c2 c3]
          · have c1' : ¬ b.take 32 = endS (leN (part b 12 4) - 32) (leN (part b 16 4)) (2684354560 : UInt64).toNat := c1
            rw [if_pos (by simpa using c1'), fa4 hp h32 c1]
    · rw [if_pos (by simpa [APE] using ha), fa1 (fun h => ha h.2)]
  · rw [if_pos (by rw [glt_i, lenI]; simp; omega), fa1 (fun h => h8 h.1)]
theorem frontA_ok {b : List UInt8} {n : Int} (h : frontA b = (n, 0)) : 64 ≤ n ∧ n ≤ b.length := by
  unfold frontA at h
  split at h; · simp at h
  split at h; · simp at h
  split at h; · simp at h
  rename_i hb
  split at h; · simp at h
  split at h; · simp at h
  simp only [Prod.mk.injEq, and_true] at h
  have hb' : ¬ badA b = true := fun e => hb (.inl e)
  simp only [badA, decide_eq_true_eq] at hb'
  omega
end Go.Pl

set_option linter.unusedVariables false
set_option linter.unusedSimpArgs false
namespace Go.Pl
open Go Go.Lv
/-! ### all tags in front -/
def sizeS (b : List UInt8) : Int × Int := if (sizeT b).2 ≠ 6 then sizeT b else frontA b
theorem size_eq (b : List UInt8) (hl : b.length < 4611686018427387904) : strip_size b = some (sizeS b) := by
  rw [strip_size, Size_prog b hl, bind_s, Front_prog b hl]
  by_cases h : (sizeT b).2 = 6
  · simp [sizeS, h, gne_i]
  · simp [sizeS, h, gne_i]
theorem sizeS_ok {b : List UInt8} {n : Int} (h : sizeS b = (n, 0)) : 10 ≤ n ∧ n ≤ b.length := by
  unfold sizeS at h
  split at h
  · have := sizeT_ok h; omega
  · have := frontA_ok h; omega
def stripF (b : List UInt8) : Nat → Nat → List Int × Int
  | 0, _ => ([], 6)
  | j + 1, p => if (sizeS (b.drop p)).2 = 6 then ([], 0) else if (sizeS (b.drop p)).2 ≠ 0 then ([], (sizeS (b.drop p)).2) else
    if 4000 < (p : Int) + (sizeS (b.drop p)).1 then ([], 4) else
    if (stripF b j (p + (sizeS (b.drop p)).1.toNat)).2 = 0 then ((sizeS (b.drop p)).1 :: (stripF b j (p + (sizeS (b.drop p)).1.toNat)).1, 0) else ([], (stripF b j (p + (sizeS (b.drop p)).1.toNat)).2)
theorem stripF_ok (b : List UInt8) : ∀ (j p : Nat), p ≤ b.length → p ≤ 4000 → (stripF b j p).2 = 0 → (∀ x ∈ (stripF b j p).1, 10 ≤ x) ∧ (p : Int) + (stripF b j p).1.sum ≤ b.length ∧ (p : Int) + (stripF b j p).1.sum ≤ 4000
  | 0, p, _, _, h => by simp [stripF] at h
  | j + 1, p, hp, hq, h => by
    rw [stripF] at h ⊢
    split at h
    · rename_i h6; rw [if_pos h6]; simp; omega
    · rename_i h6
      split at h
      · rename_i h0; exact absurd h h0
      · rename_i h0
        rw [if_neg h6, if_neg h0]
        have hz : sizeS (b.drop p) = ((sizeS (b.drop p)).1, 0) := by rw [Prod.ext_iff]; exact ⟨rfl, Classical.not_not.1 h0⟩
        have hs := sizeS_ok hz
        rw [List.length_drop] at hs
        split at h
        · simp at h
        · rename_i h4
          rw [if_neg h4]
          split at h
          · rename_i h00
            rw [if_pos h00]
            obtain ⟨i1, i2, i3⟩ := stripF_ok b j _ (by omega) (by omega) h00
            refine ⟨fun x hx => ?_, ?_, ?_⟩
            · rcases List.mem_cons.1 hx with rfl | hx
              · exact hs.1
              · exact i1 x hx
            · simp only [List.sum_cons]; omega
            · simp only [List.sum_cons]; omega
          · rename_i h00; exact absurd h h00
def endF (b : List UInt8) (j p : Nat) : Int × Int := if (stripF b j p).2 = 0 then ((p : Int) + (stripF b j p).1.sum, 0) else (0, (stripF b j p).2)
theorem strip_prog (b : List UInt8) (hl : b.length < 4611686018427387904) : ∀ (j p q : Nat), p ≤ b.length → p ≤ 4000 → b.length - p < j → j ≤ q → strip_Front_l b q (p : Int) = some (endF b j p)
  | 0, p, q, _, _, h, _ => by omega
  | j + 1, p, q, hp, hp4, hj, hq => by
    obtain ⟨q, rfl⟩ : ∃ k, q = k + 1 := ⟨q - 1, by omega⟩
    rw [strip_Front_l, cutI_from (by omega) (by omega), bind_s, Int.toNat_natCast, size_eq _ (by simp; omega), bind_s, geq_i, geq_i, gne_i, endF]
    by_cases h6 : (sizeS (b.drop p)).2 = 6
    · rw [if_pos (by simpa using h6)]
      have : stripF b (j + 1) p = ([], 0) := by rw [stripF, if_pos h6]
      rw [this]; simp
    · rw [if_neg (by simpa using h6)]
      by_cases h0 : (sizeS (b.drop p)).2 = 0
      · have hz : sizeS (b.drop p) = ((sizeS (b.drop p)).1, 0) := by rw [Prod.ext_iff]; exact ⟨rfl, h0⟩
        have hs := sizeS_ok hz
        rw [List.length_drop] at hs
        rw [gadd_n (by omega) (by omega), ggt_i]
        by_cases h4 : 4000 < (p : Int) + (sizeS (b.drop p)).1
        · rw [if_pos (by simp [h0]; omega)]
          have : stripF b (j + 1) p = ([], 4) := by rw [stripF, if_neg h6, if_neg (fun h => h h0), if_pos h4]
          rw [this]; simp
        · rw [if_neg (by simp [h0]; omega), if_neg (by simpa using h0)]
          have ih := strip_prog b hl j (p + (sizeS (b.drop p)).1.toNat) q (by omega) (by omega) (by omega) (by omega)
          rw [show (p : Int) + (sizeS (b.drop p)).1 = ((p + (sizeS (b.drop p)).1.toNat : Nat) : Int) by omega, ih, endF]
          have : stripF b (j + 1) p = if (stripF b j (p + (sizeS (b.drop p)).1.toNat)).2 = 0 then ((sizeS (b.drop p)).1 :: (stripF b j (p + (sizeS (b.drop p)).1.toNat)).1, 0) else ([], (stripF b j (p + (sizeS (b.drop p)).1.toNat)).2) := by
            rw [stripF, if_neg h6, if_neg (fun h => h h0), if_neg h4]
          rw [this]
          by_cases hr : (stripF b j (p + (sizeS (b.drop p)).1.toNat)).2 = 0
          · simp only [hr, if_true, List.sum_cons]; congr 2; omega
          · simp only [hr, if_false]
      · rw [if_neg (by simp [h0]), if_pos (by simpa using h0)]
        have : stripF b (j + 1) p = ([], (sizeS (b.drop p)).2) := by rw [stripF, if_neg h6, if_pos h0]
        rw [this]; simp [h0]
def endP (b : List UInt8) (j p : Nat) (xs : List Int) : List Int × Int := if (stripF b j p).2 = 0 then (xs ++ (stripF b j p).1, 0) else ([], (stripF b j p).2)
theorem parts_p9 (bk : Int → List Int → Option (List Int × Int)) (b : List UInt8) (p : Nat) (hp : p ≤ b.length) (xs : List Int) (hx : xs.length ≤ 4000) (hl : b.length < 4611686018427387904) : cadenzaref30_Parts_s6 (cadenzaref30_Parts_p9 bk b) b (p : Int) xs = cadenzaref30_Parts_p9 bk b (p : Int) xs (sizeS (b.drop p)).1 (sizeS (b.drop p)).2 := by
  have hf := Front_ref (b.drop p) (by simp; omega)
  rw [cadenzaref30_Parts_s6, cutI_from (by omega) (by omega), bind_s, Int.toNat_natCast, Size_ref _ (by simp; omega), bind_s]
  by_cases h : (sizeT (b.drop p)).2 = 6
  · simp [sizeS, h, geq_i, hf]
  · simp [sizeS, h, geq_i]
theorem parts_ref (b : List UInt8) (hl : b.length < 4611686018427387904) : ∀ (j p q : Nat) (xs : List Int), p ≤ b.length → p ≤ 4000 → b.length - p < j → j ≤ q → xs.length ≤ p → cadenzaref30_Parts_l6 b q (p : Int) xs = some (endP b j p xs)
  | 0, p, q, _, _, _, h, _, _ => by omega
  | j + 1, p, q, xs, hp, hp4, hj, hq, hx => by
    obtain ⟨q, rfl⟩ : ∃ k, q = k + 1 := ⟨q - 1, by omega⟩
    rw [cadenzaref30_Parts_l6, parts_p9 _ b p hp xs (by omega) hl, cadenzaref30_Parts_p9, cadenzaref30_Parts_s9, geq_i, gne_i, endP]
    by_cases h6 : (sizeS (b.drop p)).2 = 6
    · rw [if_pos (by simpa using h6)]
      have : stripF b (j + 1) p = ([], 0) := by rw [stripF, if_pos h6]
      rw [this]; simp
    · rw [if_neg (by simpa using h6)]
      by_cases h0 : (sizeS (b.drop p)).2 = 0
      · have hz : sizeS (b.drop p) = ((sizeS (b.drop p)).1, 0) := by rw [Prod.ext_iff]; exact ⟨rfl, h0⟩
        have hs := sizeS_ok hz
        rw [List.length_drop] at hs
        rw [if_neg (by simpa using h0), gadd_n (by omega) (by omega), ggt_i]
        by_cases h4 : 4000 < (p : Int) + (sizeS (b.drop p)).1
        · rw [if_pos (by simp; omega)]
          have : stripF b (j + 1) p = ([], 4) := by rw [stripF, if_neg h6, if_neg (fun h => h h0), if_pos h4]
          rw [this]; simp
        · rw [if_neg (by simp; omega), appI_n (by simp; omega), bind_s]
          have ih := parts_ref b hl j (p + (sizeS (b.drop p)).1.toNat) q (xs ++ [(sizeS (b.drop p)).1]) (by omega) (by omega) (by omega) (by omega) (by simp; omega)
          rw [show (p : Int) + (sizeS (b.drop p)).1 = ((p + (sizeS (b.drop p)).1.toNat : Nat) : Int) by omega, ih, endP]
          have : stripF b (j + 1) p = if (stripF b j (p + (sizeS (b.drop p)).1.toNat)).2 = 0 then ((sizeS (b.drop p)).1 :: (stripF b j (p + (sizeS (b.drop p)).1.toNat)).1, 0) else ([], (stripF b j (p + (sizeS (b.drop p)).1.toNat)).2) := by
            rw [stripF, if_neg h6, if_neg (fun h => h h0), if_neg h4]
          rw [this]
          by_cases hr : (stripF b j (p + (sizeS (b.drop p)).1.toNat)).2 = 0
          · simp only [hr, if_true]; simp
          · simp only [hr, if_false]
      · rw [if_pos (by simpa using h0)]
        have : stripF b (j + 1) p = ([], (sizeS (b.drop p)).2) := by rw [stripF, if_neg h6, if_pos h0]
        rw [this]; simp [h0]
theorem sum_pos : ∀ {l : List Int}, (∀ x ∈ l, 10 ≤ x) → 0 ≤ l.sum ∧ (l.length : Int) ≤ l.sum
  | [], _ => by simp
  | x :: l, h => by
    have h1 := h x List.mem_cons_self
    have h2 := sum_pos (l := l) fun y hy => h y (List.mem_cons_of_mem _ hy)
    simp only [List.sum_cons, List.length_cons]; omega
theorem sum_loop (r : Int) (l : List Int) (hl : l.length ≤ 4000) (hx : ∀ x ∈ l, 10 ≤ x) : ∀ (j i q : Nat) (n : Int), i + j = l.length → j < q → 0 ≤ n → n + (l.drop i).sum ≤ 4000 → cadenzaref30_Front_l4 r l q n (i : Int) = some (n + (l.drop i).sum, r)
  | 0, i, q + 1, n, hi, _, _, _ => by
    rw [cadenzaref30_Front_l4, cadenzaref30_Front_s4, if_neg (by rw [glt_i, lenI]; simp; omega), show i = l.length by omega, List.drop_length]
    simp [cadenzaref30_Front_p6, cadenzaref30_Front_s6]
  | j + 1, i, q + 1, n, hi, hq, hn, hs => by
    have hlt : i < l.length := by omega
    rw [drop_cons hlt, List.sum_cons] at hs ⊢
    have h1 := hx l[i] (List.getElem_mem hlt)
    have h2 := sum_pos (l := l.drop (i + 1)) fun y hy => hx y (List.mem_of_mem_drop hy)
    rw [cadenzaref30_Front_l4, cadenzaref30_Front_s4, if_pos (by rw [glt_i, lenI]; simp; omega), getI_n hlt, bind_s, bind_s, gadd_n (by omega) (by omega), gadd_n (by omega) (by omega)]
    have ih := sum_loop r l hl hx j (i + 1) q (n + l[i]) (by omega) (by omega) (by omega) (by omega)
    rw [show ((i : Int) + 1) = ((i + 1 : Nat) : Int) by omega, ih]
    congr 2; omega
/-- How many bytes the tags in front have. -/
def frontS (b : List UInt8) : Int × Int := endF b (b.length + 1) 0
theorem strip_Front_eq (b : List UInt8) (hl : b.length < 4611686018427387904) : strip_Front b = some (frontS b) := by
  have := strip_prog b hl (b.length + 1) 0 FUEL (by omega) (by omega) (by omega) (by have := FUEL_gt; omega)
  exact this
theorem ref_Front_eq (b : List UInt8) (hl : b.length < 4611686018427387904) : cadenzaref30_Front b = some (frontS b) := by
  have h := parts_ref b hl (b.length + 1) 0 FUEL [] (by omega) (by omega) (by omega) (by have := FUEL_gt; omega) (by simp)
  have h' : cadenzaref30_Parts b = some (endP b (b.length + 1) 0 []) := h
  rw [cadenzaref30_Front, cadenzaref30_Front_s0, h', bind_s, frontS, endF, endP]
  have ho := stripF_ok b (b.length + 1) 0 (by omega) (by omega)
  by_cases h0 : (stripF b (b.length + 1) 0).2 = 0
  · obtain ⟨i1, i2, i3⟩ := ho h0
    have hp := sum_pos i1
    simp only [h0, if_true, List.nil_append]
    have := sum_loop 0 (stripF b (b.length + 1) 0).1 (by omega) i1 (stripF b (b.length + 1) 0).1.length 0 FUEL 0 (by omega) (by have := FUEL_gt; omega) (by omega) (by simpa using i3)
    simpa [cadenzaref30_Front_p4] using this
  · simp only [h0, if_false]
    have := sum_loop (stripF b (b.length + 1) 0).2 [] (by simp) (by simp) 0 0 FUEL 0 (by simp) (by have := FUEL_gt; omega) (by omega) (by simp)
    simpa [cadenzaref30_Front_p4] using this
theorem frontS_ok {b : List UInt8} (h : (frontS b).2 = 0) : 0 ≤ (frontS b).1 ∧ (frontS b).1 ≤ b.length ∧ (frontS b).1 ≤ 4000 := by
  unfold frontS endF at h ⊢
  split at h
  · rename_i h0
    rw [if_pos h0]
    obtain ⟨i1, i2, i3⟩ := stripF_ok b (b.length + 1) 0 (by omega) (by omega) h0
    have hp := sum_pos i1
    exact ⟨by simp; omega, i2, i3⟩
  · rename_i h0; exact absurd h h0
end Go.Pl

set_option linter.unusedVariables false
set_option linter.unusedSimpArgs false
namespace Go.Pl
open Go Go.Lv
/-! ### how long frames are -/
def longN (r : Nat) : Nat := max 1 (256 * r / 245)
theorem longN_pos (r : Nat) : 1 ≤ longN r := Nat.le_max_left _ _
theorem longN_lt {r : Nat} (h : r ≤ 1048576) : longN r ≤ 1100000 := by unfold longN; omega
theorem long_val {r : Nat} (h : r ≤ 1048576) : gmax (1 : Int) (gquo (gmul (256 : Int) (r : Int)) (245 : Int)) = (longN r : Int) := by
  rw [gmul_n (by omega) (by omega), gquo_i, Int.tdiv_eq_ediv_of_nonneg (by omega), wrap64_id (by omega) (by omega), gmax_i, longN]; omega
/-- The lengths of the frames of n moments. -/
def framesL (g n : Nat) : List Int := List.replicate ((n - 1) / g) (g : Int) ++ [((n - (n - 1) / g * g : Nat) : Int)]
theorem framesL_len (g n : Nat) : (framesL g n).length = (n - 1) / g + 1 := by simp [framesL]
theorem framesL_small {g n : Nat} (h : n ≤ g) (h1 : 1 ≤ n) : framesL g n = [(n : Int)] := by
  rw [framesL, Nat.div_eq_of_lt (by omega)]; simp
theorem framesL_big {g n : Nat} (hg : 1 ≤ g) (h : g < n) : framesL g n = (g : Int) :: framesL g (n - g) := by
  have e : (n - 1) / g = (n - g - 1) / g + 1 := by rw [← Nat.add_div_right _ (by omega)]; congr 1; omega
  rw [framesL, framesL, e, List.replicate_succ, List.cons_append]
  congr 4
  have := Nat.div_mul_le_self (n - g - 1) g
  rw [Nat.add_mul, Nat.one_mul]; omega
theorem frames_count {g n : Nat} (hg : 1 ≤ g) (h1 : 1 ≤ n) : (n + g - 1) / g = (n - 1) / g + 1 := by
  rw [← Nat.add_div_right _ (by omega)]; congr 1; omega
theorem Long_prog {r : Nat} (h1 : 1 ≤ r) (h : r ≤ 1048576) : lengths_Long (r : Int) = some ((longN r : Int), 0) := by
  rw [lengths_Long, if_neg (by simp [glt_i, ggt_i]; omega), long_val h]
theorem Long_ref {r : Nat} (h : r ≤ 1048576) : cadenzaref25_Long (r : Int) = some (longN r : Int) := by rw [cadenzaref25_Long, long_val h]
theorem Count_prog {r n : Nat} (h1 : 1 ≤ r) (h : r ≤ 1048576) (n1 : 1 ≤ n) (n2 : n ≤ 4000) : lengths_Count (r : Int) (n : Int) = some (if 1000 < (n - 1) / longN r + 1 then (0, 4) else ((((n - 1) / longN r + 1 : Nat) : Int), 0)) := by
  have hp := longN_pos r
  have hl := longN_lt h
  have e : gquo (gsub (gadd (n : Int) (longN r : Int)) (1 : Int)) (longN r : Int) = (((n - 1) / longN r + 1 : Nat) : Int) := by
    have : (n + longN r - 1) / longN r ≤ n + longN r - 1 := Nat.div_le_self _ _
    rw [gadd_n (by omega) (by omega), gsub_n (by omega) (by omega), gquo_i, Int.tdiv_eq_ediv_of_nonneg (by omega), show (n : Int) + (longN r : Int) - 1 = ((n + longN r - 1 : Nat) : Int) by omega, ← Int.natCast_ediv, frames_count hp n1]
    rw [frames_count hp n1] at this
    generalize (n - 1) / longN r = k at *
    exact wrap64_id (by omega) (by omega)
  rw [lengths_Count, Long_prog h1 h, bind_s]
  simp only
  rw [if_neg (by rw [gne_i]; simp), if_neg (by simp [glt_i, ggt_i]; omega), okI_of (by rw [gne_i]; simp; omega), bind_s, e]
  by_cases hk : 1000 < (n - 1) / longN r + 1
  · rw [if_pos (by rw [ggt_i]; simp; omega), if_pos hk]
  · rw [if_neg (by rw [ggt_i]; simp; omega), if_neg hk]
theorem split_loop {r : Nat} (h : r ≤ 1048576) : ∀ (j n q : Nat) (acc : List Int), n ≤ 4000 → n ≤ j → j < q → acc.length + n ≤ 10000 → cadenzaref25_Split_l4 (r : Int) q (n : Int) acc = some (acc ++ (if n = 0 then [] else framesL (longN r) n))
  | 0, n, q + 1, acc, hn, hj, hq, ha => by
    obtain rfl : n = 0 := by omega
    rw [cadenzaref25_Split_l4, cadenzaref25_Split_s4, if_neg (by rw [ggt_i]; simp)]
    simp [cadenzaref25_Split_p6, cadenzaref25_Split_s6]
  | j + 1, n, q + 1, acc, hn, hj, hq, ha => by
    have hp := longN_pos r
    have hl := longN_lt h
    by_cases h0 : n = 0
    · subst h0
      rw [cadenzaref25_Split_l4, cadenzaref25_Split_s4, if_neg (by rw [ggt_i]; simp)]
      simp [cadenzaref25_Split_p6, cadenzaref25_Split_s6]
    · rw [cadenzaref25_Split_l4, cadenzaref25_Split_s4, if_pos (by rw [ggt_i]; simp; omega), Long_ref h, bind_s, appI_n (by simp; omega), bind_s, bind_s, gsub_n (by omega) (by omega), gmin_i]
      by_cases hs : n ≤ longN r
      · rw [show min (n : Int) (longN r : Int) = (n : Int) by omega, if_neg h0, framesL_small hs (by omega)]
        have hz : ∃ k, q = k + 1 := ⟨q - 1, by omega⟩
        obtain ⟨q, rfl⟩ := hz
        rw [cadenzaref25_Split_l4, cadenzaref25_Split_s4, if_neg (by rw [ggt_i]; simp; omega)]
        simp [cadenzaref25_Split_p6, cadenzaref25_Split_s6]
      · rw [show min (n : Int) (longN r : Int) = (longN r : Int) by omega, show (n : Int) - (longN r : Int) = ((n - longN r : Nat) : Int) by omega, split_loop h j (n - longN r) q _ (by omega) (by omega) (by omega) (by simp; omega), if_neg (by omega), if_neg h0, framesL_big hp (show longN r < n by omega)]
        simp
theorem Split_eq {r n : Nat} (h : r ≤ 1048576) (n1 : 1 ≤ n) (n2 : n ≤ 4000) : cadenzaref25_Split (r : Int) (n : Int) = some (framesL (longN r) n) := by
  have := split_loop h n n FUEL [] n2 (Nat.le_refl _) (by have := FUEL_gt; omega) (by simp; omega)
  rw [cadenzaref25_Split, cadenzaref25_Split_s0, cadenzaref25_Split_p4, this, if_neg (by omega)]; rfl
/-! the program's list -/
theorem mul_one (m : Nat) (h : m ≤ 100000) : math_bits_Mul (1 : UInt64) (UInt64.ofNat m) = some (0, UInt64.ofNat m) := by
  have y1 : (UInt64.ofNat m).toNat = m := u64_nat (by omega)
  have s1 : gshr (1 : UInt64) (GI.toZ (32 : UInt64)).toNat = 0 := by decide
  have s2 : gshr (UInt64.ofNat m) (GI.toZ (32 : UInt64)).toNat = 0 := by
    apply UInt64.toNat_inj.1
    rw [gshr_u64, y1]
    exact Nat.div_eq_of_lt (Nat.lt_of_le_of_lt h (by decide))
  have s0 : gshr (0 : UInt64) (GI.toZ (32 : UInt64)).toNat = 0 := by decide
  have a1 : gand (1 : UInt64) (4294967295 : UInt64) = 1 := by decide
  have a0 : gand (0 : UInt64) (4294967295 : UInt64) = 0 := by decide
  have a2 : gand (UInt64.ofNat m) (4294967295 : UInt64) = UInt64.ofNat m := by
    apply UInt64.toNat_inj.1
    rw [gand_u64, UInt64.toNat_and, y1]
    show m &&& (2 ^ 32 - 1) = m
    rw [Nat.and_two_pow_sub_one_eq_mod, Nat.mod_eq_of_lt (by omega)]
  have m1 : ∀ x : UInt64, gmul 1 x = x := fun x => by rw [gmul_u64, UInt64.one_mul]
  have m0 : ∀ x : UInt64, gmul 0 x = 0 := fun x => by rw [gmul_u64, UInt64.zero_mul]
  have p0 : ∀ x : UInt64, gadd 0 x = x := fun x => by rw [gadd_u64, UInt64.zero_add]
  have p1 : ∀ x : UInt64, gadd x 0 = x := fun x => by rw [gadd_u64, UInt64.add_zero]
  rw [math_bits_Mul, math_bits_Mul64]
  simp only [s1, s2, a1, a2, m1, m0, p0, p1, s0, a0, bind_s]
theorem repeat_loop (v : Int) (m : Nat) (hm : m ≤ 100000) : ∀ (j n q : Nat), 1 ≤ n → n ≤ m → m - n ≤ j → j < q → slices_Repeat_int_int_l8 q (n : Int) (List.replicate n v ++ List.replicate (m - n) 0) = some (List.replicate m v)
  | j, n, q + 1, hn, hnm, hj, hq => by
    have hlen : lenI (List.replicate n v ++ List.replicate (m - n) 0) = (m : Int) := by simp [lenI]; omega
    rw [slices_Repeat_int_int_l8, slices_Repeat_int_int_s8, hlen]
    by_cases h : n < m
    · obtain ⟨j, rfl⟩ : ∃ k, j = k + 1 := ⟨j - 1, by omega⟩
      rw [if_pos (by rw [glt_i]; simp; omega)]
      have v1 : vwI (m : Int) (n : Int) (m : Int) = some () := by rw [vwI, okI_of]; simp; omega
      have v2 : vwI (m : Int) (0 : Int) (n : Int) = some () := by rw [vwI, okI_of]; simp; omega
      have e1 : subL (List.replicate n v ++ List.replicate (m - n) 0) (0 : Int) ((n : Int) - 0) = List.replicate n v := by
        simp [subL]
      rw [v1, bind_s, v2, bind_s, e1]
      have e2 : copyN ((m : Int) - (n : Int)) (List.replicate n v).length = ((min n (m - n) : Nat) : Int) := by
        rw [copyN, List.length_replicate]; split <;> omega
      have e3 : copyAt (List.replicate n v ++ List.replicate (m - n) 0) (n : Int) ((m : Int) - (n : Int)) (List.replicate n v) = List.replicate (n + min n (m - n)) v ++ List.replicate (m - (n + min n (m - n))) 0 := by
        have t1 : ((m : Int) - (n : Int)).toNat = m - n := by omega
        have t2 : (List.replicate n v ++ List.replicate (m - n) (0 : Int)).take n = List.replicate n v := by simp
        rw [copyAt, t1, Int.toNat_natCast, t2, List.take_replicate, List.length_replicate, ← List.append_assoc, List.replicate_append_replicate, List.drop_append, List.length_replicate, Nat.min_comm (m - n) n]
        simp only [List.drop_replicate]
        rw [show n - (n + min n (m - n)) = 0 by omega, List.replicate_zero, List.nil_append, show m - n - (n + min n (m - n) - n) = m - (n + min n (m - n)) by omega]
      rw [e2, e3, gadd_n (by omega) (by omega), show (n : Int) + ((min n (m - n) : Nat) : Int) = ((n + min n (m - n) : Nat) : Int) by omega]
      exact repeat_loop v m hm j (n + min n (m - n)) q (by omega) (by omega) (by omega) (by omega)
    · rw [if_neg (by rw [glt_i]; simp; omega)]
      obtain rfl : n = m := by omega
      simp [slices_Repeat_int_int_p10, slices_Repeat_int_int_s10]
theorem Repeat_eq (v : Int) (m : Nat) (hm : m ≤ 100000) : slices_Repeat_int_int [v] (m : Int) = some (List.replicate m v) := by
  have y1 : (UInt64.ofNat m).toNat = m := u64_nat (by omega)
  have c1 : (gconv (lenI [v]) : UInt64) = 1 := by rfl
  have c2 : (gconv (m : Int) : UInt64) = UInt64.ofNat m := gconv_n64 m
  have c3 : (gconv (UInt64.ofNat m) : Int) = (m : Int) := by rw [gconv_64i (by omega), y1]
  rw [slices_Repeat_int_int, slices_Repeat_int_int_s0, if_neg (by rw [glt_i]; simp), slices_Repeat_int_int_p6, slices_Repeat_int_int_s6, c1, c2, mul_one m hm, bind_s]
  simp only
  rw [if_neg (by rw [ggt_u64, ggt_u64, y1]; simp; show m ≤ 9223372036854775807; omega), slices_Repeat_int_int_p7, slices_Repeat_int_int_s7, c3, mkI_n (by omega) (by omega), bind_s, okI_of (by rw [geq_i]; simp), bind_s, slices_Repeat_int_int_p8, Int.toNat_natCast]
  by_cases h0 : m = 0
  · subst h0
    have hF : FUEL = (FUEL - 1) + 1 := by have := FUEL_gt; omega
    rw [hF, slices_Repeat_int_int_l8, slices_Repeat_int_int_s8]
    simp [lenI, copyL, copyN, glt_i, slices_Repeat_int_int_p10, slices_Repeat_int_int_s10]
  · have := repeat_loop v m hm m 1 FUEL (by omega) (by omega) (by omega) (by have := FUEL_gt; omega)
    have e1 : copyN (lenI (List.replicate m (0 : Int))) [v].length = ((1 : Nat) : Int) := by simp [copyN, lenI]; omega
    have e2 : copyL (List.replicate m (0 : Int)) [v] = List.replicate 1 v ++ List.replicate (m - 1) 0 := by
      obtain ⟨k, rfl⟩ : ∃ k, m = k + 1 := ⟨m - 1, by omega⟩
      simp [copyL]
    rw [e1, e2, this]
theorem Concat_eq (l m : List Int) (h : l.length + m.length ≤ 1000000) : slices_Concat_int_int [l, m] = some (l ++ m) := by
  have hF : FUEL = (FUEL - 3) + 1 + 1 + 1 := by have := FUEL_gt; omega
  rw [slices_Concat_int_int, slices_Concat_int_int_s0, slices_Concat_int_int_p9]
  have g0 : getI [l, m] (0 : Int) = some l := rfl
  have g1 : getI [l, m] (1 : Int) = some m := rfl
  have l2 : lenI [l, m] = 2 := rfl
  have h3 : slices_Concat_int_int_p13 [l, m] [] = some (l ++ m) := by
    rw [slices_Concat_int_int_p13, slices_Concat_int_int_s13, slices_Concat_int_int_p14, hF, slices_Concat_int_int_l14, slices_Concat_int_int_s14, l2, if_pos (by decide), g0, bind_s, appI_n (by simp; omega), bind_s, List.nil_append, show gadd (0 : Int) 1 = 1 by decide,
      slices_Concat_int_int_l14, slices_Concat_int_int_s14, l2, if_pos (by decide), g1, bind_s, appI_n (by omega), bind_s, show gadd (1 : Int) 1 = 2 by decide, slices_Concat_int_int_l14, slices_Concat_int_int_s14, l2, if_neg (by decide)]
    rfl
  rw [hF, slices_Concat_int_int_l9, slices_Concat_int_int_s9, l2, if_pos (by decide), g0, bind_s, gadd_n (by unfold lenI; omega) (by unfold lenI; omega), if_neg (by rw [glt_i, lenI]; simp), show gadd (0 : Int) 1 = 1 by decide,
    slices_Concat_int_int_l9, slices_Concat_int_int_s9, l2, if_pos (by decide), g1, bind_s, gadd_n (by unfold lenI; omega) (by unfold lenI; omega), if_neg (by rw [glt_i, lenI, lenI]; simp; omega), show gadd (1 : Int) 1 = 2 by decide,
    slices_Concat_int_int_l9, slices_Concat_int_int_s9, l2, if_neg (by decide), slices_Concat_int_int_p11, slices_Concat_int_int_s11, if_neg (by rw [glt_i, lenI, lenI]; simp; omega), slices_Concat_int_int_p12, slices_Concat_int_int_s12]
  have z : gsub (0 : Int) 0 = 0 := by decide
  have n0 : (0 : Int) + lenI l + lenI m = ((l.length + m.length : Nat) : Int) := by simp [lenI]
  rw [z, n0, gsub_n (by omega) (by omega), Int.sub_zero]
  by_cases hp : 0 < l.length + m.length
  · rw [if_pos (by rw [ggt_i]; simp; omega), show vwI (0 : Int) 0 0 = some () from rfl, bind_s, mkI_n (by omega) (by omega), bind_s, appI_n (by simp; omega), bind_s]
    rw [show vwI (lenI ([] ++ List.replicate ((l.length + m.length : Nat) : Int).toNat (0 : Int))) 0 0 = some () by rw [vwI, okI_of]; simp [lenI]; omega, bind_s]
    simp only [subL, Int.sub_self, Int.toNat_zero, List.take_zero]
    exact h3
  · rw [if_neg (by rw [ggt_i]; simp; omega)]; exact h3
theorem All_prog {r n : Nat} (h1 : 1 ≤ r) (h : r ≤ 1048576) (n1 : 1 ≤ n) (n2 : n ≤ 4000) (hk : (n - 1) / longN r + 1 ≤ 1000) : lengths_All (r : Int) (n : Int) = some (framesL (longN r) n, 0) := by
  have hp := longN_pos r
  have hl := longN_lt h
  have hd := Nat.div_mul_le_self (n - 1) (longN r)
  rw [lengths_All, Count_prog h1 h n1 n2, if_neg (by omega), bind_s]
  simp only
  rw [if_neg (by rw [gne_i]; simp), Long_prog h1 h, bind_s]
  simp only
  rw [framesL]
  generalize (n - 1) / longN r = k at *
  have e1 : gsub ((k + 1 : Nat) : Int) 1 = (k : Int) := by rw [gsub_n (by omega) (by omega)]; omega
  have e2 : (k : Int) * (longN r : Int) = ((k * longN r : Nat) : Int) := by simp
  rw [e1, Repeat_eq _ _ (by omega), bind_s, gmul_n (by rw [e2]; omega) (by rw [e2]; omega), e2, gsub_n (by omega) (by omega), lengths_behind, Concat_eq _ _ (by simp; omega), bind_s, bind_s, show (n : Int) - ((k * longN r : Nat) : Int) = ((n - k * longN r : Nat) : Int) by omega]
end Go.Pl

set_option linter.unusedVariables false
set_option linter.unusedSimpArgs false
namespace Go.Pl
open Go Go.Lv
/-! ### headers -/
def shapeB (f c w r n : Nat) : Bool := decide ((f = 1 ∨ f = 2) ∧ (1 ≤ c ∧ c ≤ 6) ∧ (w = 8 ∨ w = 16 ∨ w = 24) ∧ (1 ≤ r ∧ r ≤ 1048576) ∧ 1 ≤ n)
def fitB (c r n : Nat) : Bool := decide (n ≤ 4000 / c ∧ (n - 1) / longN r + 1 ≤ 1000)
theorem shaped_prog (f c w r n : Nat) : header_shaped (f : Int) (c : Int) (w : Int) (r : Int) (n : Int) = some (shapeB f c w r n) := by
  have e2 : header_shaped_p2 (f : Int) (c : Int) (w : Int) (r : Int) (n : Int) = some (decide ((f = 1 ∨ f = 2) ∧ (1 ≤ c ∧ c ≤ 6) ∧ (1 ≤ r ∧ r ≤ 1048576) ∧ 1 ≤ n)) := by
    rw [header_shaped_p2, header_shaped_s2]
    congr 1
    rw [Bool.eq_iff_iff]
    simp only [geq_i, ggt_i, gle_i, Bool.and_eq_true, Bool.or_eq_true, beq_iff_eq, decide_eq_true_eq]
    omega
  have g : ∀ k : Nat, geq (w : Int) (k : Int) = decide (w = k) := fun k => by rw [geq_i, Bool.eq_iff_iff]; simp; omega
  have g8 : geq (w : Int) (8 : Int) = decide (w = 8) := g 8
  have g16 : geq (w : Int) (16 : Int) = decide (w = 16) := g 16
  have g24 : geq (w : Int) (24 : Int) = decide (w = 24) := g 24
  rw [header_shaped, header_shaped_s0, e2, g8, g16, g24, shapeB]
  by_cases h8 : w = 8
  · subst h8; simp
  · by_cases h16 : w = 16
    · subst h16; simp
    · by_cases h24 : w = 24
      · subst h24; simp
      · simp [h8, h16, h24]
theorem shaped_ref (f c w r n : Nat) : cadenzaref25_shaped (f : Int) (c : Int) (w : Int) (r : Int) (n : Int) = some (shapeB f c w r n) := by
  rw [cadenzaref25_shaped, shapeB]
  simp only [geq_i, gge_i, gle_i, Bool.and_eq_true, Bool.or_eq_true, beq_iff_eq, decide_eq_true_eq, Bool.false_and]
  split
  · rename_i h
    congr 1
    rw [Bool.eq_iff_iff]
    simp only [Bool.and_eq_true, Bool.or_eq_true, beq_iff_eq, decide_eq_true_eq]
    omega
  · rename_i h
    congr 1
    symm
    rw [decide_eq_false_iff_not]
    omega
theorem quo_c {c : Nat} (h : 1 ≤ c) : gquo (4000 : Int) (c : Int) = ((4000 / c : Nat) : Int) := by
  have : 4000 / c ≤ 4000 := Nat.div_le_self _ _
  rw [gquo_i, Int.tdiv_eq_ediv_of_nonneg (by omega), show (4000 : Int) = ((4000 : Nat) : Int) from rfl, ← Int.natCast_ediv]
  generalize 4000 / c = k at *
  exact wrap64_id (by omega) (by omega)
theorem fits_prog {f c w r n : Nat} (h : shapeB f c w r n = true) : header_fits (f : Int) (c : Int) (w : Int) (r : Int) (n : Int) = some (fitB c r n) := by
  simp only [shapeB, decide_eq_true_eq] at h
  have hd : 4000 / c ≤ 4000 := Nat.div_le_self _ _
  rw [header_fits, okI_of (by rw [gne_i]; simp; omega), bind_s, quo_c (by omega), fitB]
  generalize 4000 / c = m at *
  by_cases h1 : n ≤ m
  · rw [if_neg (by rw [ggt_i]; simp; omega), Count_prog (by omega) (by omega) (by omega) (by omega), bind_s]
    generalize (n - 1) / longN r + 1 = k
    by_cases h2 : 1000 < k
    · rw [if_pos h2]
      simp [geq_i, gle_i]
      omega
    · rw [if_neg h2]
      simp [geq_i, gle_i, h1]
      omega
  · rw [if_pos (by rw [ggt_i]; simp; omega)]
    simp [h1]
theorem many_ref {f c w r n : Nat} (h : shapeB f c w r n = true) : cadenzaref25_many (f : Int) (c : Int) (w : Int) (r : Int) (n : Int) = some (!fitB c r n) := by
  simp only [shapeB, decide_eq_true_eq] at h
  have hd : 4000 / c ≤ 4000 := Nat.div_le_self _ _
  rw [cadenzaref25_many, okI_of (by rw [gne_i]; simp; omega), bind_s, quo_c (by omega), fitB]
  generalize 4000 / c = m at *
  by_cases h1 : n ≤ m
  · rw [if_neg (by rw [ggt_i]; simp; omega), Split_eq (by omega) (by omega) (by omega), bind_s, lenI, framesL_len]
    generalize (n - 1) / longN r + 1 = k
    congr 1
    rw [ggt_i, Bool.eq_iff_iff]
    simp only [decide_eq_true_eq, Bool.not_eq_true', decide_eq_false_iff_not]
    omega
  · rw [if_pos (by rw [ggt_i]; simp; omega)]
    simp [h1]
def MAGIC : List UInt8 := [84, 84, 65, 49]
def f0 (b : List UInt8) : Nat := leN (part b 4 2)
def f1 (b : List UInt8) : Nat := leN (part b 6 2)
def f2 (b : List UInt8) : Nat := leN (part b 8 2)
def f3 (b : List UInt8) : Nat := leN (part b 10 4)
def f4 (b : List UInt8) : Nat := leN (part b 14 4)
abbrev H6 := Int × Int × Int × Int × Int × Int
/-- The header with which bytes begin. -/
def readS (b : List UInt8) : H6 :=
  if b.take (min 4 b.length) ≠ MAGIC.take (min 4 b.length) then (0, 0, 0, 0, 0, 12) else if b.length < 22 then (0, 0, 0, 0, 0, 24) else
  if (crcOf (b.take 18)).toNat ≠ leN (part b 18 4) then (0, 0, 0, 0, 0, 22) else
  if shapeB (f0 b) (f1 b) (f2 b) (f3 b) (f4 b) = false then (0, 0, 0, 0, 0, 12) else
  if fitB (f1 b) (f3 b) (f4 b) = false then (0, 0, 0, 0, 0, 4) else ((f0 b : Int), (f1 b : Int), (f2 b : Int), (f3 b : Int), (f4 b : Int), 0)
section
variable {b : List UInt8}
theorem rs1 (h : b.take (min 4 b.length) ≠ MAGIC.take (min 4 b.length)) : readS b = (0, 0, 0, 0, 0, 12) := by rw [readS, if_pos h]
variable (h : b.take (min 4 b.length) = MAGIC.take (min 4 b.length))
include h
theorem rs2 (h2 : b.length < 22) : readS b = (0, 0, 0, 0, 0, 24) := by rw [readS, if_neg (fun e => e h), if_pos h2]
variable (h2 : ¬ b.length < 22)
include h2
theorem rs3 (h3 : (crcOf (b.take 18)).toNat ≠ leN (part b 18 4)) : readS b = (0, 0, 0, 0, 0, 22) := by rw [readS, if_neg (fun e => e h), if_neg h2, if_pos h3]
variable (h3 : (crcOf (b.take 18)).toNat = leN (part b 18 4))
include h3
theorem rs4 (h4 : shapeB (f0 b) (f1 b) (f2 b) (f3 b) (f4 b) = false) : readS b = (0, 0, 0, 0, 0, 12) := by rw [readS, if_neg (fun e => e h), if_neg h2, if_neg (fun e => e h3), if_pos h4]
variable (h4 : shapeB (f0 b) (f1 b) (f2 b) (f3 b) (f4 b) = true)
include h4
theorem rs5 (h5 : fitB (f1 b) (f3 b) (f4 b) = false) : readS b = (0, 0, 0, 0, 0, 4) := by rw [readS, if_neg (fun e => e h), if_neg h2, if_neg (fun e => e h3), if_neg (by rw [h4]; simp), if_pos h5]
theorem rs6 (h5 : fitB (f1 b) (f3 b) (f4 b) = true) : readS b = ((f0 b : Int), (f1 b : Int), (f2 b : Int), (f3 b : Int), (f4 b : Int), 0) := by rw [readS, if_neg (fun e => e h), if_neg h2, if_neg (fun e => e h3), if_neg (by rw [h4]; simp), if_neg (by rw [h5]; simp)]
end
theorem sum_ne (b : List UInt8) (h2 : ¬ b.length < 22) : gne (gconv (crcOf (b.take 18)) : UInt64) (leU (part b 18 4)) = decide ((crcOf (b.take 18)).toNat ≠ leN (part b 18 4)) := by
  rw [gne_u64, gconv_32_64, Bool.eq_iff_iff]
  simp only [bne_iff_ne, ne_eq, decide_eq_true_eq]
  rw [← UInt64.toNat_inj, u64_nat (by have := (crcOf (b.take 18)).toNat_lt; omega), leU_nat (by rw [part_len (by omega)]; omega)]
theorem readStep (b : List UInt8) (a w : Nat) (i q : Nat) (l : List Int) (hi : i < 5) (hl : l.length = 5) (hw : getI ([2, 2, 2, 4, 4] : List Int) (i : Int) = some (w : Int)) (h1 : 1 ≤ w) (h4 : w ≤ 4) (ha : a + w ≤ b.length) (hb : b.length < 4611686018427387904) :
    header_Read_l4 b (q + 1) (a : Int) (i : Int) l = header_Read_l4 b q ((a + w : Nat) : Int) ((i + 1 : Nat) : Int) (l.set i (leN (part b a w) : Int)) := by
  rw [header_Read_l4, header_Read_s4, if_pos (by rw [glt_i]; simp; omega), hw, bind_s, At_eq b a w h1 (by omega) ha hb, bind_s]
  simp only
  rw [getI_n (by omega), bind_s, setI_n _ (by omega), bind_s, leU_int (by rw [part_len ha]; omega), gadd_n (by omega) (by omega), gadd_n (by omega) (by omega)]
  rfl
theorem readLoop (b : List UInt8) (h22 : ¬ b.length < 22) (hb : b.length < 4611686018427387904) : header_Read_p4 b 4 0 (List.replicate 5 0) = header_Read_p6 [(f0 b : Int), (f1 b : Int), (f2 b : Int), (f3 b : Int), (f4 b : Int)] := by
  have hF : FUEL = (FUEL - 6) + 1 + 1 + 1 + 1 + 1 + 1 := by have := FUEL_gt; omega
  rw [header_Read_p4, hF, show (4 : Int) = ((4 : Nat) : Int) from rfl, show (0 : Int) = ((0 : Nat) : Int) from rfl]
  rw [readStep b 4 2 0 _ _ (by omega) (by simp) rfl (by omega) (by omega) (by omega) hb, readStep b 6 2 1 _ _ (by omega) (by simp) rfl (by omega) (by omega) (by omega) hb, readStep b 8 2 2 _ _ (by omega) (by simp) rfl (by omega) (by omega) (by omega) hb,
    readStep b 10 4 3 _ _ (by omega) (by simp) rfl (by omega) (by omega) (by omega) hb, readStep b 14 4 4 _ _ (by omega) (by simp) rfl (by omega) (by omega) (by omega) hb, header_Read_l4, header_Read_s4, if_neg (by rw [glt_i]; simp)]
  rfl
theorem hasP (b : List UInt8) : strings_HasPrefix [84, 84, 65, 49] (b.take (min 4 b.length)) = some (decide (b.take (min 4 b.length) = MAGIC.take (min 4 b.length))) := by
  have hl : (b.take (min 4 b.length)).length = min 4 b.length := by rw [List.length_take]; omega
  rw [strings_HasPrefix, internal_stringslite_HasPrefix, if_pos (by rw [gge_i, lenI, lenI, hl]; simp; omega), lenI, hl, cutI_to (by omega) (by simp; omega), bind_s, bind_s, Int.toNat_natCast]
  congr 1
  rw [Bool.eq_iff_iff]
  rw [decide_eq_true_eq, beq_iff_eq]
  exact eq_comm
theorem min4 (b : List UInt8) : gmin (4 : Int) (lenI b) = ((min 4 b.length : Nat) : Int) := by rw [gmin_i, lenI]; omega
theorem Read_prog (b : List UInt8) (hb : b.length < 4611686018427387904) : header_Read b = some (readS b) := by
  rw [header_Read, header_Read_s0, min4, cutI_to (by omega) (by omega), bind_s, Int.toNat_natCast, hasP, bind_s]
  by_cases h : b.take (min 4 b.length) = MAGIC.take (min 4 b.length)
  · rw [if_neg (by simpa using h)]
    by_cases h2 : b.length < 22
    · rw [if_pos (by rw [glt_i, lenI]; simp; omega), rs2 h h2]
    · have a1 : le_At b 18 4 = some (leU (part b 18 4), 0) := At_eq b 18 4 (by omega) (by omega) (by omega) hb
      rw [if_neg (by rw [glt_i, lenI]; simp; omega), a1, bind_s]
      simp only
      rw [cutI_to (by omega) (by omega), bind_s, show (18 : Int).toNat = 18 from rfl, Sum_eq _ (by simp; omega), bind_s]
      simp only
      rw [sum_ne b h2]
      by_cases h3 : (crcOf (b.take 18)).toNat = leN (part b 18 4)
      · rw [if_neg (by simpa using h3), readLoop b h2 hb, header_Read_p6, header_Read_s6]
        rw [show getI [(f0 b : Int), (f1 b : Int), (f2 b : Int), (f3 b : Int), (f4 b : Int)] 0 = some (f0 b : Int) from rfl, show getI [(f0 b : Int), (f1 b : Int), (f2 b : Int), (f3 b : Int), (f4 b : Int)] 1 = some (f1 b : Int) from rfl, show getI [(f0 b : Int), (f1 b : Int), (f2 b : Int), (f3 b : Int), (f4 b : Int)] 2 = some (f2 b : Int) from rfl,
          show getI [(f0 b : Int), (f1 b : Int), (f2 b : Int), (f3 b : Int), (f4 b : Int)] 3 = some (f3 b : Int) from rfl, show getI [(f0 b : Int), (f1 b : Int), (f2 b : Int), (f3 b : Int), (f4 b : Int)] 4 = some (f4 b : Int) from rfl]
        simp only [bind_s, shaped_prog]
        cases h4 : shapeB (f0 b) (f1 b) (f2 b) (f3 b) (f4 b) with
        | false => rw [rs4 h h2 h3 h4]; rfl
        | true =>
          rw [fits_prog h4, if_neg (by simp), bind_s]
          cases h5 : fitB (f1 b) (f3 b) (f4 b) with
          | false => rw [rs5 h h2 h3 h4 h5]; rfl
          | true => rw [rs6 h h2 h3 h4 h5]; rfl
      · rw [if_pos (by simpa using h3), rs3 h h2 h3]
  · rw [if_pos (by simpa using h), rs1 h]
theorem Read_ref (b : List UInt8) (hb : b.length < 4611686018427387904) : cadenzaref25_Read b = some (readS b) := by
  rw [cadenzaref25_Read, cadenzaref25_Read_s0, min4, cutI_to (by omega) (by omega), bind_s, Int.toNat_natCast, cutI_to (by omega) (by simp; omega), bind_s, Int.toNat_natCast]
  by_cases h : b.take (min 4 b.length) = MAGIC.take (min 4 b.length)
  · rw [if_neg (by rw [h]; simp [MAGIC]), cadenzaref25_Read_p4, cadenzaref25_Read_s4]
    by_cases h2 : b.length < 22
    · rw [if_pos (by rw [glt_i, lenI]; simp; omega), rs2 h h2]
    · have a1 : cutI b 18 22 = some (part b 18 4) := cut_part 18 4 (by omega)
      have c1 : cutI b 4 6 = some (part b 4 2) := cut_part 4 2 (by omega)
      have c2 : cutI b 6 8 = some (part b 6 2) := cut_part 6 2 (by omega)
      have c3 : cutI b 8 10 = some (part b 8 2) := cut_part 8 2 (by omega)
      have c4 : cutI b 10 14 = some (part b 10 4) := cut_part 10 4 (by omega)
      have c5 : cutI b 14 18 = some (part b 14 4) := cut_part 14 4 (by omega)
      have hs : gne (leU (part b 18 4)) (gconv (crcOf (b.take 18)) : UInt64) = decide ((crcOf (b.take 18)).toNat ≠ leN (part b 18 4)) := by
        rw [← sum_ne b h2, gne_u64, gne_u64, Bool.eq_iff_iff]; simp only [bne_iff_ne, ne_eq]; exact not_congr eq_comm
      have lp : ∀ a w, a + w ≤ b.length → cadenzaref01_Of (part b a w) = some (leU (part b a w)) := fun a w h => Of_eq _ (by rw [part_len h]; omega)
      rw [if_neg (by rw [glt_i, lenI]; simp; omega), a1, bind_s, cutI_to (by omega) (by omega), bind_s, show (18 : Int).toNat = 18 from rfl, lp _ _ (by omega), bind_s, refOf _ (by simp; omega), bind_s, hs]
      by_cases h3 : (crcOf (b.take 18)).toNat = leN (part b 18 4)
      · rw [if_neg (by simpa using h3), cadenzaref25_Read_p5, cadenzaref25_Read_s5, c1, bind_s, c2, bind_s, c3, bind_s, c4, bind_s, c5, bind_s, lp _ _ (by omega), bind_s, lp _ _ (by omega), bind_s, lp _ _ (by omega), bind_s, lp _ _ (by omega), bind_s, lp _ _ (by omega), bind_s,
          cadenzaref25_Read_p6, cadenzaref25_Read_s6, leU_int (by rw [part_len (by omega)]; omega), leU_int (by rw [part_len (by omega)]; omega), leU_int (by rw [part_len (by omega)]; omega), leU_int (by rw [part_len (by omega)]; omega), leU_int (by rw [part_len (by omega)]; omega)]
        rw [show leN (part b 4 2) = f0 b from rfl, show leN (part b 6 2) = f1 b from rfl, show leN (part b 8 2) = f2 b from rfl, show leN (part b 10 4) = f3 b from rfl, show leN (part b 14 4) = f4 b from rfl, shaped_ref, bind_s]
        cases h4 : shapeB (f0 b) (f1 b) (f2 b) (f3 b) (f4 b) with
        | false => rw [rs4 h h2 h3 h4]; rfl
        | true =>
          rw [many_ref h4, if_neg (by simp), bind_s]
          cases h5 : fitB (f1 b) (f3 b) (f4 b) with
          | false => rw [rs5 h h2 h3 h4 h5]; rfl
          | true => rw [rs6 h h2 h3 h4 h5]; rfl
      · rw [if_pos (by simpa using h3), rs3 h h2 h3]
  · rw [if_pos (by simpa [MAGIC] using h), rs1 h]
/-- What a right header is. -/
theorem readS_ok {b : List UInt8} (h : (readS b).2.2.2.2.2 = 0) : readS b = ((f0 b : Int), (f1 b : Int), (f2 b : Int), (f3 b : Int), (f4 b : Int), 0) ∧ 22 ≤ b.length ∧ shapeB (f0 b) (f1 b) (f2 b) (f3 b) (f4 b) = true ∧ fitB (f1 b) (f3 b) (f4 b) = true := by
  unfold readS at h ⊢
  split at h; · simp at h
  rename_i c1; rw [if_neg c1]
  split at h; · simp at h
  rename_i c2; rw [if_neg c2]
  split at h; · simp at h
  rename_i c3; rw [if_neg c3]
  split at h; · simp at h
  rename_i c4; rw [if_neg c4]
  split at h; · simp at h
  rename_i c5; rw [if_neg c5]
  exact ⟨rfl, by omega, by simpa using c4, by simpa using c5⟩
theorem Frames_prog {f c w r n : Nat} (h : shapeB f c w r n = true) (h2 : fitB c r n = true) : header_Frames (f : Int) (c : Int) (w : Int) (r : Int) (n : Int) = some (framesL (longN r) n, 0) := by
  have hc : header_Check (f : Int) (c : Int) (w : Int) (r : Int) (n : Int) = some 0 := by
    rw [header_Check, shaped_prog, bind_s, h, if_neg (by simp), fits_prog h, bind_s, h2]; rfl
  have hd : 4000 / c ≤ 4000 := Nat.div_le_self _ _
  simp only [shapeB, decide_eq_true_eq] at h
  simp only [fitB, decide_eq_true_eq] at h2
  rw [header_Frames, hc, bind_s, if_neg (by rw [gne_i]; simp), All_prog (by omega) (by omega) (by omega) (by omega) h2.2]
  rfl
end Go.Pl

set_option linter.unusedVariables false
set_option linter.unusedSimpArgs false
namespace Go.Pl
open Go Go.Lv
/-! ### tables -/
def okL : List Int → Int → Bool
  | [], _ => true
  | x :: l, left => decide (5 ≤ x ∧ x ≤ left) && okL l (left - x)
theorem sum5 : ∀ l : List Int, (∀ x ∈ l, 5 ≤ x) → 0 ≤ l.sum
  | [], _ => by simp
  | x :: l, h => by
    have h1 := h x List.mem_cons_self
    have h2 := sum5 l fun y hy => h y (List.mem_cons_of_mem _ hy)
    rw [List.sum_cons]; omega
theorem okL_iff : ∀ (l : List Int) (left : Int), 0 ≤ left → (okL l left = true ↔ (∀ x ∈ l, 5 ≤ x) ∧ l.sum ≤ left)
  | [], left, h => by simp [okL]; exact h
  | x :: l, left, h => by
    rw [okL, Bool.and_eq_true, decide_eq_true_eq, List.sum_cons]
    by_cases hx : 5 ≤ x ∧ x ≤ left
    · rw [okL_iff l (left - x) (by omega)]
      constructor
      · rintro ⟨_, h1, h2⟩
        exact ⟨fun y hy => (List.mem_cons.1 hy).elim (fun e => e ▸ hx.1) (h1 y), by omega⟩
      · rintro ⟨h1, h2⟩
        exact ⟨hx, fun y hy => h1 y (List.mem_cons_of_mem _ hy), by omega⟩
    · constructor
      · rintro ⟨h1, _⟩; exact absurd h1 hx
      · rintro ⟨h1, h2⟩
        have h3 := h1 x List.mem_cons_self
        have : 0 ≤ l.sum := sum5 l fun y hy => h1 y (List.mem_cons_of_mem _ hy)
        omega
theorem check_loop (l : List Int) (hl : l.length ≤ 1000) (hx : ∀ x ∈ l, 0 ≤ x ∧ x < 4294967296) : ∀ (j i q : Nat) (left : Int), i + j = l.length → j < q → 0 ≤ left → left ≤ 100000 → seeks_Check_l4 l q left (i : Int) = some (if okL (l.drop i) left = true then 0 else 8)
  | 0, i, q + 1, left, hi, _, _, _ => by
    rw [seeks_Check_l4, seeks_Check_s4, if_neg (by rw [glt_i, lenI]; simp; omega), show i = l.length by omega, List.drop_length]; rfl
  | j + 1, i, q + 1, left, hi, hq, h0, h1 => by
    have hlt : i < l.length := by omega
    have hb := hx l[i] (List.getElem_mem hlt)
    rw [seeks_Check_l4, seeks_Check_s4, if_pos (by rw [glt_i, lenI]; simp; omega), getI_n hlt, bind_s, drop_cons hlt]
    by_cases h : 5 ≤ l[i] ∧ l[i] ≤ left
    · rw [if_neg (by simp [glt_i, ggt_i]; omega), gsub_n (by omega) (by omega), gadd_n (by omega) (by omega)]
      have ih := check_loop l hl hx j (i + 1) q (left - l[i]) (by omega) (by omega) (by omega) (by omega)
      rw [show ((i : Int) + 1) = ((i + 1 : Nat) : Int) by omega, ih]
      simp [okL, h]
    · rw [if_pos (by simp [glt_i, ggt_i]; omega)]
      have : okL (l[i] :: l.drop (i + 1)) left = false := by rw [okL, decide_eq_false h]; rfl
      rw [this]; rfl
/-- A table is right. -/
def tabB (l : List Int) : Bool := decide (1 ≤ l.length ∧ l.length ≤ 1000) && okL l 100000
theorem Check_prog (l : List Int) (hl : l.length ≤ 1000) (hx : ∀ x ∈ l, 0 ≤ x ∧ x < 4294967296) : seeks_Check l = some (if tabB l = true then 0 else 8) := by
  rw [seeks_Check, seeks_Check_s0, tabB]
  by_cases h : 1 ≤ l.length
  · rw [if_neg (by rw [geq_i, ggt_i, lenI]; simp; constructor; (intro e; subst e; simp at h); omega), seeks_Check_p4]
    have := check_loop l hl hx l.length 0 FUEL 100000 (by omega) (by have := FUEL_gt; omega) (by omega) (by omega)
    rw [List.drop_zero] at this
    rw [decide_eq_true (show 1 ≤ l.length ∧ l.length ≤ 1000 from ⟨h, hl⟩), Bool.true_and]
    exact this
  · have : l = [] := by
      cases l with
      | nil => rfl
      | cons _ _ => simp at h
    subst this; rfl
theorem check_ref (l : List Int) (hl : l.length ≤ 1000) (hx : ∀ x ∈ l, 0 ≤ x ∧ x < 4294967296) : ∀ (j i q : Nat) (s : Int), i + j = l.length → j < q → 0 ≤ s → s ≤ 100000 * (i : Int) → cadenzaref26_Check_l6 l q s (i : Int) = some (if (∀ x ∈ l.drop i, 5 ≤ x ∧ x ≤ 100000) ∧ s + (l.drop i).sum ≤ 100000 then 0 else 8)
  | 0, i, q + 1, s, hi, _, _, _ => by
    rw [cadenzaref26_Check_l6, cadenzaref26_Check_s6, if_neg (by rw [glt_i, lenI]; simp; omega), show i = l.length by omega, List.drop_length, cadenzaref26_Check_p10, cadenzaref26_Check_s10]
    by_cases h : s ≤ 100000
    · rw [if_neg (by rw [ggt_i]; simp; omega), if_pos (by simp; omega)]
    · rw [if_pos (by rw [ggt_i]; simp; omega), if_neg (by simp; omega)]
  | j + 1, i, q + 1, s, hi, hq, h0, h1 => by
    have hlt : i < l.length := by omega
    have hb := hx l[i] (List.getElem_mem hlt)
    rw [cadenzaref26_Check_l6, cadenzaref26_Check_s6, if_pos (by rw [glt_i, lenI]; simp; omega), getI_n hlt, bind_s, drop_cons hlt]
    by_cases h5 : l[i] < 5
    · rw [if_pos (by rw [glt_i]; simpa using h5), if_neg (fun h => by have := (h.1 l[i] List.mem_cons_self).1; omega)]
    · rw [if_neg (by rw [glt_i]; simpa using h5), bind_s]
      by_cases h6 : 100000 < l[i]
      · rw [if_pos (by rw [ggt_i]; simpa using h6), if_neg (fun h => by have := (h.1 l[i] List.mem_cons_self).2; omega)]
      · rw [if_neg (by rw [ggt_i]; simpa using h6), cadenzaref26_Check_p8, cadenzaref26_Check_s8, getI_n hlt, bind_s, gadd_n (by omega) (by omega), gadd_n (by omega) (by omega)]
        have ih := check_ref l hl hx j (i + 1) q (s + l[i]) (by omega) (by omega) (by omega) (by omega)
        rw [show ((i : Int) + 1) = ((i + 1 : Nat) : Int) by omega, ih]
        have e : ((∀ x ∈ l.drop (i + 1), 5 ≤ x ∧ x ≤ 100000) ∧ s + l[i] + (l.drop (i + 1)).sum ≤ 100000) ↔ ((∀ x ∈ l[i] :: l.drop (i + 1), 5 ≤ x ∧ x ≤ 100000) ∧ s + (l[i] :: l.drop (i + 1)).sum ≤ 100000) := by
          rw [List.sum_cons, List.forall_mem_cons, Int.add_assoc]
          constructor
          · rintro ⟨a, b⟩; exact ⟨⟨by omega, a⟩, b⟩
          · rintro ⟨⟨_, a⟩, b⟩; exact ⟨a, b⟩
        simp only [e]
theorem sum_ge : ∀ {l : List Int}, (∀ x ∈ l, 5 ≤ x) → ∀ x ∈ l, x ≤ l.sum
  | [], _, x, hx => by simp at hx
  | y :: l, h, x, hx => by
    have h1 := h y List.mem_cons_self
    have h2 := sum5 l fun z hz => h z (List.mem_cons_of_mem _ hz)
    rw [List.sum_cons]
    rcases List.mem_cons.1 hx with rfl | hx
    · omega
    · have := sum_ge (l := l) (fun z hz => h z (List.mem_cons_of_mem _ hz)) x hx
      omega
theorem Check_ref (l : List Int) (hl : l.length ≤ 1000) (hx : ∀ x ∈ l, 0 ≤ x ∧ x < 4294967296) : cadenzaref26_Check l = some (if tabB l = true then 0 else 8) := by
  rw [cadenzaref26_Check, cadenzaref26_Check_s0, tabB]
  by_cases h : 1 ≤ l.length
  · have := check_ref l hl hx l.length 0 FUEL 0 (by omega) (by have := FUEL_gt; omega) (by omega) (by omega)
    rw [if_neg (by rw [glt_i, ggt_i, lenI]; simp; omega), cadenzaref26_Check_p6]
    refine Eq.trans this ?_
    rw [List.drop_zero, decide_eq_true (show 1 ≤ l.length ∧ l.length ≤ 1000 from ⟨h, hl⟩), Bool.true_and]
    have e : ((∀ x ∈ l, 5 ≤ x ∧ x ≤ 100000) ∧ 0 + l.sum ≤ 100000) ↔ okL l 100000 = true := by
      rw [okL_iff l 100000 (by omega), Int.zero_add]
      constructor
      · rintro ⟨a, b⟩; exact ⟨fun x hx => (a x hx).1, b⟩
      · rintro ⟨a, b⟩; exact ⟨fun x hx => ⟨a x hx, Int.le_trans (sum_ge a x hx) b⟩, b⟩
    simp only [e]
  · have : l = [] := by
      cases l with
      | nil => rfl
      | cons _ _ => simp at h
    subst this; rfl
/-- The numbers of a table. -/
def tabL (b : List UInt8) (n : Nat) : List Int := (List.range n).map fun i => (leN (part b (4 * i) 4) : Int)
theorem tabL_len (b : List UInt8) (n : Nat) : (tabL b n).length = n := by simp [tabL]
theorem tabL_snoc (b : List UInt8) (n : Nat) : tabL b (n + 1) = tabL b n ++ [(leN (part b (4 * n) 4) : Int)] := by simp [tabL, List.range_succ]
theorem tabL_lt (b : List UInt8) (n : Nat) (h : 4 * n ≤ b.length) : ∀ x ∈ tabL b n, 0 ≤ x ∧ x < 4294967296 := by
  intro x hx
  simp only [tabL, List.mem_map, List.mem_range] at hx
  obtain ⟨i, hi, rfl⟩ := hx
  have := leN_lt4 (l := part b (4 * i) 4) (by rw [part_len (by omega)]; omega)
  omega
def seekS (b : List UInt8) (n : Nat) : List Int × Int :=
  if ¬ (1 ≤ n ∧ n ≤ 1000) then ([], 2) else if b.length < 4 * n + 4 then ([], 24) else if (crcOf (b.take (4 * n))).toNat ≠ leN (part b (4 * n) 4) then ([], 22) else
  if tabB (tabL b n) = true then (tabL b n, 0) else ([], 12)
theorem sum_ne2 {b : List UInt8} {n : Nat} (h : 1 ≤ n ∧ n ≤ 1000) (h2 : ¬ b.length < 4 * n + 4) : gne (gconv (crcOf (b.take (4 * n))) : UInt64) (leU (part b (4 * n) 4)) = decide ((crcOf (b.take (4 * n))).toNat ≠ leN (part b (4 * n) 4)) := by
  rw [gne_u64, gconv_32_64, Bool.eq_iff_iff]
  simp only [bne_iff_ne, ne_eq, decide_eq_true_eq]
  rw [← UInt64.toNat_inj, u64_nat (by have := (crcOf (b.take (4 * n))).toNat_lt; omega), leU_nat (by rw [part_len (by omega)]; omega)]
section
variable {b : List UInt8} {n : Nat}
theorem ss1 (h : ¬ (1 ≤ n ∧ n ≤ 1000)) : seekS b n = ([], 2) := by rw [seekS, if_pos h]
variable (h : 1 ≤ n ∧ n ≤ 1000)
include h
theorem ss2 (h2 : b.length < 4 * n + 4) : seekS b n = ([], 24) := by rw [seekS, if_neg (fun e => e h), if_pos h2]
variable (h2 : ¬ b.length < 4 * n + 4)
include h2
theorem ss3 (h3 : (crcOf (b.take (4 * n))).toNat ≠ leN (part b (4 * n) 4)) : seekS b n = ([], 22) := by rw [seekS, if_neg (fun e => e h), if_neg h2, if_pos h3]
theorem ss4 (h3 : (crcOf (b.take (4 * n))).toNat = leN (part b (4 * n) 4)) : seekS b n = if tabB (tabL b n) = true then (tabL b n, 0) else ([], 12) := by rw [seekS, if_neg (fun e => e h), if_neg h2, if_neg (fun e => e h3)]
end
theorem seek_loop (b : List UInt8) (l8 : List Int) (n : Nat) (hn : n ≤ 1000) (h8 : l8.length = n) (hb : 4 * n + 4 ≤ b.length) (hb2 : b.length < 4611686018427387904) : ∀ (j i q : Nat), i + j = n → j < q → seeks_Read_l4 b l8 q (i : Int) (tabL b i ++ List.replicate j 0) = seeks_Read_p6 (tabL b n)
  | 0, i, q + 1, hi, _ => by
    obtain rfl : i = n := by omega
    rw [seeks_Read_l4, seeks_Read_s4, if_neg (by rw [glt_i, lenI]; simp; omega)]; simp
  | j + 1, i, q + 1, hi, hq => by
    have hlen : (tabL b i ++ List.replicate (j + 1) 0).length = i + (j + 1) := by simp [tabL_len]
    have ha := At_eq b (4 * i) 4 (by omega) (by omega) (by omega) hb2
    rw [seeks_Read_l4, seeks_Read_s4, if_pos (by rw [glt_i, lenI]; simp; omega), gmul_n (by omega) (by omega), show (4 : Int) * (i : Int) = ((4 * i : Nat) : Int) by omega, show (4 : Int) = ((4 : Nat) : Int) from rfl, ha, bind_s]
    simp only
    rw [getI_n (by rw [hlen]; omega), bind_s, setI_n _ (by rw [hlen]; omega), bind_s, leU_int (by rw [part_len (by omega)]; omega), gadd_n (by omega) (by omega), List.replicate_succ, set_mid (tabL_len _ _)]
    have ih := seek_loop b l8 n hn h8 hb hb2 j (i + 1) q (by omega) (by omega)
    rw [tabL_snoc] at ih
    rw [show ((i : Int) + 1) = ((i + 1 : Nat) : Int) by omega, ← ih]
    simp
theorem Seek_prog (b : List UInt8) (n : Nat) (hb : b.length ≤ 100100) : seeks_Read b (n : Int) = some (seekS b n) := by
  rw [seeks_Read, seeks_Read_s0]
  by_cases h : 1 ≤ n ∧ n ≤ 1000
  · rw [if_neg (by simp [glt_i, ggt_i]; omega), gmul_n (by omega) (by omega), gadd_n (by omega) (by omega)]
    by_cases h2 : b.length < 4 * n + 4
    · rw [if_pos (by rw [glt_i, lenI]; simp; omega), ss2 h h2]
    · have ha : le_At b (4 * (n : Int)) 4 = some (leU (part b (4 * n) 4), 0) := by
        rw [show (4 : Int) * (n : Int) = ((4 * n : Nat) : Int) by omega]
        exact At_eq b (4 * n) 4 (by omega) (by omega) (by omega) (by omega)
      rw [if_neg (by rw [glt_i, lenI]; simp; omega), ha, bind_s]
      simp only
      rw [cutI_to (by omega) (by omega), bind_s, show (4 * (n : Int)).toNat = 4 * n by omega, Sum_eq _ (by simp; omega), bind_s]
      simp only
      rw [sum_ne2 h h2]
      by_cases h3 : (crcOf (b.take (4 * n))).toNat = leN (part b (4 * n) 4)
      · have hlp := seek_loop b (List.replicate n 0) n (by omega) (by simp) (by omega) (by omega) n 0 FUEL (by omega) (by have := FUEL_gt; omega)
        rw [if_neg (by simpa using h3), mkI_n (by omega) (by omega), bind_s, okI_of (by rw [geq_i]; simp), bind_s, seeks_Read_p4, Int.toNat_natCast]
        refine Eq.trans (hlp) ?_
        rw [seeks_Read_p6, seeks_Read_s6, Check_prog _ (by rw [tabL_len]; omega) (tabL_lt b n (by omega)), bind_s, ss4 h h2 h3]
        cases tabB (tabL b n) <;> rfl
      · rw [if_pos (by simpa using h3), ss3 h h2 h3]
  · rw [if_pos (by simp [glt_i, ggt_i]; omega), ss1 h]
theorem seek_ref_loop (b : List UInt8) (n : Nat) (hn : n ≤ 1000) (hb : 4 * n + 4 ≤ b.length) (hb2 : b.length < 4611686018427387904) : ∀ (j i q : Nat), i + j = n → j < q → cadenzaref26_Read_l6 b (n : Int) q (i : Int) (tabL b i) = cadenzaref26_Read_p8 (tabL b n)
  | 0, i, q + 1, hi, _ => by
    obtain rfl : i = n := by omega
    rw [cadenzaref26_Read_l6, cadenzaref26_Read_s6, if_neg (by rw [glt_i]; simp)]
  | j + 1, i, q + 1, hi, hq => by
    have hc : cutI b ((4 : Int) * (i : Int)) ((4 : Int) * (i : Int) + 4) = some (part b (4 * i) 4) := by
      rw [show (4 : Int) * (i : Int) = ((4 * i : Nat) : Int) by omega]
      exact cut_part (4 * i) 4 (by omega)
    rw [cadenzaref26_Read_l6, cadenzaref26_Read_s6, if_pos (by rw [glt_i]; simp; omega), gmul_n (by omega) (by omega), gadd_n (by omega) (by omega), hc, bind_s, Of_eq _ (by rw [part_len (by omega)]; omega), bind_s, appI_n (by rw [tabL_len]; simp; omega), bind_s,
      leU_int (by rw [part_len (by omega)]; omega), gadd_n (by omega) (by omega), ← tabL_snoc]
    exact seek_ref_loop b n hn hb hb2 j (i + 1) q (by omega) (by omega)
theorem Seek_ref (b : List UInt8) (n : Nat) (hb : b.length ≤ 100100) : cadenzaref26_Read b (n : Int) = some (seekS b n) := by
  rw [cadenzaref26_Read, cadenzaref26_Read_s0]
  by_cases h : 1 ≤ n ∧ n ≤ 1000
  · rw [if_neg (by simp [glt_i, ggt_i]; omega), gmul_n (by omega) (by omega), gadd_n (by omega) (by omega)]
    by_cases h2 : b.length < 4 * n + 4
    · rw [if_pos (by rw [glt_i, lenI]; simp; omega), ss2 h h2]
    · have hc : cutI b ((4 : Int) * (n : Int)) ((4 : Int) * (n : Int) + 4) = some (part b (4 * n) 4) := by
        rw [show (4 : Int) * (n : Int) = ((4 * n : Nat) : Int) by omega]
        exact cut_part (4 * n) 4 (by omega)
      have hs : gne (leU (part b (4 * n) 4)) (gconv (crcOf (b.take (4 * n))) : UInt64) = decide ((crcOf (b.take (4 * n))).toNat ≠ leN (part b (4 * n) 4)) := by
        rw [← sum_ne2 h h2, gne_u64, gne_u64, Bool.eq_iff_iff]; simp only [bne_iff_ne, ne_eq]; exact not_congr eq_comm
      rw [if_neg (by rw [glt_i, lenI]; simp; omega), hc, bind_s, cutI_to (by omega) (by omega), bind_s, show (4 * (n : Int)).toNat = 4 * n by omega, Of_eq _ (by rw [part_len (by omega)]; omega), bind_s, refOf _ (by simp; omega), bind_s, hs]
      by_cases h3 : (crcOf (b.take (4 * n))).toNat = leN (part b (4 * n) 4)
      · have hlp := seek_ref_loop b n (by omega) (by omega) (by omega) n 0 FUEL (by omega) (by have := FUEL_gt; omega)
        rw [if_neg (by simpa using h3), cadenzaref26_Read_p5, cadenzaref26_Read_s5, cadenzaref26_Read_p6]
        refine Eq.trans hlp ?_
        rw [cadenzaref26_Read_p8, cadenzaref26_Read_s8, Check_ref _ (by rw [tabL_len]; omega) (tabL_lt b n (by omega)), bind_s, ss4 h h2 h3]
        cases tabB (tabL b n) <;> rfl
      · rw [if_pos (by simpa using h3), ss3 h h2 h3]
  · rw [if_pos (by simp [glt_i, ggt_i]; omega), ss1 h]
theorem seekS_ok {b : List UInt8} {n : Nat} (h : (seekS b n).2 = 0) : seekS b n = (tabL b n, 0) ∧ 1 ≤ n ∧ n ≤ 1000 ∧ 4 * n + 4 ≤ b.length ∧ (∀ x ∈ tabL b n, 5 ≤ x) ∧ (tabL b n).sum ≤ 100000 := by
  unfold seekS at h ⊢
  split at h; · simp at h
  rename_i c1; rw [if_neg c1]
  split at h; · simp at h
  rename_i c2; rw [if_neg c2]
  split at h; · simp at h
  rename_i c3; rw [if_neg c3]
  split at h
  · rename_i c4
    rw [if_pos c4]
    have c4' := c4
    rw [tabB, Bool.and_eq_true, okL_iff _ _ (by omega)] at c4'
    exact ⟨rfl, by omega, by omega, by omega, c4'.2.1, c4'.2.2⟩
  · simp at h
end Go.Pl

set_option linter.unusedVariables false
set_option linter.unusedSimpArgs false
namespace Go.Pl
open Go Go.Lv
/-! ### the parts of a file -/
def hdr (b : List UInt8) : List UInt8 := b.drop (frontS b).1.toNat
def frames (b : List UInt8) : List Int := framesL (longN (f3 (hdr b))) (f4 (hdr b))
/-- Where the table begins. -/
def tabP (b : List UInt8) : Nat := (frontS b).1.toNat + 22 + (if f0 (hdr b) = 2 then 8 else 0)
def Sum (l : List Int) : Int := l.sum
theorem front_err {b : List UInt8} : (frontS b).2 ≠ 0 → frontS b = (0, (frontS b).2) := by
  intro h
  unfold frontS endF at h ⊢
  split
  · rename_i h0; rw [if_pos h0] at h; exact absurd rfl h
  · rfl
/-- The beginning of a file: error, or all is right. -/
theorem start_eq (b : List UInt8) (hb : b.length ≤ 100100) :
    (∃ e : Int, e ≠ 0 ∧ (∃ r1 r2 r3 r4 r5, valid_start b = some (r1, r2, r3, r4, r5, 0, 0, 0, 0, 0, [], e)) ∧ (∃ q0 q1 q2 q3 q4 q5, cadenzaref35_first b = some (q0, q1, q2, q3, q4, q5, e))) ∨
    (b.length ≤ 100000 ∧ (frontS b).2 = 0 ∧ (readS (hdr b)).2.2.2.2.2 = 0 ∧
      valid_start b = some ((f0 (hdr b) : Int), (f1 (hdr b) : Int), (f2 (hdr b) : Int), (f3 (hdr b) : Int), (f4 (hdr b) : Int), (frontS b).1, (frontS b).1 + 22, (tabP b : Int), 0, 0, frames b, 0) ∧
      cadenzaref35_first b = some ((frontS b).1, (f0 (hdr b) : Int), (f1 (hdr b) : Int), (f2 (hdr b) : Int), (f3 (hdr b) : Int), (f4 (hdr b) : Int), 0)) := by
  by_cases h1 : 100000 < b.length
  · refine .inl ⟨4, by omega, ⟨0, 0, 0, 0, 0, ?_⟩, ⟨0, 0, 0, 0, 0, 0, ?_⟩⟩
    · rw [valid_start, if_pos (by rw [ggt_i, lenI]; simp; omega)]
    · rw [cadenzaref35_first, if_pos (by rw [ggt_i, lenI]; simp; omega)]
  · rw [valid_start, if_neg (by rw [ggt_i, lenI]; simp; omega), cadenzaref35_first, if_neg (by rw [ggt_i, lenI]; simp; omega), strip_Front_eq b (by omega), ref_Front_eq b (by omega), bind_s, bind_s]
    by_cases h2 : (frontS b).2 = 0
    · obtain ⟨p0, p1, p2⟩ := frontS_ok h2
      have hc := cutI_from (l := b) p0 p1
      simp only [h2]
      rw [if_neg (by rw [gne_i]; simp), if_neg (by rw [gne_i]; simp), hc, bind_s, bind_s, show b.drop (frontS b).1.toNat = hdr b from rfl, Read_prog _ (by simp [hdr]; omega), Read_ref _ (by simp [hdr]; omega), bind_s, bind_s]
      by_cases h3 : (readS (hdr b)).2.2.2.2.2 = 0
      · obtain ⟨g1, g2, g3, g4⟩ := readS_ok h3
        refine .inr ⟨by omega, trivial, h3, ?_, ?_⟩
        · rw [g1]
          simp only
          rw [if_neg (by rw [gne_i]; simp), Frames_prog g3 g4, bind_s]
          simp only
          have t22 : gadd (frontS b).1 22 = (frontS b).1 + 22 := gadd_n (by omega) (by omega)
          have t30 : gadd ((frontS b).1 + 22) 8 = (frontS b).1 + 22 + 8 := gadd_n (by omega) (by omega)
          rw [geq_i, t22, t30]
          by_cases h5 : f0 (hdr b) = 2
          · rw [if_pos (by rw [h5]; rfl)]
            rw [show (frontS b).1 + 22 + 8 = (tabP b : Int) by rw [tabP, if_pos h5]; omega]; rfl
          · rw [if_neg (by simp; omega)]
            rw [show (tabP b : Int) = (frontS b).1 + 22 by rw [tabP, if_neg h5]; omega]; rfl
        · rw [g1]
      · generalize readS (hdr b) = v at *
        obtain ⟨v1, v2, v3, v4, v5, v6⟩ := v
        simp only at h3 ⊢
        exact .inl ⟨v6, h3, ⟨v1, v2, v3, v4, v5, by rw [if_pos (by rw [gne_i]; simpa using h3)]⟩, ⟨(frontS b).1, v1, v2, v3, v4, v5, rfl⟩⟩
    · generalize frontS b = v at *
      obtain ⟨v, e⟩ := v
      simp only at h2 ⊢
      refine .inl ⟨e, h2, ⟨0, 0, 0, 0, 0, ?_⟩, ⟨0, 0, 0, 0, 0, 0, ?_⟩⟩
      · rw [if_pos (by rw [gne_i]; simpa using h2)]
      · rw [if_pos (by rw [gne_i]; simpa using h2)]
theorem sum_from : ∀ {l : List Int}, (∀ x ∈ l, 5 ≤ x) → ∀ i : Nat, 0 ≤ (l.drop i).sum ∧ (l.drop i).sum ≤ l.sum
  | l, h, 0 => by
    have := sum5 l h
    simp; exact this
  | [], _, i + 1 => by simp
  | x :: l, h, i + 1 => by
    have h1 := h x List.mem_cons_self
    have := sum_from (l := l) (fun y hy => h y (List.mem_cons_of_mem _ hy)) i
    rw [List.drop_succ_cons, List.sum_cons]; omega
theorem parts_loop (l : List Int) (b : List UInt8) (r2 r3 r4 r5 r6 r7 r8 r9 : Int) (l12 : List Int) (hl : l.length ≤ 1000) (h5 : ∀ x ∈ l, 5 ≤ x) : ∀ (j i q : Nat) (s : Int), i + j = l.length → j < q → 0 ≤ s → s + (l.drop i).sum ≤ 1000000 →
    valid_Parts_l8 l b r2 r3 r4 r5 r6 r7 r8 r9 l12 q (i : Int) s = valid_Parts_p10 b l r2 r3 r4 r5 r6 r7 r8 r9 (s + (l.drop i).sum) l12
  | 0, i, q + 1, s, hi, _, _, _ => by
    rw [valid_Parts_l8, valid_Parts_s8, if_neg (by rw [glt_i, lenI]; simp; omega), show i = l.length by omega, List.drop_length]; simp
  | j + 1, i, q + 1, s, hi, hq, h0, hs => by
    have hlt : i < l.length := by omega
    have hx := h5 l[i] (List.getElem_mem hlt)
    have h2 := sum5 (l.drop (i + 1)) fun y hy => h5 y (List.mem_of_mem_drop hy)
    rw [drop_cons hlt, List.sum_cons] at hs ⊢
    rw [valid_Parts_l8, valid_Parts_s8, if_pos (by rw [glt_i, lenI]; simp; omega), getI_n hlt, bind_s, bind_s, gadd_n (by omega) (by omega), gadd_n (by omega) (by omega)]
    have ih := parts_loop l b r2 r3 r4 r5 r6 r7 r8 r9 l12 hl h5 j (i + 1) q (s + l[i]) (by omega) (by omega) (by omega) (by omega)
    rw [show ((i : Int) + 1) = ((i + 1 : Nat) : Int) by omega, ih, Int.add_assoc]
theorem parts_ref_loop (b : List UInt8) (r2 x1 : Int) (l : List Int) (hl : l.length ≤ 1000) (h5 : ∀ x ∈ l, 5 ≤ x) : ∀ (j i q : Nat) (s : Int), i + j = l.length → j < q → 0 ≤ s → s + (l.drop i).sum ≤ 1000000 →
    cadenzaref35_Parts_l6 b r2 x1 l q (i : Int) s = cadenzaref35_Parts_p8 b r2 x1 l (s + (l.drop i).sum)
  | 0, i, q + 1, s, hi, _, _, _ => by
    rw [cadenzaref35_Parts_l6, cadenzaref35_Parts_s6, if_neg (by rw [glt_i, lenI]; simp; omega), show i = l.length by omega, List.drop_length]; simp
  | j + 1, i, q + 1, s, hi, hq, h0, hs => by
    have hlt : i < l.length := by omega
    have hx := h5 l[i] (List.getElem_mem hlt)
    have h2 := sum5 (l.drop (i + 1)) fun y hy => h5 y (List.mem_of_mem_drop hy)
    rw [drop_cons hlt, List.sum_cons] at hs ⊢
    rw [cadenzaref35_Parts_l6, cadenzaref35_Parts_s6, if_pos (by rw [glt_i, lenI]; simp; omega), getI_n hlt, bind_s, bind_s, gadd_n (by omega) (by omega), gadd_n (by omega) (by omega)]
    have ih := parts_ref_loop b r2 x1 l hl h5 j (i + 1) q (s + l[i]) (by omega) (by omega) (by omega) (by omega)
    rw [show ((i : Int) + 1) = ((i + 1 : Nat) : Int) by omega, ih, Int.add_assoc]
abbrev P6 := Int × Int × Int × Int × Int × Int
theorem p11_err (b : List UInt8) (r2 r3 r4 r5 r6 r7 r8 r9 : Int) (l : List Int) (e x y : Int) (he : e ≠ 0) : valid_Parts_p11 b r2 r3 r4 r5 r6 r7 r8 r9 l e x y = some (0, 0, 0, 0, 0, e) := by
  rw [valid_Parts_p11, valid_Parts_s11, if_pos (by rw [gne_i]; simpa using he)]
theorem Parts_same (b : List UInt8) (hb : b.length ≤ 100100) : ∃ y : P6, valid_Parts b = some y ∧ cadenzaref35_Parts b = some y := by
  rw [valid_Parts, valid_Parts_s0, cadenzaref35_Parts, cadenzaref35_Parts_s0]
  rcases start_eq b hb with ⟨e, he, ⟨r1, r2, r3, r4, r5, h1⟩, ⟨q0, q1, q2, q3, q4, q5, h2⟩⟩ | ⟨hlen, g1, g2, h1, h2⟩
  · rw [h1, h2, bind_s, bind_s]
    simp only
    rw [if_pos (by rw [gne_i]; simpa using he), if_pos (by rw [gne_i]; simpa using he)]
    exact ⟨_, rfl, rfl⟩
  · obtain ⟨p0, p1, p2⟩ := frontS_ok g1
    obtain ⟨c1, c2, c3, c4⟩ := readS_ok g2
    have hk : (frames b).length = (f4 (hdr b) - 1) / longN (f3 (hdr b)) + 1 := framesL_len _ _
    have hk2 : (frames b).length ≤ 1000 := by
      simp only [fitB, decide_eq_true_eq] at c4
      omega
    have hd : 4000 / f1 (hdr b) ≤ 4000 := Nat.div_le_self _ _
    have hspl : cadenzaref25_Split (f3 (hdr b) : Int) (f4 (hdr b) : Int) = some (frames b) := by
      simp only [shapeB, fitB, decide_eq_true_eq] at c3 c4
      exact Split_eq (by omega) (by omega) (by omega)
    have htp : tabP b ≤ 4030 := by rw [tabP]; split <;> omega
    have hfs : ((frontS b).1.toNat : Int) = (frontS b).1 := by omega
    rw [h1, h2, bind_s, bind_s]
    have z : gne (0 : Int) 0 = false := by decide
    simp only [z, Bool.false_eq_true, if_false]
    have e22 : gadd (frontS b).1 22 = (frontS b).1 + 22 := gadd_n (by omega) (by omega)
    have e30 : gadd ((frontS b).1 + 22) 8 = (frontS b).1 + 22 + 8 := gadd_n (by omega) (by omega)
    have hr : (if geq (f0 (hdr b) : Int) 2 = true then cadenzaref35_Parts_p5 b (f0 (hdr b)) (f1 (hdr b)) (f2 (hdr b)) (f3 (hdr b)) (f4 (hdr b)) (frontS b).1 (gadd (gadd (frontS b).1 22) 8) else cadenzaref35_Parts_p5 b (f0 (hdr b)) (f1 (hdr b)) (f2 (hdr b)) (f3 (hdr b)) (f4 (hdr b)) (frontS b).1 (gadd (frontS b).1 22)) =
        cadenzaref35_Parts_p5 b (f0 (hdr b)) (f1 (hdr b)) (f2 (hdr b)) (f3 (hdr b)) (f4 (hdr b)) (frontS b).1 (tabP b : Int) := by
      rw [e22, e30, geq_i]
      by_cases h5 : f0 (hdr b) = 2
      · rw [if_pos (by rw [h5]; rfl), show (frontS b).1 + 22 + 8 = (tabP b : Int) by rw [tabP, if_pos h5]; omega]
      · rw [if_neg (by simp; omega), show (frontS b).1 + 22 = (tabP b : Int) by rw [tabP, if_neg h5]; omega]
    rw [hr, cadenzaref35_Parts_p5, cadenzaref35_Parts_s5]
    by_cases h3 : b.length < tabP b
    · rw [if_pos (by rw [glt_i, lenI]; simp; omega), if_pos (by rw [glt_i, lenI]; simp; omega), p11_err _ _ _ _ _ _ _ _ _ _ _ _ _ (by omega)]
      exact ⟨_, rfl, rfl⟩
    · rw [if_neg (by rw [glt_i, lenI]; simp; omega), if_neg (by rw [glt_i, lenI]; simp; omega)]
      have hc := cutI_from (l := b) (a := (tabP b : Int)) (by omega) (by omega)
      rw [Int.toNat_natCast] at hc
      have hdl : (b.drop (tabP b)).length ≤ 100100 := by simp; omega
      have hsp := Seek_prog (b.drop (tabP b)) (frames b).length hdl
      have hsr := Seek_ref (b.drop (tabP b)) (frames b).length hdl
      rw [cadenzaref35_table, hc, hspl, bind_s, bind_s, bind_s, show lenI (frames b) = ((frames b).length : Int) from rfl, hsp, hsr, bind_s, bind_s, bind_s]
      simp only
      rw [valid_Parts_p7, valid_Parts_s7]
      by_cases h6 : (seekS (b.drop (tabP b)) (frames b).length).2 = 0
      · obtain ⟨s1, s2, s3, s4, s5, s6⟩ := seekS_ok h6
        have tl := tabL_len (b.drop (tabP b)) (frames b).length
        rw [s1]
        simp only
        generalize tabL (b.drop (tabP b)) (frames b).length = l at *
        simp only [z, Bool.false_eq_true, if_false]
        have e1 : gadd (gadd (tabP b : Int) (gmul 4 (lenI l))) 4 = (tabP b : Int) + 4 * (l.length : Int) + 4 := by
          have a1 : gmul 4 (lenI l) = 4 * (l.length : Int) := gmul_n (by unfold lenI; omega) (by unfold lenI; omega)
          have a2 : gadd (tabP b : Int) (4 * (l.length : Int)) = (tabP b : Int) + 4 * (l.length : Int) := gadd_n (by omega) (by omega)
          rw [a1, a2, gadd_n (by omega) (by omega)]
        rw [e1, valid_Parts_p8, cadenzaref35_Parts_p6]
        have q1 := parts_loop l b (f0 (hdr b)) (f1 (hdr b)) (f2 (hdr b)) (f3 (hdr b)) (f4 (hdr b)) (frontS b).1 ((frontS b).1 + 22) (tabP b) (frames b) (by omega) s5 l.length 0 FUEL ((tabP b : Int) + 4 * (l.length : Int) + 4) (by omega) (by have := FUEL_gt; omega) (by omega) (by rw [List.drop_zero]; omega)
        have q2 := parts_ref_loop b (frontS b).1 (tabP b) l (by omega) s5 l.length 0 FUEL ((tabP b : Int) + 4 * (l.length : Int) + 4) (by omega) (by have := FUEL_gt; omega) (by omega) (by rw [List.drop_zero]; omega)
        rw [List.drop_zero] at q1 q2
        rw [show (0 : Int) = ((0 : Nat) : Int) from rfl, q1, q2, valid_Parts_p10, valid_Parts_s10, valid_Parts_p11, valid_Parts_s11, z, if_neg (by simp), valid_Parts_p12, valid_Parts_s12, cadenzaref35_Parts_p8, cadenzaref35_Parts_s8, e1, e22]
        by_cases h7 : (b.length : Int) < (tabP b : Int) + 4 * (l.length : Int) + 4 + l.sum
        · rw [if_pos (by rw [glt_i, lenI]; simpa using h7)]
          exact ⟨_, rfl, rfl⟩
        · rw [if_neg (by rw [glt_i, lenI]; simpa using h7)]
          exact ⟨_, rfl, rfl⟩
      · rw [if_pos (by rw [gne_i]; simpa using h6), if_pos (by rw [gne_i]; simpa using h6), p11_err _ _ _ _ _ _ _ _ _ _ _ _ _ h6]
        exact ⟨_, rfl, rfl⟩
theorem law_ValidParts (b : List UInt8) : cadenzalaw35_ValidParts b = some true := by
  rw [cadenzalaw35_ValidParts, cadenzaref35_Long, bind_s]
  by_cases h : b.length ≤ 100100
  · obtain ⟨⟨y1, y2, y3, y4, y5, y6⟩, h1, h2⟩ := Parts_same b h
    have g : ∀ x : Int, geq x x = true := fun x => by rw [geq_i]; exact beq_self_eq_true x
    rw [h1, h2, bind_s]
    simp only [bind_s, g, Bool.and_self]
    split <;> rfl
  · rw [if_pos (by simp [ggt_i, glt_i, lenI]; omega)]
end Go.Pl
