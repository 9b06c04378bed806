/- A part of the proof of a statement of this seat (see the text that ends in Proof): LwBase, LwBitB, LwLe, LwBits, LwRef02, LwCut, LwUn, LwRice, LwDual, LwVal, LwI32, LwFil, LwUnm, LwSam, LwCrc, LwFrm, LwC64, LwWby, LwId, LwApe, LwStrip, LwLen, LwHead. No conditions of its own. -/
import Derived.Test.YthkblcgadmdkgaaGreatDoorDtBA
import Derived.Test.YthkblcgadmdkgaaGreatDoorDtPA
set_option linter.unusedVariables false
set_option linter.unusedSimpArgs false
namespace Go.Lv
theorem Ag {a b : Int} (h : -9223372036854775808 ≤ a + b) (h' : a + b ≤ 9223372036854775807) : Ae a b = a + b := by rw [Btj, Cc h h']
theorem Bi {a b : Int} (h : -9223372036854775808 ≤ a - b) (h' : a - b ≤ 9223372036854775807) : Al a b = a - b := by rw [Bt3, Cc h h']
theorem Gu {a b : Int} (h : -9223372036854775808 ≤ a * b) (h' : a * b ≤ 9223372036854775807) : Be a b = a * b := by rw [Bnw, Cc h h']
theorem Ag7 (c : UInt8) : (Ad c : Int) = (c.toNat : Int) := by rw [Bpn, Cc] <;> have := c.toNat_lt <;> omega
theorem Bg9 (c : UInt32) : (Ad c : Int) = (c.toNat : Int) := by rw [Bkz, Cc] <;> have := c.toNat_lt <;> omega
theorem Ar0 (c : UInt8) : (Ad c : UInt64) = UInt64.ofNat c.toNat := by simp only [Ad, Zf, Gl]
theorem Hq (c : UInt32) : (Ad c : UInt64) = UInt64.ofNat c.toNat := by simp only [Ad, Wy, Gl]
theorem Amt (c : UInt64) : (Ad c : UInt8) = UInt8.ofNat c.toNat := by simp only [Ad, Ht, Lk]
theorem Ar8 (c : UInt32) : (Ad c : UInt8) = UInt8.ofNat c.toNat := by simp only [Ad, Wy, Lk]
theorem Aaj (n : Nat) : (Ad (n : Int) : UInt64) = UInt64.ofNat n := by simp only [Ad]; exact Gl n
theorem Baj (n : Nat) : (Ad (n : Int) : UInt32) = UInt32.ofNat n := by simp only [Ad]; exact Eh n
theorem Bpy (n : Nat) : (Ad (n : Int) : UInt8) = UInt8.ofNat n := by simp only [Ad]; exact Lk n
theorem Atq {c : UInt64} (h : c.toNat < 9223372036854775808) : (Ad c : Int) = (c.toNat : Int) := by rw [Bl7, Cc] <;> omega
theorem Bkc : LIM = 17179869184 := by decide
theorem Am : 36893488147419103231 < Az := by decide
theorem Cp {α : Type} {l : List α} {n : Nat} (h : n < l.length) : getI l (n : Int) = some l[n] := by simp [getI, h]
theorem Xr {α : Type} {l : List α} {n : Nat} (x : α) (h : n < l.length) : Qv l (n : Int) x = some (l.set n x) := by simp [Qv, h]
theorem Ps {α : Type} {l : List α} {a b : Int} (h : 0 ≤ a) (h1 : a ≤ b) (h2 : b ≤ l.length) : Bt l a b = some ((l.take b.toNat).drop a.toNat) := by rw [Bt, if_pos ⟨h, h1, h2⟩]
theorem Gi {α : Type} {l : List α} {a : Int} (h : 0 ≤ a) (h1 : a ≤ l.length) : Bt l a (Ac l) = some (l.drop a.toNat) := by
 unfold Ac; rw [Ps h h1 (Int.le_refl _), Int.toNat_natCast, List.take_length]
theorem Jo {α : Type} {l : List α} {b : Int} (h : 0 ≤ b) (h1 : b ≤ l.length) : Bt l 0 b = some (l.take b.toNat) := by rw [Ps (Int.le_refl _) h h1]; rfl
theorem Gt {α : Type} {l m : List α} (h : l.length + m.length ≤ 17179869184) : Iy l m = some (l ++ m) := by rw [Iy, Bkc, if_pos h]
theorem Aw5 {α : Type} {n : Int} {z : α} (h : 0 ≤ n) (h' : n ≤ 17179869184) : mkI n z = some (List.replicate n.toNat z) := by rw [mkI, Bkc, if_pos ⟨h, h'⟩]
theorem Dj {b : Bool} (h : b = true) : Vd b = some () := by rw [h]; rfl
theorem Aa {α β : Type} (a : α) (f : α → Option β) : Option.bind (some a) f = f a := rfl
theorem drop_cons {α : Type} {l : List α} {n : Nat} (h : n < l.length) : l.drop n = l[n] :: l.drop (n + 1) := List.drop_eq_getElem_cons h
theorem Akz {α : Type} {l : List α} {n : Nat} (h : n < l.length) : l.take (n + 1) = l.take n ++ [l[n]] := by rw [List.take_add_one, List.getElem?_eq_getElem h]; rfl
def Ed : List UInt8 → Nat
 | [] => 0
 | x :: r => x.toNat + 256 * Ed r
theorem Bcb : ∀ l : List UInt8, Ed l < 256 ^ l.length
 | [] => by simp [Ed]
 | x :: r => by
  have h := Bcb r
  have := x.toNat_lt
  simp only [Ed, List.length_cons, Nat.pow_succ]
  omega
theorem Azh : ∀ l m : List UInt8, Ed (l ++ m) = Ed l + 256 ^ l.length * Ed m
 | [], m => by simp [Ed]
 | x :: r, m => by
  simp only [Ed, List.cons_append, Azh r m, List.length_cons, Nat.pow_succ, Nat.mul_add]
  rw [Nat.mul_comm (256 ^ r.length) 256, Nat.mul_assoc]; omega
def leU (l : List UInt8) : UInt64 := UInt64.ofNat (Ed l)
theorem Bq7 {l : List UInt8} (h : l.length ≤ 8) : Ed l < 18446744073709551616 := by
 have h1 := Bcb l
 have h2 : 256 ^ l.length ≤ 256 ^ 8 := Nat.pow_le_pow_right (by omega) h
 exact Nat.lt_of_lt_of_le h1 (by simpa using h2)
theorem Bke {l : List UInt8} (h : l.length ≤ 4) : Ed l < 4294967296 := by
 have h1 := Bcb l
 have h2 : 256 ^ l.length ≤ 256 ^ 4 := Nat.pow_le_pow_right (by omega) h
 exact Nat.lt_of_lt_of_le h1 (by simpa using h2)
theorem Ajw {l : List UInt8} (h : l.length ≤ 8) : (leU l).toNat = Ed l := by
 rw [leU, UInt64.toNat_ofNat', Nat.mod_eq_of_lt (Bq7 h)]
theorem Aee {l : List UInt8} (h : l.length ≤ 4) : (Ad (leU l) : Int) = (Ed l : Int) := by
 have := Bke h
 rw [Atq] <;> rw [Ajw (by omega)]; omega
def leB (n : Nat) : Nat → List UInt8
 | 0 => []
 | w + 1 => UInt8.ofNat n :: leB (n / 256) w
theorem Nm : ∀ (w n : Nat), (leB n w).length = w
 | 0, _ => rfl
 | w + 1, n => by simp [leB, Nm w]
theorem Bff : ∀ (w n : Nat), leB n (w + 1) = leB n w ++ [UInt8.ofNat (n / 256 ^ w)]
 | 0, n => by simp [leB]
 | w + 1, n => by
  rw [leB, Bff w (n / 256), leB]
  simp [Nat.div_div_eq_div_mul, Nat.pow_succ, Nat.mul_comm]
end Go.Lv
set_option linter.unusedVariables false
set_option linter.unusedSimpArgs false
namespace Go.Lv
def Jc (p : List UInt8) (i : Nat) : Nat := (p.getD (i / 8) 0).toNat / 2 ^ (i % 8) % 2
theorem Yr (p : List UInt8) (i : Nat) : Jc p i < 2 := Nat.mod_lt _ (by omega)
def Cb (p : List UInt8) : Nat → Nat → Nat
 | _, 0 => 0
 | a, n + 1 => Jc p a + 2 * Cb p (a + 1) n
theorem Rr (p : List UInt8) : ∀ (n a : Nat), Cb p a n < 2 ^ n
 | 0, _ => by simp [Cb]
 | n + 1, a => by
  have := Rr p n (a + 1)
  have := Yr p a
  rw [Cb, Nat.pow_succ]; omega
theorem Ai4 (p : List UInt8) : ∀ (m n a : Nat), Cb p a (m + n) = Cb p a m + 2 ^ m * Cb p (a + m) n
 | 0, n, a => by simp [Cb]
 | m + 1, n, a => by
  rw [show m + 1 + n = (m + n) + 1 by omega, Cb, Cb, Ai4 p m n (a + 1), show a + 1 + m = a + (m + 1) by omega, Nat.pow_succ, Nat.mul_add, Nat.mul_comm (2 ^ m) 2, Nat.mul_assoc]; omega
theorem Bgv (p : List UInt8) (a : Nat) : Cb p a 1 = Jc p a := by simp [Cb]
theorem Bay (p : List UInt8) (a n : Nat) : Cb p a (n + 1) = Cb p a n + 2 ^ n * Jc p (a + n) := by rw [Ai4 p n 1 a, Bgv]
theorem Auc (p : List UInt8) (a : Nat) : ∀ t : Nat, a % 8 + t ≤ 8 → Cb p a t = (p.getD (a / 8) 0).toNat / 2 ^ (a % 8) % 2 ^ t
 | 0, _ => by simp [Cb, Nat.mod_one]
 | t + 1, h => by
  have h1 : (a + t) / 8 = a / 8 := by omega
  have h2 : (a + t) % 8 = a % 8 + t := by omega
  rw [Bay, Auc p a t (by omega), Jc, h1, h2, Nat.mod_pow_succ, Nat.pow_add, Nat.div_div_eq_div_mul]
theorem Bb5 {p : List UInt8} : ∀ (n a : Nat), (∀ k, k < n → Jc p (a + k) = 0) → Cb p a n = 0
 | 0, _, _ => rfl
 | n + 1, a, h => by
  have h0 := h 0 (by omega)
  rw [Cb, Bb5 n (a + 1) fun k hk => by have := h (k + 1) (by omega); rwa [show a + 1 + k = a + (k + 1) by omega]]
  rw [Nat.add_zero] at h0; omega
def okB (p : List UInt8) (n : Nat) : Prop := n ≤ 330000 ∧ p.length = (n + 7) / 8 ∧ ∀ k, n ≤ k → k < 8 * p.length → Jc p k = 0
def Adw (p : List UInt8) (a n : Nat) : List UInt8 := (List.range ((n + 7) / 8)).map fun j => UInt8.ofNat (Cb p (a + 8 * j) (min 8 (n - 8 * j)))
theorem Mu (p : List UInt8) (a n : Nat) : (Adw p a n).length = (n + 7) / 8 := by simp [Adw]
theorem Ber (p : List UInt8) : ∀ (n a k : Nat), k < n → Cb p a n / 2 ^ k % 2 = Jc p (a + k)
 | n + 1, a, 0, _ => by have := Yr p a; rw [Cb]; simp; omega
 | n + 1, a, k + 1, h => by
  have hb := Yr p a
  have e : (Jc p a + 2 * Cb p (a + 1) n) / 2 = Cb p (a + 1) n := by omega
  rw [Cb, Nat.pow_succ, Nat.mul_comm (2 ^ k) 2, ← Nat.div_div_eq_div_mul, e, Ber p n (a + 1) k (by omega), show a + 1 + k = a + (k + 1) by omega]
theorem Blf (p : List UInt8) (n a k : Nat) (h : n ≤ k) : Cb p a n / 2 ^ k % 2 = 0 := by
 have := Rr p n a
 rw [Nat.div_eq_of_lt (Nat.lt_of_lt_of_le this (Nat.pow_le_pow_right (by omega) h))]
theorem Bm0 (p : List UInt8) (a n k : Nat) : Jc (Adw p a n) k = if k < n then Jc p (a + k) else 0 := by
 rw [Jc]
 by_cases hj : k / 8 < (n + 7) / 8
 ·have e : (Adw p a n).getD (k / 8) 0 = UInt8.ofNat (Cb p (a + 8 * (k / 8)) (min 8 (n - 8 * (k / 8)))) := by
   rw [List.getD_eq_getElem?_getD, List.getElem?_eq_getElem (by rw [Mu]; exact hj)]; simp [Adw]
  have hlt : Cb p (a + 8 * (k / 8)) (min 8 (n - 8 * (k / 8))) < 256 := by
   have := Rr p (min 8 (n - 8 * (k / 8))) (a + 8 * (k / 8))
   have h2 : 2 ^ (min 8 (n - 8 * (k / 8))) ≤ 2 ^ 8 := Nat.pow_le_pow_right (by omega) (by omega)
   omega
  have hu : (UInt8.ofNat (Cb p (a + 8 * (k / 8)) (min 8 (n - 8 * (k / 8))))).toNat = Cb p (a + 8 * (k / 8)) (min 8 (n - 8 * (k / 8))) := by
   rw [UInt8.toNat_ofNat']; exact Nat.mod_eq_of_lt hlt
  rw [e, hu]
  by_cases hk : k < n
  ·rw [if_pos hk, Ber p _ _ _ (by omega), show a + 8 * (k / 8) + k % 8 = a + k by omega]
  ·rw [if_neg hk, Blf p _ _ _ (by omega)]
 ·have e : (Adw p a n).getD (k / 8) 0 = 0 := by
   rw [List.getD_eq_getElem?_getD, List.getElem?_eq_none (by rw [Mu]; omega)]; rfl
  rw [e, if_neg (by omega)]; simp
theorem Bka (p : List UInt8) (a n : Nat) (h : n ≤ 330000) : okB (Adw p a n) n := ⟨h, Mu p a n, fun k hk _ => by rw [Bm0, if_neg (by omega)]⟩
end Go.Lv
set_option linter.unusedVariables false
set_option linter.unusedSimpArgs false
namespace Go.Pl
open Go Go.Lv
theorem Bn7 (b : List UInt8) (hb : b.length < 4611686018427387904) : ∀ (j q : Nat), j ≤ b.length → j < q → Ik b q (leU (b.drop j)) ((j : Int) - 1) = some (leU b)
 | 0, q + 1, _, _ => by
  rw [Ik, Sm, if_neg (by rw [Dv]; simp)]
  simp [Zl, Ahj]
 | j + 1, q + 1, hj, hq => by
  rw [Ik, Sm, if_pos (by rw [Dv]; simp), show ((j + 1 : Nat) : Int) - 1 = (j : Int) by omega, Cp (by omega), Aa, Bi (by omega) (by omega)]
  have h : Ae (Be (256 : UInt64) (leU (b.drop (j + 1)))) (Ad b[j] : UInt64) = leU (b.drop j) := by
   rw [Afk, Ae9, Ar0, drop_cons (n := j) (by omega), leU, leU, Ed, UInt64.ofNat_add, UInt64.ofNat_mul]
   exact UInt64.add_comm _ _
  rw [h]
  exact Bn7 b hb j q (by omega) (by omega)
theorem Bge (b : List UInt8) (hb : b.length < 4611686018427387904) : Ak b = some (leU b) := by
 have h := Bn7 b hb b.length Az (Nat.le_refl _) (by have := Am; omega)
 rw [Ak, Zm, Zq]
 have e : Al (Ac b) 1 = (b.length : Int) - 1 := Bi (by unfold Ac; omega) (by unfold Ac; omega)
 rw [e, ← h, List.drop_length]; rfl
theorem Bm5 {n c : UInt64} {i : Nat} (hn : n.toNat < 2 ^ i) (hc : c.toNat * 2 ^ i < 18446744073709551616) : gor n (Fh c i) = UInt64.ofNat (n.toNat + c.toNat * 2 ^ i) := by
 rw [Bp7]; apply UInt64.toNat_inj.1
 rw [UInt64.toNat_or, Ak8, Nat.mod_eq_of_lt hc, Nat.mul_comm, Nat.or_comm, ← Nat.two_pow_add_eq_or_of_lt hn, UInt64.toNat_ofNat', Nat.mod_eq_of_lt, Nat.add_comm, Nat.mul_comm]
 have h := Nat.two_pow_add_eq_or_of_lt hn c.toNat
 have h2 : 2 ^ i * c.toNat + n.toNat < 2 ^ 64 := by
  rw [h]
  exact Nat.or_lt_two_pow (by rw [Nat.mul_comm]; simpa using hc) n.toNat_lt
 rw [Nat.add_comm]; first | exact h2 | (rw [Nat.mul_comm]; exact h2)
theorem Bbf (b : List UInt8) (hb : b.length ≤ 8) : ∀ (j i q : Nat), i + j = b.length → j < q → Aah b q (leU (b.take i)) (i : Int) = some (leU b, 0)
 | 0, i, q + 1, hi, _ => by
  rw [Aah, Ajj, if_neg (by rw [Af, Ac]; simp; omega), show i = b.length by omega, List.take_length]; rfl
 | j + 1, i, q + 1, hi, hq => by
  have hlt : i < b.length := by omega
  rw [Aah, Ajj, if_pos (by rw [Af, Ac]; simp; omega), Cp hlt, Aa, Gu (by omega) (by omega), Dj (by rw [Dv]; simp; omega), Aa, Ag (by omega) (by omega)]
  have h : gor (leU (b.take i)) (Fh (Ad b[i] : UInt64) (GI.toZ ((8 : Int) * (i : Int))).toNat) = leU (b.take (i + 1)) := by
   have e : (GI.toZ ((8 : Int) * (i : Int))).toNat = 8 * i := by show ((8 : Int) * (i : Int)).toNat = _; omega
   have e2 : (2 : Nat) ^ (8 * i) = 256 ^ i := by rw [Nat.pow_mul]
   have h1 := Bcb (b.take i)
   rw [List.length_take, Nat.min_eq_left (by omega)] at h1
   have h3 := b[i].toNat_lt
   have hle : (256 : Nat) ^ (i + 1) ≤ 256 ^ 8 := Nat.pow_le_pow_right (by omega) (by omega)
   rw [Nat.pow_succ] at hle
   have h4 : (Ad b[i] : UInt64).toNat = b[i].toNat := by rw [Ar0, UInt64.toNat_ofNat']; omega
   have h5 : b[i].toNat * 256 ^ i < 18446744073709551616 := by
    have : b[i].toNat * 256 ^ i < 256 * 256 ^ i := Nat.mul_lt_mul_of_pos_right (by simpa using h3) (Nat.pow_pos (by omega))
    simp at hle; omega
   rw [e, Bm5 (by rw [Ajw (by simp; omega), e2]; exact h1) (by rw [h4, e2]; exact h5), Ajw (by simp; omega), h4, e2, Akz hlt]
   rw [leU, Azh]
   simp only [Ed, List.length_take, Nat.min_eq_left (Nat.le_of_lt hlt), Nat.mul_zero, Nat.add_zero]
   rw [Nat.mul_comm]
  rw [h]
  exact Bbf b hb j (i + 1) q (by omega) (by omega)
theorem Bei (b : List UInt8) (h1 : 1 ≤ b.length) (h2 : b.length ≤ 8) : Aom b = some (leU b, 0) := by
 have h := Bbf b h2 b.length 0 Az (by omega) (by have := Am; omega)
 rw [Aom, Apo, if_neg (by simp [Af, Ax, Ac]; omega), Ao5]
 exact h
def part (b : List UInt8) (at' w : Nat) : List UInt8 := (b.take (at' + w)).drop at'
theorem Dn {b : List UInt8} {a w : Nat} (h : a + w ≤ b.length) : (part b a w).length = w := by simp [part]; omega
theorem Bao (b : List UInt8) (a w : Nat) (h1 : 1 ≤ w) (h2 : w ≤ 8) (h3 : a + w ≤ b.length) (hb : b.length < 4611686018427387904) : Alp b (a : Int) (w : Int) = some (leU (part b a w), 0) := by
 rw [Alp, if_neg (by simp [Af, Ax]; omega), if_neg (by rw [Ax, Bi (by unfold Ac; omega) (by unfold Ac; omega), Ac]; simp; omega), Ag (by omega) (by omega), Ps (by omega) (by omega) (by omega), Aa]
 rw [show ((a : Int) + (w : Int)).toNat = a + w by omega, show (a : Int).toNat = a by omega]
 rw [Bei _ (by rw [show ((b.take (a + w)).drop a).length = _ from Dn h3]; exact h1) (by rw [show ((b.take (a + w)).drop a).length = _ from Dn h3]; exact h2), Aa]; rfl
theorem Auz (w : Nat) (hw : w ≤ 1000) : ∀ (j i q : Nat) (n : UInt64) (acc : List UInt8), i + j = w → j < q → acc.length + j ≤ 1000000 → Er (w : Int) q n (i : Int) acc = some (acc ++ leB n.toNat j)
 | 0, i, q + 1, n, acc, hi, _, _ => by
  rw [Er, Ja, if_neg (by rw [Af]; simp; omega)]
  simp [Ql, Aal, leB]
 | j + 1, i, q + 1, n, acc, hi, hq, ha => by
  rw [Er, Ja, if_pos (by rw [Af]; simp; omega)]
  have e : (Ad (Aaq n (256 : UInt64)) : UInt8) = UInt8.ofNat n.toNat := by
   rw [Amt, Bf0]; apply UInt8.toNat_inj.1
   rw [UInt8.toNat_ofNat', UInt8.toNat_ofNat', UInt64.toNat_mod]
   show n.toNat % 256 % 256 = _
   omega
  have e2 : (Df n (256 : UInt64)).toNat = n.toNat / 256 := by rw [Asx, UInt64.toNat_div]; rfl
  rw [Gt (by simp; omega), Aa, Ag (by omega) (by omega), e]
  have h := Auz w hw j (i + 1) q (Df n 256) (acc ++ [UInt8.ofNat n.toNat]) (by omega) (by omega) (by simp; omega)
  rw [e2] at h
  rw [show ((i : Int) + 1) = ((i + 1 : Nat) : Int) by omega, h, leB]; simp
theorem Axe (n : UInt64) (w : Nat) (hw : w ≤ 1000) : Dg n (w : Int) = some (leB n.toNat w) := by
 rw [Dg, Qt, Qp]
 have h := Auz w hw w 0 Az n [] (by omega) (by have := Am; omega) (by simp; omega)
 simpa using h
theorem Ap3 {α : Type} {l m : List α} {x y : α} {i : Nat} (h : l.length = i) : (l ++ x :: m).set i y = l ++ y :: m := by subst h; simp
theorem Bbx (n : UInt64) (l4 : List UInt8) (w : Nat) (hl : l4.length = w) (hw : w ≤ 8) : ∀ (j i q : Nat), i + j = w → j < q → Zz n l4 q (i : Int) (leB n.toNat i ++ List.replicate j 0) = some (leB n.toNat w, 0)
 | 0, i, q + 1, hi, _ => by
  rw [Zz, Ajt, if_neg (by rw [Af, Ac]; simp; omega)]
  obtain rfl : i = w := by omega
  simp [Apr, Auv]
 | j + 1, i, q + 1, hi, hq => by
  have hlen : (leB n.toNat i ++ List.replicate (j + 1) 0).length = i + (j + 1) := by simp [Nm]
  rw [Zz, Ajt, if_pos (by rw [Af, Ac]; simp; omega), Gu (by omega) (by omega), Dj (by rw [Dv]; simp; omega), Aa, Cp (by rw [hlen]; omega), Aa, Xr _ (by rw [hlen]; omega), Aa, Ag (by omega) (by omega)]
  have e : (Ad (Cy n (GI.toZ ((8 : Int) * (i : Int))).toNat) : UInt8) = UInt8.ofNat (n.toNat / 256 ^ i) := by
   have e : (GI.toZ ((8 : Int) * (i : Int))).toNat = 8 * i := by show ((8 : Int) * (i : Int)).toNat = _; omega
   rw [e, Amt, Afh, Nat.pow_mul]
  rw [e, List.replicate_succ, Ap3 (Nm _ _)]
  have h := Bbx n l4 w hl hw j (i + 1) q (by omega) (by omega)
  rw [Bff] at h
  simpa using h
theorem Br6 (n : UInt64) (w : Nat) (h1 : 1 ≤ w) (h2 : w ≤ 8) (h : n.toNat < 256 ^ w) : Av0 n (w : Int) = some true := by
 rw [Av0]
 by_cases h8 : w = 8
 ·subst h8; rw [if_pos (by rw [Bg]; rfl)]
 ·rw [if_neg (by rw [Bg]; simp; omega), Gu (by omega) (by omega), Dj (by rw [Dv]; simp; omega), Aa]
  have e : (GI.toZ ((8 : Int) * (w : Int))).toNat = 8 * w := by show ((8 : Int) * (w : Int)).toNat = _; omega
  rw [e, Av2]
  have : Cy n (8 * w) = 0 := by
   apply UInt64.toNat_inj.1
   rw [Afh, Nat.pow_mul]
   exact Nat.div_eq_of_lt h
  rw [this]; rfl
theorem Bel (n : UInt64) (w : Nat) (h1 : 1 ≤ w) (h2 : w ≤ 8) (h : n.toNat < 256 ^ w) : Aoz n (w : Int) = some (leB n.toNat w, 0) := by
 rw [Aoz, Api, if_neg (by simp [Af, Ax]; omega), Br6 n w h1 h2 h, Aa, if_neg (by simp), Aw5 (by omega) (by omega), Aa, Dj (by rw [Bg]; simp), Aa, Apl]
 have h := Bbx n (List.replicate (w : Int).toNat 0) w (by simp) h2 w 0 Az (by omega) (by have := Am; omega)
 simpa [leB] using h
end Go.Pl
set_option linter.unusedVariables false
set_option linter.unusedSimpArgs false
namespace Go.Pl
open Go Go.Lv
theorem Bgg (n : Nat) (h : n < 4611686018427387904) : Il (n : Int) (7 : Int) = ((n % 8 : Nat) : Int) := by
 have e : Il (n : Int) (7 : Int) = wrap64 ((BitVec.ofInt 64 (n : Int) &&& BitVec.ofInt 64 7).toNat : Int) := rfl
 rw [e, BitVec.toNat_and, BitVec.toNat_ofInt, BitVec.toNat_ofInt]
 have h1 : ((n : Int) % ((2 ^ 64 : Nat) : Int)).toNat = n := by omega
 have h2 : ((7 : Int) % ((2 ^ 64 : Nat) : Int)).toNat = 2 ^ 3 - 1 := by decide
 rw [h1, h2, Nat.and_two_pow_sub_one_eq_mod, Cc (by omega) (by omega)]
theorem Bu0 (n : Nat) : Bdm (n : Int) (GI.toZ (3 : UInt64)).toNat = ((n / 8 : Nat) : Int) := by
 have e : Bdm (n : Int) (GI.toZ (3 : UInt64)).toNat = (n : Int).fdiv 8 := rfl
 rw [e, Int.fdiv_eq_ediv_of_nonneg _ (by omega)]; omega
theorem Bvz {t : Nat} (h : t ≤ 8) : Al (Fh (1 : UInt8) t) (1 : UInt8) = UInt8.ofNat (2 ^ t - 1) := by
 have : t = 0 ∨ t = 1 ∨ t = 2 ∨ t = 3 ∨ t = 4 ∨ t = 5 ∨ t = 6 ∨ t = 7 ∨ t = 8 := by omega
 rcases this with rfl | rfl | rfl | rfl | rfl | rfl | rfl | rfl | rfl <;> decide
theorem bitsOf (c : UInt8) (off t : Nat) (h : t ≤ 8) : (Il (Cy c off) (Al (Fh (1 : UInt8) t) (1 : UInt8))).toNat = c.toNat / 2 ^ off % 2 ^ t := by
 have hp : 2 ^ t ≤ 2 ^ 8 := Nat.pow_le_pow_right (by omega) h
 rw [Bvz h, Bqr, UInt8.toNat_and, Bj6, UInt8.toNat_ofNat', Nat.mod_eq_of_lt (by have := Nat.pow_pos (n := t) (show 0 < 2 by omega); omega), Nat.and_two_pow_sub_one_eq_mod]
theorem Ay3 {p : List UInt8} {k : Nat} (h : k < p.length) : getI p (k : Int) = some (p.getD k 0) := by
 rw [Cp h]; simp [List.getD_eq_getElem?_getD, h]
def Wq (p : List UInt8) (a n : Nat) : UInt64 := UInt64.ofNat (Cb p a n)
theorem Abh (p : List UInt8) (a n : Nat) (h : n ≤ 64) : (Wq p a n).toNat = Cb p a n := by
 have h1 := Rr p n a
 have h2 : 2 ^ n ≤ 2 ^ 64 := Nat.pow_le_pow_right (by omega) h
 rw [Wq, UInt64.toNat_ofNat', Nat.mod_eq_of_lt (by omega)]
theorem Bez (p : List UInt8) (N : Int) (a n : Nat) (hn : n ≤ 64) (ha : a + n ≤ 8 * p.length) (hp : p.length ≤ 1000000) : ∀ (j h q : Nat), h + j = n → j < q → Afa (a : Int) (n : Int) p N q (Wq p a h) (h : Int) = some (Wq p a n)
 | j, h, q + 1, hj, hq => by
  rw [Afa, Aoy]
  by_cases hlt : h < n
  ·have e1 : Ae (a : Int) (h : Int) = ((a + h : Nat) : Int) := by rw [Ag (by omega) (by omega)]; omega
   have e2 : Gd (Al (n : Int) (h : Int)) (Al (8 : Int) (((a + h) % 8 : Nat) : Int)) = ((min (n - h) (8 - (a + h) % 8) : Nat) : Int) := by
    rw [Ahd, Bi (by omega) (by omega), Bi (by omega) (by omega)]; omega
   have hm : (a + h) / 8 < p.length := by omega
   rw [if_pos (by rw [Af]; simp; omega), e1, Bu0, Ay3 hm, Aa, Bgg _ (by omega), Dj (by rw [Dv]; simp; omega), Aa, e2, Dj (by rw [Dv]; simp), Aa, Dj (by rw [Dv]; simp), Aa]
   generalize hT : min (n - h) (8 - (a + h) % 8) = T
   have hT8 : T ≤ 8 := by omega
   have hT1 : 1 ≤ T := by omega
   have hb : (a + h) % 8 + T ≤ 8 := by omega
   have hv := Auc p (a + h) T hb
   have z1 : (GI.toZ (((a + h) % 8 : Nat) : Int)).toNat = (a + h) % 8 := rfl
   have z2 : (GI.toZ ((T : Nat) : Int)).toNat = T := rfl
   have z3 : (GI.toZ ((h : Nat) : Int)).toNat = h := rfl
   rw [z1, z2, z3]
   have hx : (Ad (Il (Cy (p.getD ((a + h) / 8) 0) ((a + h) % 8)) (Al (Fh (1 : UInt8) T) (1 : UInt8))) : UInt64).toNat = Cb p (a + h) T := by
    rw [Ar0, UInt64.toNat_ofNat', bitsOf _ _ _ hT8, ← hv]
    have := Rr p T (a + h)
    have h2 : 2 ^ T ≤ 2 ^ 8 := Nat.pow_le_pow_right (by omega) hT8
    omega
   have hlt2 := Rr p (h + T) a
   rw [Ai4] at hlt2
   have h64 : 2 ^ (h + T) ≤ 2 ^ 64 := Nat.pow_le_pow_right (by omega) (by omega)
   have hor : gor (Wq p a h) (Fh (Ad (Il (Cy (p.getD ((a + h) / 8) 0) ((a + h) % 8)) (Al (Fh (1 : UInt8) T) (1 : UInt8))) : UInt64) h) = Wq p a (h + T) := by
    rw [Bm5 (by rw [Abh p a h (by omega)]; exact Rr p h a) (by rw [hx, Nat.mul_comm]; omega), hx, Abh p a h (by omega), Wq, Ai4, Nat.mul_comm (2 ^ h)]
   rw [hor, Ag (by omega) (by omega), show (h : Int) + ((T : Nat) : Int) = ((h + T : Nat) : Int) by omega]
   exact Bez p N a n hn ha hp (j - T) (h + T) q (by omega) (by omega)
  ·rw [if_neg (by rw [Af]; simp; omega), show h = n by omega]; rfl
theorem get_eq (p : List UInt8) (N : Int) (a n : Nat) (hn : n ≤ 64) (ha : a + n ≤ 8 * p.length) (hp : p.length ≤ 1000000) : Asr p N (a : Int) (n : Int) = some (Wq p a n) := by
 have := Bez p N a n hn ha hp n 0 Az (by omega) (by have := Am; omega)
 exact this
theorem Ag3 {p : List UInt8} {n : Nat} (h : okB p n) : Sd p (n : Int) = some 0 := by
 obtain ⟨h1, h2, h3⟩ := h
 have e7 : Ae (n : Int) 7 = ((n + 7 : Nat) : Int) := by rw [Ag (by omega) (by omega)]; omega
 rw [Sd, e7, Bu0, if_neg (by simp [Af, Ax, Ah, Ac, h2]; omega), Bgg _ (by omega)]
 by_cases hz : n % 8 = 0
 ·rw [if_neg (by rw [Ax]; simp; omega)]
 ·have el : Al (Ac p) 1 = ((p.length - 1 : Nat) : Int) := by rw [Ac, Bi (by omega) (by omega)]; omega
  rw [if_pos (by rw [Ax]; simp; omega), el, Ay3 (by omega), Aa, Dj (by rw [Dv]; simp; omega), Aa]
  have z : (GI.toZ ((n % 8 : Nat) : Int)).toNat = n % 8 := rfl
  have hs : Cy (p.getD (p.length - 1) 0) (n % 8) = 0 := by
   apply UInt8.toNat_inj.1
   rw [Bj6]
   have hv := Auc p n (8 - n % 8) (by omega)
   have h0 : Cb p n (8 - n % 8) = 0 := Bb5 _ _ fun k hk => h3 _ (by omega) (by omega)
   rw [h0, show n / 8 = p.length - 1 by omega] at hv
   have hlt : (p.getD (p.length - 1) 0).toNat / 2 ^ (n % 8) < 2 ^ (8 - n % 8) := by
    have := (p.getD (p.length - 1) 0).toNat_lt
    rw [Nat.div_lt_iff_lt_mul (Nat.pow_pos (by omega)), ← Nat.pow_add, show 8 - n % 8 + n % 8 = 8 by omega]; simpa using this
   rw [Nat.mod_eq_of_lt hlt] at hv
   exact hv.symm
  rw [z, hs, if_neg (by rw [Bh3]; simp)]
theorem Auk {p : List UInt8} {N : Nat} (h : okB p N) (a n : Nat) (hn : n ≤ 64) : Acg p (N : Int) (a : Int) (n : Int) = some (if N < a + n then (0, 24) else (Wq p a n, 0)) := by
 obtain ⟨h1, h2, h3⟩ := h
 rw [Acg, Ag3 ⟨h1, h2, h3⟩, Aa, if_neg (by rw [Ah]; simp), if_neg (by simp [Af, Ax]; omega), Bi (by omega) (by omega)]
 by_cases hl : N < a + n
 ·rw [if_pos (by rw [Ax]; simp; omega), if_pos hl]
 ·rw [if_neg (by rw [Ax]; simp; omega), get_eq p N a n hn (by omega) (by omega), Aa, if_neg hl]
end Go.Pl
set_option linter.unusedVariables false
set_option linter.unusedSimpArgs false
namespace Go.Pl
open Go Go.Lv
theorem Bwe (c : Nat) (h : c < 4611686018427387904) : Df (c : Int) (2 : Int) = ((c / 2 : Nat) : Int) := by
 rw [Afp, Int.tdiv_eq_ediv_of_nonneg (by omega), Cc (by omega) (by omega)]; omega
theorem Bux (c : Nat) (h : c < 4611686018427387904) : Df (c : Int) (8 : Int) = ((c / 8 : Nat) : Int) := by
 rw [Afp, Int.tdiv_eq_ediv_of_nonneg (by omega), Cc (by omega) (by omega)]; omega
theorem Bnh (c : Nat) : Kf (c : Int) (8 : Int) = ((c % 8 : Nat) : Int) := by rw [Kf, Int.tmod_eq_emod_of_nonneg (by omega)]; omega
theorem Bwc (c : Nat) : Kf (c : Int) (2 : Int) = ((c % 2 : Nat) : Int) := by rw [Kf, Int.tmod_eq_emod_of_nonneg (by omega)]; omega
theorem Bkw (i c : Nat) (hc : c < 256) : ∀ (j k q : Nat), k + j = i % 8 → j < q → Im (i : Int) q ((c / 2 ^ k : Nat) : Int) (k : Int) = some (((c / 2 ^ (i % 8) % 2 : Nat) : Int))
 | 0, k, q + 1, hk, _ => by
  rw [Im, Sk, Bnh, if_neg (by rw [Af]; simp; omega), Zj, Aip, Bwc, show k = i % 8 by omega]
 | j + 1, k, q + 1, hk, hq => by
  have hle : c / 2 ^ k ≤ c := Nat.div_le_self _ _
  rw [Im, Sk, Bnh, if_pos (by rw [Af]; simp; omega), Bwe _ (by omega), Ag (by omega) (by omega), Nat.div_div_eq_div_mul, ← Nat.pow_succ]
  exact Bkw i c hc j (k + 1) q (by omega) (by omega)
theorem Atw (p : List UInt8) (N : Int) (i : Nat) (h : i / 8 < p.length) (hi : i < 4611686018427387904) : Hr p N (i : Int) = some ((Jc p i : Nat) : Int) := by
 have hc := (p.getD (i / 8) 0).toNat_lt
 have := Bkw i (p.getD (i / 8) 0).toNat (by simpa using hc) (i % 8) 0 Az (by omega) (by have := Am; omega)
 rw [Hr, Zp, Bux _ hi, Ay3 h, Aa, Ag7, Zh]
 simpa [Jc] using this
theorem Ax6 (p : List UInt8) (N : Int) (a n : Nat) (ha : a + n ≤ 8 * p.length) (hp : p.length ≤ 1000000) : ∀ (j q : Nat), j ≤ n → j < q → Fl (a : Int) p N q (Wq p (a + j) (n - j)) ((j : Int) - 1) = some (Wq p a n)
 | 0, q + 1, _, _ => by
  rw [Fl, Lt, if_neg (by rw [Dv]; simp)]; rfl
 | j + 1, q + 1, hj, hq => by
  have hb := Yr p (a + j)
  rw [Fl, Lt, show ((j + 1 : Nat) : Int) - 1 = (j : Int) by omega, if_pos (by rw [Dv]; simp), Ag (a := (a : Int)) (by omega) (by omega), show (a : Int) + (j : Int) = ((a + j : Nat) : Int) by omega, Atw p N (a + j) (by omega) (by omega), Aa, Bi (by omega) (by omega)]
  have e : Ae (Be (2 : UInt64) (Wq p (a + (j + 1)) (n - (j + 1)))) (Ad ((Jc p (a + j) : Nat) : Int) : UInt64) = Wq p (a + j) (n - j) := by
   rw [Afk, Ae9, Aaj, Wq, Wq, show n - j = (n - (j + 1)) + 1 by omega, Cb, show a + j + 1 = a + (j + 1) by omega, UInt64.ofNat_add, UInt64.ofNat_mul]
   exact UInt64.add_comm _ _
  rw [e]
  exact Ax6 p N a n ha hp j q (by omega) (by omega)
theorem Arp (p : List UInt8) (N : Int) (a n : Nat) (ha : a + n ≤ 8 * p.length) (hp : p.length ≤ 1000000) : Kw p N (a : Int) (n : Int) = some (Wq p a n) := by
 have := Ax6 p N a n ha hp n Az (Nat.le_refl _) (by have := Am; omega)
 have hz : Wq p (a + n) (n - n) = 0 := by rw [Nat.sub_self]; rfl
 rw [hz] at this
 rw [Kw, Tk, Ub, Bi (by omega) (by omega)]
 exact this
theorem Bjx (bit : Int) (N : Nat) (l : List UInt8) : ∀ (j k q : Nat), k + j = N % 8 → j < q → Hl bit (N : Int) l q ((2 ^ k : Nat) : Int) (k : Int) = Ph bit ((2 ^ (N % 8) : Nat) : Int) (N : Int) l
 | 0, k, q + 1, hk, _ => by
  rw [Hl, Pm, Bnh, if_neg (by rw [Af]; simp; omega), show k = N % 8 by omega]
 | j + 1, k, q + 1, hk, hq => by
  have hp : 2 ^ k ≤ 2 ^ 8 := Nat.pow_le_pow_right (by omega) (by omega)
  have e : Be ((2 ^ k : Nat) : Int) 2 = ((2 ^ (k + 1) : Nat) : Int) := by
   rw [Nat.pow_succ]
   generalize 2 ^ k = K at *
   rw [Gu (by omega) (by omega)]; omega
  rw [Hl, Pm, Bnh, if_pos (by rw [Af]; simp; omega), e, Ag (by omega) (by omega)]
  exact Bjx bit N l j (k + 1) q (by omega) (by omega)
theorem Awz (p : List UInt8) (a n j : Nat) (h : j < (n + 7) / 8) : (Adw p a n)[j]'(by rw [Mu]; exact h) = UInt8.ofNat (Cb p (a + 8 * j) (min 8 (n - 8 * j))) := by simp [Adw]
theorem Bgz (p : List UInt8) (a t : Nat) (h : t ≤ 8) : Cb p a t < 256 := by
 have h1 := Rr p t a
 have h2 : 2 ^ t ≤ 2 ^ 8 := Nat.pow_le_pow_right (by omega) h
 omega
def room (p : List UInt8) (a n : Nat) : List UInt8 := if n % 8 = 0 then Adw p a n ++ [0] else Adw p a n
theorem Yq (p : List UInt8) (a n : Nat) : (room p a n).length = n / 8 + 1 := by
 rw [room]; split <;> simp [Mu] <;> omega
theorem Bfj (p : List UInt8) (a n j : Nat) (h : j < n / 8 + 1) : (room p a n)[j]'(by rw [Yq]; exact h) = UInt8.ofNat (Cb p (a + 8 * j) (min 8 (n - 8 * j))) := by
 have h0 : (room p a n)[j]? = some (UInt8.ofNat (Cb p (a + 8 * j) (min 8 (n - 8 * j)))) := by
  rw [room]
  split
  ·by_cases hj : j < (n + 7) / 8
   ·rw [List.getElem?_append_left (by rw [Mu]; exact hj), List.getElem?_eq_getElem (by rw [Mu]; exact hj), Awz p a n j hj]
   ·rw [List.getElem?_append_right (by rw [Mu]; omega), Mu, show j - (n + 7) / 8 = 0 by omega, show n - 8 * j = 0 by omega]; rfl
  ·rw [List.getElem?_eq_getElem (by rw [Mu]; omega), Awz p a n j (by omega)]
 rw [List.getElem?_eq_getElem (by rw [Yq]; exact h)] at h0
 exact Option.some.inj h0
theorem Bf2 (p : List UInt8) (a n T : Nat) (h1 : 1 ≤ T) (h : n % 8 + T ≤ 8) : (room p a n).set (n / 8) (UInt8.ofNat (Cb p (a + 8 * (n / 8)) (n % 8 + T))) = Adw p a (n + T) := by
 apply List.ext_getElem (by rw [List.length_set, Yq, Mu]; omega)
 intro j g1 g2
 rw [List.length_set, Yq] at g1
 rw [List.getElem_set, Awz p a (n + T) j (by rw [Mu] at g2; exact g2)]
 split
 ·rename_i e; subst e; rw [show min 8 (n + T - 8 * (n / 8)) = n % 8 + T by omega]
 ·rw [Bfj p a n j g1, show min 8 (n - 8 * j) = 8 by omega, show min 8 (n + T - 8 * j) = 8 by omega]
theorem Bb0 (p : List UInt8) (a n : Nat) : (room p a n)[n / 8]'(by rw [Yq]; omega) = UInt8.ofNat (Cb p (a + 8 * (n / 8)) (n % 8)) := by
 rw [Bfj p a n _ (by omega), show min 8 (n - 8 * (n / 8)) = n % 8 by omega]
theorem Bom (p : List UInt8) (a n : Nat) (hn : n ≤ 400000) : Qu (Adw p a n) (n : Int) ((Jc p (a + n) : Nat) : Int) = some (Adw p a (n + 1), ((n + 1 : Nat) : Int)) := by
 have hb := Yr p (a + n)
 have hp : 2 ^ (n % 8) ≤ 2 ^ 7 := Nat.pow_le_pow_right (by omega) (by omega)
 have hroom : Qu (Adw p a n) (n : Int) ((Jc p (a + n) : Nat) : Int) = Oz ((Jc p (a + n) : Nat) : Int) (n : Int) (room p a n) := by
  rw [Qu, Xl, Bnh, room]
  by_cases h0 : n % 8 = 0
  ·rw [if_pos (by rw [Bg, h0]; rfl), Gt (by rw [Mu]; simp; omega), Aa, if_pos h0]
  ·rw [if_neg (by rw [Bg]; simp; omega), if_neg h0]
 have hl := Bjx ((Jc p (a + n) : Nat) : Int) n (room p a n) (n % 8) 0 Az (by omega) (by have := Am; omega)
 rw [hroom, Oz, Yb, Yc]
 refine Eq.trans hl ?_
 have hg : getI (room p a n) ((n / 8 : Nat) : Int) = some (UInt8.ofNat (Cb p (a + 8 * (n / 8)) (n % 8))) := by
  rw [Cp (by rw [Yq]; omega), Bb0]
 have hlt := Bgz p (a + 8 * (n / 8)) (n % 8 + 1) (by omega)
 have hsn := Bay p (a + 8 * (n / 8)) (n % 8)
 rw [show a + 8 * (n / 8) + n % 8 = a + n by omega] at hsn
 have hm : Be ((Jc p (a + n) : Nat) : Int) ((2 ^ (n % 8) : Nat) : Int) = ((2 ^ (n % 8) * Jc p (a + n) : Nat) : Int) := by
  have hle : 2 ^ (n % 8) * Jc p (a + n) ≤ 2 ^ 7 * 1 := Nat.mul_le_mul hp (by omega)
  rw [Bnw, ← Int.natCast_mul, Cc (by omega) (by rw [Nat.mul_comm]; omega), Nat.mul_comm]
 have hx : Ae (UInt8.ofNat (Cb p (a + 8 * (n / 8)) (n % 8))) (Ad (((2 ^ (n % 8) * Jc p (a + n) : Nat) : Int)) : UInt8) = UInt8.ofNat (Cb p (a + 8 * (n / 8)) (n % 8 + 1)) := by
  rw [Bqz, Bpy, hsn, UInt8.ofNat_add]
 rw [Ph, Agd, Bux _ (by omega), hg, Aa, Aa, Aa, hm, hx, Xr _ (by rw [Yq]; omega), Aa, Bf2 p a n 1 (by omega) (by omega), Ag (by omega) (by omega)]; rfl
theorem Ata (p : List UInt8) (N : Int) (a n : Nat) (ha : a + n ≤ 8 * p.length) (hp : p.length ≤ 1000000) (hn : n ≤ 300000) : ∀ (j m q : Nat), m + j = n → j < q → Ep ((a + n : Nat) : Int) p N q ((a + m : Nat) : Int) (m : Int) (Adw p a m) = some (Adw p a n, (n : Int))
 | 0, m, q + 1, hm, _ => by
  rw [Ep, Jd, if_neg (by rw [Af]; simp; omega), show m = n by omega]; rfl
 | j + 1, m, q + 1, hm, hq => by
  rw [Ep, Jd, if_pos (by rw [Af]; simp; omega), Atw p N (a + m) (by omega) (by omega), Aa, Bom p a m (by omega), Aa]
  simp only
  rw [Ag (by omega) (by omega)]
  exact Ata p N a n ha hp hn j (m + 1) q (by omega) (by omega)
theorem Bgj (p : List UInt8) (N : Int) (a n : Nat) (ha : a + n ≤ 8 * p.length) (hp : p.length ≤ 1000000) (hn : n ≤ 300000) : Vz p N (a : Int) ((a + n : Nat) : Int) = some (Adw p a n, (n : Int)) := by
 have := Ata p N a n ha hp hn n 0 Az (by omega) (by have := Am; omega)
 exact this
end Go.Pl
set_option linter.unusedVariables false
set_option linter.unusedSimpArgs false
namespace Go.Pl
open Go Go.Lv
theorem Bt4 {t : Nat} (h : t ≤ 8) : Al (Fh (1 : UInt64) t) (1 : UInt64) = UInt64.ofNat (2 ^ t - 1) := by
 have : t = 0 ∨ t = 1 ∨ t = 2 ∨ t = 3 ∨ t = 4 ∨ t = 5 ∨ t = 6 ∨ t = 7 ∨ t = 8 := by omega
 rcases this with rfl | rfl | rfl | rfl | rfl | rfl | rfl | rfl | rfl <;> decide
theorem Bwj (v : UInt64) {t : Nat} (h : t ≤ 8) : (Il v (Al (Fh (1 : UInt64) t) (1 : UInt64))).toNat = v.toNat % 2 ^ t := by
 have hp : 2 ^ t ≤ 2 ^ 8 := Nat.pow_le_pow_right (by omega) h
 rw [Bt4 h, Azr, UInt64.toNat_and, UInt64.toNat_ofNat', Nat.mod_eq_of_lt (by have := Nat.pow_pos (n := t) (show 0 < 2 by omega); omega), Nat.and_two_pow_sub_one_eq_mod]
theorem or8 {v w i : Nat} (hv : v < 2 ^ i) (hw : w * 2 ^ i < 256) (hi : i < 8) : gor (UInt8.ofNat v) (Fh (UInt8.ofNat w) i) = UInt8.ofNat (v + w * 2 ^ i) := by
 have hp : 2 ^ i ≤ 2 ^ 8 := Nat.pow_le_pow_right (by omega) (by omega)
 have hpos : 0 < 2 ^ i := Nat.pow_pos (by omega)
 have hw2 : w < 256 := Nat.lt_of_le_of_lt (Nat.le_mul_of_pos_right w hpos) hw
 rw [Bts]; apply UInt8.toNat_inj.1
 have e1 : (UInt8.ofNat v).toNat = v := by rw [UInt8.toNat_ofNat', Nat.mod_eq_of_lt (by omega)]
 have e2 : (UInt8.ofNat w).toNat = w := by rw [UInt8.toNat_ofNat', Nat.mod_eq_of_lt (by omega)]
 rw [UInt8.toNat_or, Bsc, e1, e2, Nat.mod_eq_of_lt hw, Nat.mul_comm w, Nat.or_comm, ← Nat.two_pow_add_eq_or_of_lt hv, UInt8.toNat_ofNat', Nat.add_comm v]
 rw [Nat.mul_comm] at hw
 have hb : 2 ^ i * w + v < 256 := by
  rw [Nat.two_pow_add_eq_or_of_lt hv]
  exact Nat.or_lt_two_pow (n := 8) hw (by omega)
 rw [Nat.mod_eq_of_lt hb]
theorem Bnr (p : List UInt8) (a n T : Nat) (h : T ≤ n) (hn : n ≤ 64) : Cy (Wq p a n) T = Wq p (a + T) (n - T) := by
 apply UInt64.toNat_inj.1
 rw [Afh, Abh p a n hn, Abh p (a + T) (n - T) (by omega)]
 have := Rr p T a
 conv => lhs; rw [show n = T + (n - T) by omega, Ai4, Nat.add_mul_div_left _ _ (Nat.pow_pos (by omega)), Nat.div_eq_of_lt this, Nat.zero_add]
theorem Bo1 (p : List UInt8) (a n T : Nat) (h : T ≤ n) (hn : n ≤ 64) : (Wq p a n).toNat % 2 ^ T = Cb p a T := by
 have := Rr p T a
 rw [Abh p a n hn]
 conv => lhs; rw [show n = T + (n - T) by omega, Ai4, Nat.add_mul_mod_self_left, Nat.mod_eq_of_lt this]
theorem Aw9 (bk : Int → Int → List UInt8 → Option (List UInt8 × Int × Int)) (to' : Int) (p : List UInt8) (N fr : Int) (r6 : UInt64) (a : Nat) : ∀ (j m q : Nat), m + j ≤ 300000 → j ≤ 64 → j < q →
  Nw bk to' p N fr r6 q (Wq p (a + m) j) (j : Int) (m : Int) (Adw p a m) = Agv bk to' p N fr ((m + j : Nat) : Int) (Adw p a (m + j))
 | 0, m, q + 1, _, _, _ => by
  rw [Nw, Agw, if_neg (by rw [Ax]; simp)]; rfl
 | j + 1, m, q + 1, hm, hj, hq => by
  have hroom : Nw bk to' p N fr r6 (q + 1) (Wq p (a + m) (j + 1)) ((j + 1 : Nat) : Int) (m : Int) (Adw p a m) = Ag1 (Nw bk to' p N fr r6 q) to' fr p N r6 (Wq p (a + m) (j + 1)) ((j + 1 : Nat) : Int) (m : Int) (room p a m) := by
   rw [Nw, Agw, if_pos (by rw [Ax]; simp), Bgg m (by omega), room]
   by_cases h0 : m % 8 = 0
   ·rw [if_pos (by rw [Bg, h0]; rfl), Gt (by rw [Mu]; simp; omega), Aa, if_pos h0]
   ·rw [if_neg (by rw [Bg]; simp; omega), if_neg h0]
  have hl : Al (Ac (room p a m)) 1 = ((m / 8 : Nat) : Int) := by
   rw [Ac, Yq, Bi (by omega) (by omega)]; omega
  have e2 : Gd ((j + 1 : Nat) : Int) (Al (8 : Int) ((m % 8 : Nat) : Int)) = ((min (j + 1) (8 - m % 8) : Nat) : Int) := by
   rw [Ahd, Bi (by omega) (by omega)]; omega
  rw [hroom, Ag1, Anf, Bgg m (by omega), e2, hl]
  generalize hT : min (j + 1) (8 - m % 8) = T
  have hT1 : 1 ≤ T := by omega
  have hT8 : m % 8 + T ≤ 8 := by omega
  have hg : getI (room p a m) ((m / 8 : Nat) : Int) = some (UInt8.ofNat (Cb p (a + 8 * (m / 8)) (m % 8))) := by
   rw [Cp (by rw [Yq]; omega), Bb0]
  have z1 : (GI.toZ ((m % 8 : Nat) : Int)).toNat = m % 8 := rfl
  have z2 : (GI.toZ ((T : Nat) : Int)).toNat = T := rfl
  have hlt := Bgz p (a + 8 * (m / 8)) (m % 8 + T) (by omega)
  have hadd := Ai4 p (m % 8) T (a + 8 * (m / 8))
  rw [show a + 8 * (m / 8) + m % 8 = a + m by omega] at hadd
  have hbyte : (Ad (Il (Wq p (a + m) (j + 1)) (Al (Fh (1 : UInt64) T) (1 : UInt64))) : UInt8) = UInt8.ofNat (Cb p (a + m) T) := by
   rw [Amt, Bwj _ (by omega), Bo1 p (a + m) (j + 1) T (by omega) hj]
  have hnew : gor (UInt8.ofNat (Cb p (a + 8 * (m / 8)) (m % 8))) (Fh (UInt8.ofNat (Cb p (a + m) T)) (m % 8)) = UInt8.ofNat (Cb p (a + 8 * (m / 8)) (m % 8 + T)) := by
   rw [or8 (Rr _ _ _) (by rw [Nat.mul_comm]; omega) (by omega), hadd, Nat.mul_comm (2 ^ (m % 8))]
  rw [hg, z1, z2, hbyte]
  simp only [Aa]
  rw [Dj (by rw [Dv]; simp), Aa, Dj (by rw [Dv]; simp; omega), Aa, hnew, Xr _ (by rw [Yq]; omega), Aa, Bf2 p a m T hT1 hT8, Amo, As0, Bgg m (by omega), e2, hT, Dj (by rw [Dv]; simp), Aa, z2, Bnr p (a + m) (j + 1) T (by omega) hj, Bi (by omega) (by omega), Ag (by omega) (by omega)]
  have ih := Aw9 bk to' p N fr r6 a (j + 1 - T) (m + T) q (by omega) (by omega) (by omega)
  rw [show m + T + (j + 1 - T) = m + (j + 1) by omega] at ih
  rw [← ih, show a + m + T = a + (m + T) by omega, show ((j + 1 : Nat) : Int) - ((T : Nat) : Int) = ((j + 1 - T : Nat) : Int) by omega, show (m : Int) + ((T : Nat) : Int) = ((m + T : Nat) : Int) by omega]
theorem Bf7 (p : List UInt8) (N : Int) (a n : Nat) (ha : a + n ≤ 8 * p.length) (hp : p.length ≤ 1000000) (hn : n ≤ 300000) : ∀ (j m f q : Nat), (f = m ∨ n ≤ f ∧ m = n) → m + j = n → f ≤ n + 64 → j < q → Xf ((a + n : Nat) : Int) p N q ((a + f : Nat) : Int) (m : Int) (Adw p a m) = some (Adw p a n, (n : Int), 0)
 | j, m, f, q + 1, hf, hm, hf2, hq => by
  rw [Xf, Amc]
  by_cases hlt : f < n
  ·obtain rfl : f = m := by omega
   have e1 : Gd (64 : Int) (Al ((a + n : Nat) : Int) ((a + f : Nat) : Int)) = ((min 64 (n - f) : Nat) : Int) := by
    rw [Ahd, Bi (by omega) (by omega)]; omega
   rw [if_pos (by rw [Af]; simp; omega), e1, get_eq p N (a + f) _ (by omega) (by omega) hp, Aa, Ana]
   have h1 := Aw9 (Xf ((a + n : Nat) : Int) p N q) ((a + n : Nat) : Int) p N ((a + f : Nat) : Int) (Wq p (a + f) (min 64 (n - f))) a (min 64 (n - f)) f Az (by omega) (by omega) (by have := Am; omega)
   refine Eq.trans h1 ?_
   rw [Agv, Asd, Ag (by omega) (by omega), show ((a + f : Nat) : Int) + 64 = ((a + (f + 64) : Nat) : Int) by omega]
   exact Bf7 p N a n ha hp hn (j - min 64 (n - f)) (f + min 64 (n - f)) (f + 64) q (by omega) (by omega) (by omega) (by omega)
  ·rw [if_neg (by rw [Af]; simp; omega), Amj, Ate, show m = n by omega]
theorem Buq {p : List UInt8} {N : Nat} (h : okB p N) (a n : Nat) (ha : a + n ≤ N) (hn : n ≤ 300000) : Apa p (N : Int) (a : Int) ((a + n : Nat) : Int) = some (Adw p a n, (n : Int), 0) := by
 obtain ⟨h1, h2, h3⟩ := h
 have := Bf7 p N a n (by omega) (by omega) hn n 0 0 Az (by omega) (by omega) (by omega) (by have := Am; omega)
 rw [Apa, Aod, Ag3 ⟨h1, h2, h3⟩, Aa, if_neg (by rw [Ah]; simp), if_neg (by simp [Af, Ax]; omega), Ame]
 exact this
end Go.Pl
set_option linter.unusedVariables false
set_option linter.unusedSimpArgs false
namespace Go.Pl
open Go Go.Lv
def Fi (p : List UInt8) : Nat → Nat → Nat
 | _, 0 => 0
 | a, m + 1 => if Jc p a = 1 then 1 + Fi p (a + 1) m else 0
theorem Ajo (p : List UInt8) : ∀ (m a : Nat), Fi p a m ≤ m
 | 0, _ => Nat.le_refl _
 | m + 1, a => by rw [Fi]; split <;> have := Ajo p m (a + 1) <;> omega
theorem Beq (p : List UInt8) : ∀ (m a : Nat), ∃ s, Cb p a m + 1 = 2 ^ (Fi p a m + 1) * s + 2 ^ Fi p a m ∧ (Fi p a m = m → s = 0)
 | 0, a => ⟨0, by simp [Cb, Fi], fun _ => rfl⟩
 | m + 1, a => by
  have hb := Yr p a
  obtain ⟨s, h1, h2⟩ := Beq p m (a + 1)
  by_cases h : Jc p a = 1
  ·refine ⟨s, ?_, fun e => h2 ?_⟩
   ·rw [Fi, if_pos h, Cb, h, show 1 + Fi p (a + 1) m + 1 = (Fi p (a + 1) m + 1) + 1 by omega, show 1 + Fi p (a + 1) m = Fi p (a + 1) m + 1 by omega, Nat.pow_succ, Nat.pow_succ (n := 2) (m := Fi p (a + 1) m)]
    rw [Nat.pow_succ] at h1
    generalize Cb p (a + 1) m = V at *
    generalize 2 ^ Fi p (a + 1) m = W at *
    have e1 : W * 2 * 2 * s = 2 * (W * 2 * s) := by rw [Nat.mul_right_comm (W * 2) 2 s, Nat.mul_comm]
    omega
   ·rw [Fi, if_pos h] at e; omega
  ·refine ⟨Cb p (a + 1) m, ?_, fun e => ?_⟩
   ·rw [Fi, if_neg h, Cb]; simp; omega
   ·rw [Fi, if_neg h] at e; omega
theorem Bqj {n t s : Nat} (h : 2 ^ (t + 1) * s + 2 ^ t ≤ 2 ^ n) (ht : t < n) (x : Nat) (hx : x = 2 ^ n - (2 ^ (t + 1) * s + 2 ^ t)) : x &&& (2 ^ (t + 1) * s + 2 ^ t) = 2 ^ t := by
 have hpos : 0 < 2 ^ t := Nat.pow_pos (by omega)
 have hlt : 2 ^ t < 2 ^ (t + 1) := by rw [Nat.pow_succ]; omega
 have e : x = 2 ^ n - ((2 ^ (t + 1) * s + (2 ^ t - 1)) + 1) := by rw [hx]; congr 1; omega
 apply Nat.eq_of_testBit_eq
 intro i
 rw [Nat.testBit_and, e, Nat.testBit_two_pow_sub_succ (by omega), Nat.testBit_two_pow_mul_add _ (by omega), Nat.testBit_two_pow_mul_add _ hlt]
 by_cases hi : i < t + 1
 ·rw [if_pos hi, if_pos hi, Nat.testBit_two_pow_sub_one, Nat.testBit_two_pow]
  by_cases hit : t = i
  ·subst hit; simp; exact ht
  ·have : ¬ i = t := fun e => hit e.symm
   simp [hit]
 ·rw [if_neg hi, if_neg hi, Nat.testBit_two_pow]
  have : ¬ t = i := by omega
  simp [this]
theorem Box (a : UInt64) : (Axc a).toNat = 18446744073709551615 - a.toNat := by
 have h := a.toNat_lt
 have e : Axc a = UInt64.ofNat (BitVec.ofInt 64 18446744073709551615 ^^^ BitVec.ofInt 64 (a.toNat : Int)).toNat := Gl _
 have h1 : BitVec.ofInt 64 (a.toNat : Int) = a.toBitVec := Bcx a
 have h2 : (BitVec.ofInt 64 18446744073709551615 : BitVec 64) = BitVec.allOnes 64 := by decide
 rw [e, UInt64.toNat_ofNat', h1, h2, BitVec.allOnes_xor, BitVec.toNat_not]
 show (18446744073709551616 - 1 - a.toNat) % 18446744073709551616 = 18446744073709551615 - a.toNat
 omega
theorem Bm4 (a : UInt64) : (Asi a).toNat = (18446744073709551616 - a.toNat) % 18446744073709551616 := by
 have h := a.toNat_lt
 have e : Asi a = UInt64.ofNat ((0 - (a.toNat : Int)) % 18446744073709551616).toNat := Bc9 _
 rw [e, UInt64.toNat_ofNat']
 show ((0 - (a.toNat : Int)) % 18446744073709551616).toNat % 18446744073709551616 = _
 omega
def Bvo : List UInt8 := [0, 1, 56, 2, 57, 49, 28, 3, 61, 58, 42, 50, 38, 29, 17, 4, 62, 47, 59, 36, 45, 43, 51, 22, 53, 39, 33, 30, 24, 18, 12, 5, 63, 55, 48, 27, 60, 41, 37, 16, 46, 35, 44, 21, 52, 32, 23, 11, 54, 26, 40, 15, 34, 20, 31, 10, 25, 14, 19, 9, 13, 8, 7, 6]
theorem Bmp : ∀ t : Fin 64, getI Bvo (GI.toZ (Cy (Be (UInt64.ofNat (2 ^ t.val)) (285870213051353865 : UInt64)) (GI.toZ (58 : UInt64)).toNat)) = some (UInt8.ofNat t.val) := by decide +kernel
theorem Bvm (x : UInt64) (t s : Nat) (ht : t < 64) (h : x.toNat + (2 ^ (t + 1) * s + 2 ^ t) = 18446744073709551616) : Fg x = some (t : Int) := by
 have hpos : 0 < 2 ^ t := Nat.pow_pos (by omega)
 have hx : x.toNat = 2 ^ 64 - (2 ^ (t + 1) * s + 2 ^ t) := by show x.toNat = 18446744073709551616 - _; omega
 have hle : 2 ^ t ≤ 2 ^ 63 := Nat.pow_le_pow_right (by omega) (by omega)
 have hne : x ≠ 0 := by
  intro e
  rw [e] at h
  have h' : 2 ^ t * (2 * s + 1) = 2 ^ 64 := by
   rw [Nat.mul_add, Nat.mul_one, ← Nat.mul_assoc, ← Nat.pow_succ]
   show _ = 18446744073709551616
   simpa using h
  have h2 : 2 ^ 64 = 2 ^ t * 2 ^ (64 - t) := by rw [← Nat.pow_add]; congr 1; omega
  rw [h2] at h'
  have h3 := Nat.eq_of_mul_eq_mul_left hpos h'
  rw [show 64 - t = (63 - t) + 1 by omega, Nat.pow_succ] at h3
  omega
 have hx0 : x.toNat ≠ 0 := fun e => hne (UInt64.toNat_inj.1 e)
 have hl : Il x (Asi x) = UInt64.ofNat (2 ^ t) := by
  apply UInt64.toNat_inj.1
  rw [Azr, UInt64.toNat_and, Bm4, show (18446744073709551616 - x.toNat) % 18446744073709551616 = 2 ^ (t + 1) * s + 2 ^ t by omega, Bqj (n := 64) (by show _ ≤ 18446744073709551616; omega) ht _ hx, UInt64.toNat_ofNat', Nat.mod_eq_of_lt]
  exact Nat.lt_of_le_of_lt hle (by decide)
 have hb := Bmp ⟨t, ht⟩
 rw [Fg, if_neg (by rw [Av2]; simpa using hne), hl]
 refine Eq.trans (congrArg (fun o => Option.bind o fun c => some (Ad c : Int)) hb) ?_
 rw [Aa, Ag7, UInt8.toNat_ofNat', Nat.mod_eq_of_lt (by show t < 256; omega)]
theorem Bsl (p : List UInt8) (a m : Nat) (hm : m ≤ 48) : Fg (Axc (Wq p a m)) = some ((Fi p a m : Nat) : Int) := by
 obtain ⟨s, h1, h2⟩ := Beq p m a
 have hle := Ajo p m a
 have hlt := Rr p m a
 have h48 : 2 ^ m ≤ 2 ^ 48 := Nat.pow_le_pow_right (by omega) hm
 have hn : (Axc (Wq p a m)).toNat = 18446744073709551615 - Cb p a m := by rw [Box, Abh p a m (by omega)]
 have h3 : (281474976710656 : Nat) = 2 ^ 48 := rfl
 refine Bvm _ (Fi p a m) s (by omega) ?_
 rw [hn]; omega
def unS (p : List UInt8) (N a : Nat) : Int × Int × Int :=
 if Fi p a (min 48 (N - a)) < min 48 (N - a) then ((Fi p a (min 48 (N - a)) : Nat), ((a + Fi p a (min 48 (N - a)) + 1 : Nat) : Int), 0) else
 if Fi p a (min 48 (N - a)) = 48 then (48, ((a + 48 : Nat) : Int), 0) else (0, 0, 24)
theorem Bm1 {p : List UInt8} {N : Nat} (h : okB p N) (a : Nat) (ha : a < N) : Adn p (N : Int) (a : Int) = some (unS p N a) := by
 have hN := h.1
 have e1 : Gd (48 : Int) (Al (N : Int) (a : Int)) = ((min 48 (N - a) : Nat) : Int) := by rw [Ahd, Bi (by omega) (by omega)]; omega
 have hle := Ajo p (min 48 (N - a)) a
 rw [Adn, Yf, Ag3 h, Aa, if_neg (by rw [Ah]; simp), if_neg (by rw [Af]; simp), if_neg (by rw [Dv]; simp; omega), e1, Auk h a _ (by omega), if_neg (by omega), Aa]
 simp only
 rw [Akc, Akd, if_neg (by rw [Ah]; simp), Bsl p a _ (by omega), Aa, Akj, Akm, e1, unS]
 by_cases h1 : Fi p a (min 48 (N - a)) < min 48 (N - a)
 ·rw [if_pos (by rw [Af]; simp; omega), if_pos h1, Ag (a := (a : Int)) (by omega) (by omega), show Ae (0 : Int) 1 = 1 by decide, Ag (by omega) (by omega)]
  congr 3; omega
 ·rw [if_neg (by rw [Af]; simp; omega), if_neg h1, Aj0, Aj8]
  by_cases h2 : Fi p a (min 48 (N - a)) = 48
  ·rw [if_pos (by rw [Bg, h2]; rfl), if_pos h2, h2, Ag (a := (a : Int)) (by omega) (by omega), Ag (by omega) (by omega)]
   congr 3; omega
  ·rw [if_neg (by rw [Bg]; simp; omega), if_neg h2]; rfl
theorem Bbs (p : List UInt8) : ∀ (m a : Nat), Fi p a m < m → Jc p (a + Fi p a m) ≠ 1
 | 0, _, h => by simp [Fi] at h
 | m + 1, a, h => by
  by_cases hb : Jc p a = 1
  ·rw [Fi, if_pos hb] at h ⊢
   have := Bbs p m (a + 1) (by omega)
   rwa [show a + (1 + Fi p (a + 1) m) = a + 1 + Fi p (a + 1) m by omega]
  ·rw [Fi, if_neg hb]; exact hb
theorem Bbq (p : List UInt8) : ∀ (m a k : Nat), k < Fi p a m → Jc p (a + k) = 1
 | 0, a, k, h => by simp [Fi] at h
 | m + 1, a, k, h => by
  by_cases hb : Jc p a = 1
  ·rw [Fi, if_pos hb] at h
   cases k with
   | zero => exact hb
   | succ k =>
    have := Bbq p m (a + 1) k (by omega)
    rwa [show a + (k + 1) = a + 1 + k by omega]
  ·rw [Fi, if_neg hb] at h; omega
def unR (p : List UInt8) (N a : Nat) : Int × Int := if (unS p N a).2.2 = 0 then ((unS p N a).1, (unS p N a).2.1) else (-1, 0)
theorem Azw {p : List UInt8} {N : Nat} (h : okB p N) (a : Nat) (ha : a < N) : ∀ (j k q : Nat), k + j = Fi p a (min 48 (N - a)) → j < q → Hn (a : Int) p (N : Int) q (k : Int) = some (unR p N a)
 | 0, k, q + 1, hk, _ => by
  obtain ⟨hN, hl, hz⟩ := h
  have hle := Ajo p (min 48 (N - a)) a
  have hk' : k = Fi p a (min 48 (N - a)) := by omega
  have e1 : Ae (a : Int) (k : Int) = ((a + k : Nat) : Int) := by rw [Ag (by omega) (by omega)]; omega
  have hend : Pj (a : Int) (k : Int) p (N : Int) = some (unR p N a) := by
   rw [Pj, Age, e1]
   by_cases h48 : k = 48
   ·have hu : unS p N a = (48, ((a + 48 : Nat) : Int), 0) := by rw [unS, ← hk', if_neg (by omega), if_pos h48]
    rw [if_pos (by rw [Bg, h48]; rfl), unR, hu, h48]; rfl
   ·rw [if_neg (by rw [Bg]; simp; omega)]
    by_cases hN2 : N ≤ a + k
    ·have hu : unS p N a = (0, 0, 24) := by rw [unS, ← hk', if_neg (by omega), if_neg h48]
     rw [if_pos (by rw [Dv]; simp; omega), unR, hu]; rfl
    ·have hu : unS p N a = (((k : Nat) : Int), ((a + k + 1 : Nat) : Int), 0) := by rw [unS, ← hk', if_pos (by omega)]
     rw [if_neg (by rw [Dv]; simp; omega), unR, hu, Ag (by omega) (by omega)]; rfl
  rw [Hn, Pp, e1]
  by_cases hc : a + k < N ∧ k < 48
  ·have hb := Yr p (a + k)
   have hs := Bbs p (min 48 (N - a)) a (by omega)
   rw [← hk'] at hs
   rw [if_pos (by simp [Af]; omega), Atw p _ (a + k) (by omega) (by omega), Aa, if_neg (by rw [Bg]; simp; omega), hend]
  ·rw [if_neg (by simp [Af]; omega), hend]
 | j + 1, k, q + 1, hk, hq => by
  obtain ⟨hN, hl, hz⟩ := h
  have hle := Ajo p (min 48 (N - a)) a
  have hb := Bbq p (min 48 (N - a)) a k (by omega)
  have e1 : Ae (a : Int) (k : Int) = ((a + k : Nat) : Int) := by rw [Ag (by omega) (by omega)]; omega
  rw [Hn, Pp, e1, if_pos (by simp [Af]; omega), Atw p _ (a + k) (by omega) (by omega), Aa, hb, if_pos (by decide), Ag (by omega) (by omega)]
  exact Azw ⟨hN, hl, hz⟩ a ha j (k + 1) q (by omega) (by omega)
theorem Bnb {p : List UInt8} {N : Nat} (h : okB p N) (a : Nat) (ha : a < N) : Adz p (N : Int) (a : Int) = some (unR p N a) := by
 have hle := Ajo p (min 48 (N - a)) a
 have := Azw h a ha (Fi p a (min 48 (N - a))) 0 Az (by omega) (by have := Am; omega)
 exact this
end Go.Pl
set_option linter.unusedVariables false
set_option linter.unusedSimpArgs false
namespace Go.Pl
open Go Go.Lv
theorem Bov {p : List UInt8} {N a : Nat} (h : Fi p a (min 48 (N - a)) < min 48 (N - a)) : unS p N a = (((Fi p a (min 48 (N - a)) : Nat) : Int), ((a + Fi p a (min 48 (N - a)) + 1 : Nat) : Int), 0) := by rw [unS, if_pos h]
theorem Bpl {p : List UInt8} {N a : Nat} (h : ¬ Fi p a (min 48 (N - a)) < min 48 (N - a)) (h2 : Fi p a (min 48 (N - a)) = 48) : unS p N a = (48, ((a + 48 : Nat) : Int), 0) := by rw [unS, if_neg h, if_pos h2]
theorem Bob {p : List UInt8} {N a : Nat} (h : ¬ Fi p a (min 48 (N - a)) < min 48 (N - a)) (h2 : ¬ Fi p a (min 48 (N - a)) = 48) : unS p N a = (0, 0, 24) := by rw [unS, if_neg h, if_neg h2]
theorem Blt {p : List UInt8} {N : Nat} (h : okB p N) (a : Nat) (ha : N ≤ a) : Adn p (N : Int) (a : Int) = some (0, 0, 24) := by
 rw [Adn, Yf, Ag3 h, Aa, if_neg (by rw [Ah]; simp), if_neg (by rw [Af]; simp), if_pos (by rw [Dv]; simp; omega)]
def rcS (p : List UInt8) (N a k : Nat) : UInt32 × Int × Int :=
 if N ≤ a then (0, 0, 24) else
 if Fi p a (min 48 (N - a)) < min 48 (N - a) then
  (if N < a + Fi p a (min 48 (N - a)) + 1 + k then (0, 0, 24) else (UInt32.ofNat (Fi p a (min 48 (N - a)) * 2 ^ k + Cb p (a + Fi p a (min 48 (N - a)) + 1) k), ((a + Fi p a (min 48 (N - a)) + 1 + k : Nat) : Int), 0))
 else if Fi p a (min 48 (N - a)) = 48 then
  (if N < a + 48 + 32 then (0, 0, 24) else if Cb p (a + 48) 32 / 2 ^ k < 48 then (0, 0, 12) else (UInt32.ofNat (Cb p (a + 48) 32), ((a + 48 + 32 : Nat) : Int), 0))
 else (0, 0, 24)
theorem As3 {p : List UInt8} {a n : Nat} (h : n ≤ 32) : (Ad (Wq p a n) : UInt32) = UInt32.ofNat (Cb p a n) := by
 have e : (Ad (Wq p a n) : UInt32) = UInt32.ofNat (Wq p a n).toNat := by simp only [Ad, Ht, Eh]
 rw [e, Abh p a n (by omega)]
theorem Al7 {n : Nat} (h : n < 4294967296) : (UInt32.ofNat n).toNat = n := by rw [UInt32.toNat_ofNat']; exact Nat.mod_eq_of_lt h
theorem Bgn (p : List UInt8) (a : Nat) {n : Nat} (h : n ≤ 32) : Cb p a n < 4294967296 := by
 have h1 := Rr p n a
 have h2 : 2 ^ n ≤ 2 ^ 32 := Nat.pow_le_pow_right (by omega) h
 omega
theorem Bt1 {q v k : Nat} (hq : q < 48) (hv : v < 2 ^ k) (hk : k ≤ 24) : gor (Fh (Ad (q : Int) : UInt32) k) (UInt32.ofNat v) = UInt32.ofNat (q * 2 ^ k + v) := by
 have hp : 2 ^ k ≤ 2 ^ 24 := Nat.pow_le_pow_right (by omega) hk
 have h1 : q * 2 ^ k ≤ 47 * 2 ^ 24 := Nat.mul_le_mul (by omega) hp
 rw [Brf]; apply UInt32.toNat_inj.1
 rw [UInt32.toNat_or, Awo, Baj, Al7 (by omega), Al7 (n := v) (by omega), Nat.mod_eq_of_lt (by omega), Nat.mul_comm q, ← Nat.two_pow_add_eq_or_of_lt hv, Al7 (by rw [Nat.mul_comm]; omega)]
theorem Brd {p : List UInt8} {N : Nat} (h : okB p N) (a k : Nat) (hk : k ≤ 24) : Ap2 p (N : Int) (a : Int) (k : Int) = some (rcS p N a k) := by
 have hN := h.1
 rw [Ap2, Am6, Ag3 h, Aa, if_neg (by rw [Ah]; simp), if_neg (by simp [Af, Ax]; omega)]
 by_cases ha : N ≤ a
 ·rw [Blt h a ha, Aa, rcS, if_pos ha]; rfl
 have hle := Ajo p (min 48 (N - a)) a
 rw [Bm1 h a (by omega), Aa]
 by_cases h1 : Fi p a (min 48 (N - a)) < min 48 (N - a)
 ·have hS : rcS p N a k = if N < a + Fi p a (min 48 (N - a)) + 1 + k then (0, 0, 24) else (UInt32.ofNat (Fi p a (min 48 (N - a)) * 2 ^ k + Cb p (a + Fi p a (min 48 (N - a)) + 1) k), ((a + Fi p a (min 48 (N - a)) + 1 + k : Nat) : Int), 0) := by rw [rcS, if_neg ha, if_pos h1]
  rw [Bov h1, hS]
  generalize Fi p a (min 48 (N - a)) = q at *
  simp only
  rw [if_neg (by rw [Ah]; simp), if_neg (by rw [Bg]; simp; omega), Agp, Am4, Auk h _ k (by omega), Aa]
  by_cases h2 : N < a + q + 1 + k
  ·rw [if_pos h2, if_pos h2]; rfl
  ·rw [if_neg h2, if_neg h2]
   simp only
   have z : (GI.toZ (k : Int)).toNat = k := rfl
   rw [if_neg (by rw [Ah]; simp), if_pos (by rw [Af]; simp; omega), Dj (by rw [Dv]; simp), Aa, z, As3 (by omega), Bt1 (by omega) (Rr _ _ _) hk, Ag (by omega) (by omega)]; rfl
 ·by_cases h2 : Fi p a (min 48 (N - a)) = 48
  ·have hS : rcS p N a k = if N < a + 48 + 32 then (0, 0, 24) else if Cb p (a + 48) 32 / 2 ^ k < 48 then (0, 0, 12) else (UInt32.ofNat (Cb p (a + 48) 32), ((a + 48 + 32 : Nat) : Int), 0) := by rw [rcS, if_neg ha, if_neg h1, if_pos h2]
   have hg := Auk h (a + 48) 32 (by omega)
   rw [Bpl h1 h2, hS]
   simp only
   rw [if_neg (by rw [Ah]; simp), if_pos (by rw [Bg]; rfl), Agp, Am4]
   refine Eq.trans (congrArg (fun o => Option.bind o _) hg) ?_
   rw [Aa]
   by_cases h3 : N < a + 48 + 32
   ·rw [if_pos h3, if_pos h3]; rfl
   ·rw [if_neg h3, if_neg h3]
    simp only
    have z : (GI.toZ (k : Int)).toNat = k := rfl
    have hv := Bgn p (a + 48) (n := 32) (by omega)
    rw [if_neg (by rw [Ah]; simp), if_neg (by rw [Af]; simp), Amm, Dj (by rw [Dv]; simp), Aa, Aa, z, As3 (by omega), Bqe]
    have e : (decide ((48 : UInt32).toNat ≤ (Cy (UInt32.ofNat (Cb p (a + 48) 32)) k).toNat)) = decide (¬ Cb p (a + 48) 32 / 2 ^ k < 48) := by
     rw [Aln, Al7 hv]; simp
    rw [e]
    by_cases h4 : Cb p (a + 48) 32 / 2 ^ k < 48
    ·rw [if_pos (by simp [h4]), if_pos h4]
    ·rw [if_neg (by simp; omega), if_neg h4, Ag (by omega) (by omega)]; rfl
  ·rw [Bob h1 h2, rcS, if_neg ha, if_neg h1, if_neg h2]; rfl
theorem Aw2 (k : Nat) (hk : k ≤ 63) : ∀ (j i q : Nat), i + j = k → j < q → Fo (k : Int) q (UInt64.ofNat (2 ^ i)) (i : Int) = some (UInt64.ofNat (2 ^ k))
 | 0, i, q + 1, hi, _ => by
  rw [Fo, Ly, if_neg (by rw [Af]; simp; omega), show i = k by omega]; rfl
 | j + 1, i, q + 1, hi, hq => by
  have e : Be (UInt64.ofNat (2 ^ i)) (2 : UInt64) = UInt64.ofNat (2 ^ (i + 1)) := by
   rw [Ae9, Nat.pow_succ, UInt64.ofNat_mul]; rfl
  rw [Fo, Ly, if_pos (by rw [Af]; simp; omega), Ag (by omega) (by omega), e]
  exact Aw2 k hk j (i + 1) q (by omega) (by omega)
theorem Afc (k : Nat) (hk : k ≤ 63) : Ec (k : Int) = some (UInt64.ofNat (2 ^ k)) :=
 Aw2 k hk k 0 Az (by omega) (by have := Am; omega)
theorem Ajr {k : Nat} (hk : k ≤ 63) : (UInt64.ofNat (2 ^ k)).toNat = 2 ^ k := by
 have hp : 2 ^ k ≤ 2 ^ 63 := Nat.pow_le_pow_right (by omega) hk
 rw [UInt64.toNat_ofNat', Nat.mod_eq_of_lt (by omega)]
theorem Brv (v : UInt32) (k : Nat) (hk : k ≤ 24) : Va v (k : Int) = some ((min 48 (v.toNat / 2 ^ k) : Nat) : Int) := by
 have hpos : 0 < 2 ^ k := Nat.pow_pos (by omega)
 have hv := v.toNat_lt
 rw [Va, Afc k (by omega), Aa, Dj (by rw [Agz]; simp only [bne_iff_ne, ne_eq, ← UInt64.toNat_inj, Ajr (show k ≤ 63 by omega)]; simp), Aa]
 have e : (Df (Ad v : UInt64) (UInt64.ofNat (2 ^ k))).toNat = v.toNat / 2 ^ k := by
  rw [Asx, UInt64.toNat_div, Hq, Ajr (by omega), UInt64.toNat_ofNat', Nat.mod_eq_of_lt (by omega)]
 have hle : v.toNat / 2 ^ k ≤ v.toNat := Nat.div_le_self _ _
 have e2 : Gd (48 : UInt64) (Df (Ad v : UInt64) (UInt64.ofNat (2 ^ k))) = UInt64.ofNat (min 48 (v.toNat / 2 ^ k)) := by
  apply UInt64.toNat_inj.1
  rw [UInt64.toNat_ofNat', Nat.mod_eq_of_lt (by omega)]
  show (if _ then _ else _ : UInt64).toNat = _
  rw [show (GI.toZ (Df (Ad v : UInt64) (UInt64.ofNat (2 ^ k)))) = ((v.toNat / 2 ^ k : Nat) : Int) by rw [Ht, e], show GI.toZ (48 : UInt64) = 48 from rfl]
  split
  ·rw [e]; omega
  ·show 48 = _; omega
 rw [e2, Atq (by rw [UInt64.toNat_ofNat', Nat.mod_eq_of_lt] <;> omega), UInt64.toNat_ofNat', Nat.mod_eq_of_lt (by omega)]
theorem Bpx {p : List UInt8} {N : Nat} (h : okB p N) (a k : Nat) (hk : k ≤ 24) : Xb p (N : Int) (a : Int) (k : Int) = some (rcS p N a k) := by
 obtain ⟨hN, hl, hz⟩ := h
 have h : okB p N := ⟨hN, hl, hz⟩
 rw [Xb, Xy]
 by_cases ha : N ≤ a
 ·rw [if_pos (by rw [Dv]; simp; omega), rcS, if_pos ha]
 have hle := Ajo p (min 48 (N - a)) a
 rw [if_neg (by rw [Dv]; simp; omega), Bnb h a (by omega), Aa, unR]
 by_cases h1 : Fi p a (min 48 (N - a)) < min 48 (N - a)
 ·have hS : rcS p N a k = if N < a + Fi p a (min 48 (N - a)) + 1 + k then (0, 0, 24) else (UInt32.ofNat (Fi p a (min 48 (N - a)) * 2 ^ k + Cb p (a + Fi p a (min 48 (N - a)) + 1) k), ((a + Fi p a (min 48 (N - a)) + 1 + k : Nat) : Int), 0) := by rw [rcS, if_neg ha, if_pos h1]
  rw [Bov h1, hS]
  generalize Fi p a (min 48 (N - a)) = q at *
  rw [if_pos rfl]
  simp only
  rw [if_neg (by rw [Bg]; simp; omega), Oy, Xp, Bi (by omega) (by omega)]
  by_cases h2 : N < a + q + 1 + k
  ·rw [if_pos (by simp [Af]; omega), if_pos h2]
  ·have hp : 2 ^ k ≤ 2 ^ 24 := Nat.pow_le_pow_right (by omega) hk
   have hm : q * 2 ^ k ≤ 47 * 2 ^ 24 := Nat.mul_le_mul (by omega) hp
   have hv := Rr p k (a + q + 1)
   have e : (Ad (Ae (Be (Ad (q : Int) : UInt64) (UInt64.ofNat (2 ^ k))) (Wq p (a + q + 1) k)) : UInt32) = UInt32.ofNat (q * 2 ^ k + Cb p (a + q + 1) k) := by
    have e1 : Ae (Be (Ad (q : Int) : UInt64) (UInt64.ofNat (2 ^ k))) (Wq p (a + q + 1) k) = UInt64.ofNat (q * 2 ^ k + Cb p (a + q + 1) k) := by
     rw [Afk, Ae9, Aaj, Wq, UInt64.ofNat_add, UInt64.ofNat_mul]
    rw [e1]
    have e2 : ∀ x : UInt64, (Ad x : UInt32) = UInt32.ofNat x.toNat := fun x => by simp only [Ad, Ht, Eh]
    rw [e2, UInt64.toNat_ofNat', Nat.mod_eq_of_lt (by omega)]
   rw [if_neg (by simp [Af]; omega), if_neg h2, Arp p _ _ k (by omega) (by omega), Aa, if_pos (by rw [Af]; simp; omega), Afc k (by omega), Aa, e, Ag (by omega) (by omega)]; rfl
 ·by_cases h2 : Fi p a (min 48 (N - a)) = 48
  ·have hS : rcS p N a k = if N < a + 48 + 32 then (0, 0, 24) else if Cb p (a + 48) 32 / 2 ^ k < 48 then (0, 0, 12) else (UInt32.ofNat (Cb p (a + 48) 32), ((a + 48 + 32 : Nat) : Int), 0) := by rw [rcS, if_neg ha, if_neg h1, if_pos h2]
   rw [Bpl h1 h2, hS, if_pos rfl]
   simp only
   rw [if_pos (by rw [Bg]; rfl), Oy, Xp, Bi (by omega) (by omega)]
   by_cases h3 : N < a + 48 + 32
   ·rw [if_pos (by simp [Af]; omega), if_pos h3]
   ·have hg := Arp p (N : Int) (a + 48) 32 (by omega) (by omega)
    have hv := Bgn p (a + 48) (n := 32) (by omega)
    rw [if_neg (by simp [Af]; omega), if_neg h3]
    refine Eq.trans (congrArg (fun o => Option.bind o _) hg) ?_
    rw [Aa, if_neg (by rw [Af]; simp), As3 (by omega), Brv _ k hk, Aa, Al7 hv]
    by_cases h4 : Cb p (a + 48) 32 / 2 ^ k < 48
    ·rw [if_pos (by rw [Af]; simp; omega), if_pos h4]
    ·rw [if_neg (by rw [Af]; simp; omega), if_neg h4, Ag (by omega) (by omega)]; rfl
  ·rw [Bob h1 h2, rcS, if_neg ha, if_neg h1, if_neg h2]
   have e : (if ((0 : Int), (0 : Int), (24 : Int)).2.2 = 0 then (((0 : Int), (0 : Int), (24 : Int)).1, ((0 : Int), (0 : Int), (24 : Int)).2.1) else ((-1 : Int), (0 : Int))) = (-1, 0) := by decide
   rw [e]; rfl
theorem Btf {p : List UInt8} {N a k : Nat} {v : UInt32} {n : Int} (h : rcS p N a k = (v, n, 0)) : (a : Int) < n ∧ n ≤ N := by
 unfold rcS at h
 split at h
 ·simp at h
 split at h
 ·split at h
  ·simp at h
  ·simp only [Prod.mk.injEq] at h; omega
 ·split at h
  ·split at h
   ·simp at h
   ·split at h
    ·simp at h
    ·simp only [Prod.mk.injEq] at h; omega
  ·simp at h
end Go.Pl
set_option linter.unusedVariables false
set_option linter.unusedSimpArgs false
namespace Go.Pl
open Go Go.Lv
def okD (k l : Nat) (s t : UInt64) : Prop := k ≤ 24 ∧ l ≤ 24 ∧ s.toNat ≤ 68719476735 ∧ t.toNat ≤ 68719476735
theorem Bed (a b : UInt64) (h : a.toNat ≤ b.toNat) : Gd a b = a := by
 show (if _ then _ else _) = _
 rw [Ht, Ht, if_neg (by omega)]
theorem As6 (a : UInt64) : geq a a = true := by rw [Av2]; simp
theorem Btq {k l : Nat} {s t : UInt64} (h : okD k l s t) : Amg (k : Int) (l : Int) s t = some 0 := by
 obtain ⟨h1, h2, h3, h4⟩ := h
 have e1 : Gd (Aqs (k : Int) 0) 24 = (k : Int) := by rw [Ahd, Bib]; omega
 have e2 : Gd (Aqs (l : Int) 0) 24 = (l : Int) := by rw [Ahd, Bib]; omega
 have e3 : Gd s (68719476735 : UInt64) = s := Bed _ _ (by simpa using h3)
 have e4 : Gd t (68719476735 : UInt64) = t := Bed _ _ (by simpa using h4)
 have e5 : ∀ a : Int, geq a a = true := fun a => by rw [Bg]; simp
 rw [Amg, Aeb, Akp, Ad3, Ako, Arf, e1, e2, e3, e4, e5, e5, As6, As6]; rfl
def Acf (s n : UInt64) : UInt64 := s + n - s / 16
def kS (k : Nat) (s : UInt64) : Nat := if 0 < k ∧ s.toNat < 2 ^ (k + 4) then k - 1 else if k < 24 ∧ 2 ^ (k + 5) < s.toNat then k + 1 else k
theorem Bs3 {k : Nat} (h : k ≤ 24) (s : UInt64) : kS k s ≤ 24 := by
 unfold kS
 by_cases h1 : 0 < k ∧ s.toNat < 2 ^ (k + 4)
 ·rw [if_pos h1]; omega
 ·rw [if_neg h1]; split <;> omega
theorem Bkx {k : Nat} {s : UInt64} (h : ¬ (0 < k ∧ s.toNat < 2 ^ (k + 4))) : (if k < 24 ∧ 2 ^ (k + 5) < s.toNat then ((k + 1 : Nat) : Int) else (k : Int)) = ((kS k s : Nat) : Int) := by
 rw [kS, if_neg h]; split <;> rfl
theorem Bkj {s n : UInt64} (h : s.toNat ≤ 68719476735) (hn : n.toNat ≤ 4294967295) : (Acf s n).toNat ≤ 68719476735 := by
 have h1 := s.toNat_lt
 have e : (s + n).toNat = s.toNat + n.toNat := by rw [UInt64.toNat_add]; omega
 have e2 : (s / 16).toNat = s.toNat / 16 := by rw [UInt64.toNat_div]; rfl
 rw [Acf, UInt64.toNat_sub_of_le _ _ (by rw [UInt64.le_iff_toNat_le, e, e2]; omega), e, e2]; omega
theorem Ay0 (s n : UInt64) : Ae s (Al n (Cy s (GI.toZ (4 : UInt64)).toNat)) = Acf s n := by
 have e : Cy s (GI.toZ (4 : UInt64)).toNat = s / 16 := by
  apply UInt64.toNat_inj.1
  rw [Afh, UInt64.toNat_div]; rfl
 rw [e, Afk, Ay7, Acf, UInt64.sub_eq_add_neg, UInt64.sub_eq_add_neg, UInt64.add_assoc]
theorem Bje (s n : UInt64) : Al (Ae s n) (Df s (16 : UInt64)) = Acf s n := by rw [Afk, Ay7, Asx, Acf]
theorem Bu1 {k : Nat} (h : k ≤ 24) : (Fh (16 : UInt64) k).toNat = 2 ^ (k + 4) := by
 have hp : 2 ^ k ≤ 2 ^ 24 := Nat.pow_le_pow_right (by omega) h
 rw [Ak8, Nat.pow_add]
 show 16 * 2 ^ k % _ = 2 ^ k * 16
 rw [Nat.mod_eq_of_lt (by omega), Nat.mul_comm]
theorem Bua {k : Nat} (h : k ≤ 24) : (Fh (32 : UInt64) k).toNat = 2 ^ (k + 5) := by
 have hp : 2 ^ k ≤ 2 ^ 24 := Nat.pow_le_pow_right (by omega) h
 rw [Ak8, Nat.pow_add]
 show 32 * 2 ^ k % _ = 2 ^ k * 32
 rw [Nat.mod_eq_of_lt (by omega), Nat.mul_comm]
theorem Bsy {k : Nat} {s : UInt64} (h : 0 < k) (h2 : s.toNat < 2 ^ (k + 4)) : kS k s = k - 1 := by rw [kS, if_pos ⟨h, h2⟩]
theorem Bsw {k : Nat} {s : UInt64} (h : ¬ (0 < k ∧ s.toNat < 2 ^ (k + 4))) (h2 : k < 24) (h3 : 2 ^ (k + 5) < s.toNat) : kS k s = k + 1 := by rw [kS, if_neg h, if_pos ⟨h2, h3⟩]
theorem Bkp {k : Nat} {s : UInt64} (h : ¬ (0 < k ∧ s.toNat < 2 ^ (k + 4))) (h2 : ¬ (k < 24 ∧ 2 ^ (k + 5) < s.toNat)) : kS k s = k := by rw [kS, if_neg h, if_neg h2]
theorem Bsx {α : Type} (k : Nat) (hk : k ≤ 24) (s : UInt64) (f : Int → Option α) :
  (if (Gy (k : Int) (0 : Int)) = true then (
   Option.bind (Vd (Sr (k : Int) (0 : Int))) fun _ =>
   if (Cu s (Fh (16 : UInt64) (GI.toZ (k : Int)).toNat)) = true then f (Al (k : Int) (1 : Int))
   else (if (Cu (k : Int) (24 : Int)) = true then (
    Option.bind (Vd (Sr (k : Int) (0 : Int))) fun _ =>
    if (Gy s (Fh (32 : UInt64) (GI.toZ (k : Int)).toNat)) = true then f (Ae (k : Int) (1 : Int)) else f (k : Int))
    else f (k : Int)))
  else (if (Cu (k : Int) (24 : Int)) = true then (
    Option.bind (Vd (Sr (k : Int) (0 : Int))) fun _ =>
    if (Gy s (Fh (32 : UInt64) (GI.toZ (k : Int)).toNat)) = true then f (Ae (k : Int) (1 : Int)) else f (k : Int))
    else f (k : Int))) = f ((kS k s : Nat) : Int) := by
 have z : (GI.toZ (k : Int)).toNat = k := rfl
 rw [z, Dj (by rw [Dv]; simp)]
 simp only [Aa]
 rw [Av5, Aji, Bu1 hk, Bua hk]
 by_cases h0 : 0 < k
 ·rw [if_pos (by rw [Ax]; simp; omega)]
  by_cases h1 : s.toNat < 2 ^ (k + 4)
  ·rw [if_pos (by simp [h1]), Bsy h0 h1, Bi (by omega) (by omega)]; congr 1; omega
  ·rw [if_neg (by simp; omega)]
   by_cases h2 : k < 24
   ·rw [if_pos (by rw [Af]; simp; omega)]
    by_cases h3 : 2 ^ (k + 5) < s.toNat
    ·rw [if_pos (by simp [h3]), Bsw (fun h => h1 h.2) h2 h3, Ag (by omega) (by omega)]; rfl
    ·rw [if_neg (by simp; omega), Bkp (fun h => h1 h.2) (fun h => h3 h.2)]
   ·rw [if_neg (by rw [Af]; simp; omega), Bkp (fun h => h1 h.2) (fun h => h2 h.1)]
 ·rw [if_neg (by rw [Ax]; simp; omega)]
  by_cases h2 : k < 24
  ·rw [if_pos (by rw [Af]; simp; omega)]
   by_cases h3 : 2 ^ (k + 5) < s.toNat
   ·rw [if_pos (by simp [h3]), Bsw (fun h => h0 h.1) h2 h3, Ag (by omega) (by omega)]; rfl
   ·rw [if_neg (by simp; omega), Bkp (fun h => h0 h.1) (fun h => h3 h.2)]
  ·rw [if_neg (by rw [Af]; simp; omega), Bkp (fun h => h0 h.1) (fun h => h2 h.1)]
theorem Bjj (k : Nat) (hk : k ≤ 24) (s n : UInt64) : Cv (k : Int) s n = some (((kS k (Acf s n) : Nat) : Int), Acf s n) := by
 have g1 : Ae (k : Int) 4 = ((k + 4 : Nat) : Int) := by rw [Ag (by omega) (by omega)]; omega
 have g2 : Ae (k : Int) 5 = ((k + 5 : Nat) : Int) := by rw [Ag (by omega) (by omega)]; omega
 have hp : Nr (k : Int) s n = some (if k < 24 ∧ 2 ^ (k + 5) < (Acf s n).toNat then ((k + 1 : Nat) : Int) else (k : Int), Acf s n) := by
  rw [Nr, Aey, g2, Afc _ (by omega), Aa, Bje, Aji, Ajr (by omega)]
  by_cases h2 : k < 24
  ·rw [if_pos (by rw [Af]; simp; omega)]
   by_cases h3 : 2 ^ (k + 5) < (Acf s n).toNat
   ·rw [if_pos (by simp [h3]), if_pos ⟨h2, h3⟩, Ag (by omega) (by omega)]; rfl
   ·rw [if_neg (by simp; omega), if_neg (fun h => h3 h.2)]
  ·rw [if_neg (by rw [Af]; simp; omega), if_neg (fun h => h2 h.1)]
 rw [Cv, Wa, g1, Afc _ (by omega), Aa, Bje, Av5, Ajr (by omega), hp]
 by_cases h0 : 0 < k
 ·rw [if_pos (by rw [Ax]; simp; omega)]
  by_cases h1 : (Acf s n).toNat < 2 ^ (k + 4)
  ·rw [if_pos (by simp [h1]), Bsy h0 h1, Bi (by omega) (by omega)]; congr 2; omega
  ·rw [if_neg (by simp; omega), Bkx (fun h => h1 h.2)]
 ·rw [if_neg (by rw [Ax]; simp; omega), Bkx (fun h => h0 h.1)]
def n64 (v : UInt32) : UInt64 := UInt64.ofNat v.toNat
theorem Boy (v : UInt32) : (n64 v).toNat ≤ 4294967295 := by have := v.toNat_lt; rw [n64, UInt64.toNat_ofNat', Nat.mod_eq_of_lt (by omega)]; omega
def Avj (k : Nat) (v : UInt32) : UInt32 := UInt32.ofNat (v.toNat - 2 ^ k)
def lK (l : Nat) (t : UInt64) (k : Nat) (v : UInt32) : Nat := if v.toNat < 2 ^ k then l else kS l (Acf t (n64 (Avj k v)))
def lT (t : UInt64) (k : Nat) (v : UInt32) : UInt64 := if v.toNat < 2 ^ k then t else Acf t (n64 (Avj k v))
theorem Bm7 {k l : Nat} {s t : UInt64} (h : okD k l s t) (v : UInt32) : okD (kS k (Acf s (n64 v))) (lK l t k v) (Acf s (n64 v)) (lT t k v) := by
 obtain ⟨h1, h2, h3, h4⟩ := h
 refine ⟨Bs3 h1 _, ?_, Bkj h3 (Boy v), ?_⟩
 ·unfold lK; split; · exact h2
  exact Bs3 h2 _
 ·unfold lT; split; · exact h4
  exact Bkj h4 (Boy _)
theorem Bto (k l : Nat) (s t : UInt64) (hk : k ≤ 24) (v : UInt32) : Qo (k : Int) (l : Int) s t v = some (decide (v.toNat < 2 ^ k)) := by
 have := v.toNat_lt
 rw [Qo, Afc k (by omega), Aa, Av5, Ajr (by omega), Hq, UInt64.toNat_ofNat', Nat.mod_eq_of_lt (by omega)]
theorem left_eq (k l : Nat) (s t : UInt64) (hk : k ≤ 24) (v : UInt32) (h : ¬ v.toNat < 2 ^ k) : Di (k : Int) (l : Int) s t v = some (Avj k v) := by
 have := v.toNat_lt
 have e2 : ∀ x : UInt64, (Ad x : UInt32) = UInt32.ofNat x.toNat := fun x => by simp only [Ad, Ht, Eh]
 have e3 : (UInt64.ofNat v.toNat).toNat = v.toNat := by rw [UInt64.toNat_ofNat', Nat.mod_eq_of_lt (by omega)]
 rw [Di, Afc k (by omega), Aa, e2, Ay7, Hq, UInt64.toNat_sub_of_le _ _ (by rw [UInt64.le_iff_toNat_le, Ajr (by omega), e3]; omega), Ajr (by omega), e3, Avj]
theorem Blr {k l : Nat} {s t : UInt64} (h : okD k l s t) (v : UInt32) : Pf (k : Int) (l : Int) s t v = some (((kS k (Acf s (n64 v)) : Nat) : Int), ((lK l t k v : Nat) : Int), Acf s (n64 v), lT t k v) := by
 obtain ⟨h1, h2, h3, h4⟩ := h
 have hp : ∀ (r1 : Int) (r2 : UInt64), Kk v (k : Int) (l : Int) s t r1 r2 = some (((kS k (Acf s (n64 v)) : Nat) : Int), r1, Acf s (n64 v), r2) := by
  intro r1 r2
  rw [Kk, Aa0, Hq, Bjj k h1, Aa]; rfl
 rw [Pf, Kj, Bto k l s t h1, Aa]
 by_cases hv : v.toNat < 2 ^ k
 ·rw [if_neg (by simp [hv]), hp, lK, if_pos hv, lT, if_pos hv]
 ·rw [if_pos (by simp; omega), left_eq k l s t h1 v hv, Aa, Hq, Bjj l h2, Aa]
  simp only
  rw [hp, lK, if_neg hv, lT, if_neg hv]; rfl
theorem Bpb (k l : Nat) (s t : UInt64) (hk : k ≤ 24) (v : UInt32) : Amf (k : Int) (l : Int) s t v = some (if v.toNat < 2 ^ k then (0, v) else (1, Avj k v)) := by
 have hp : 2 ^ k ≤ 2 ^ 24 := Nat.pow_le_pow_right (by omega) hk
 have hpos : 0 < 2 ^ k := Nat.pow_pos (by omega)
 have hl := v.toNat_lt
 have z : (GI.toZ (k : Int)).toNat = k := rfl
 have e1 : geq (Cy v k) (0 : UInt32) = decide (v.toNat < 2 ^ k) := by
  rw [Bdk, Bool.eq_iff_iff]
  simp only [beq_iff_eq, ← UInt32.toNat_inj, Aln, decide_eq_true_eq]
  show _ / _ = 0 ↔ _
  rw [Nat.div_eq_zero_iff]; omega
 have e2 : ¬ v.toNat < 2 ^ k → Al v (Fh (1 : UInt32) k) = Avj k v := by
  intro h
  have e3 : (Fh (1 : UInt32) k).toNat = 2 ^ k := by rw [Awo]; show 1 * 2 ^ k % _ = _; rw [Nat.mod_eq_of_lt (by omega), Nat.one_mul]
  apply UInt32.toNat_inj.1
  rw [Bfh, UInt32.toNat_sub_of_le _ _ (by rw [UInt32.le_iff_toNat_le, e3]; omega), e3, Avj, Al7 (by omega)]
 rw [Amf, Dj (by rw [Dv]; simp), Aa, Aa, z, e1]
 by_cases h : v.toNat < 2 ^ k
 ·rw [if_pos (by simp [h]), if_pos h]
 ·rw [if_neg (by simp; omega), if_neg h, e2 h]
abbrev Rd := UInt32 × Int × Int × Int × UInt64 × UInt64 × Int
theorem Ayk {k l : Nat} {s t : UInt64} (h : okD k l s t) (v : UInt32) (r : Int) : Ags (k : Int) (l : Int) s t v r = some (v, r, ((kS k (Acf s (n64 v)) : Nat) : Int), ((lK l t k v : Nat) : Int), Acf s (n64 v), lT t k v, 0) := by
 obtain ⟨h1, h2, h3, h4⟩ := h
 have hp : ∀ (x : Int) (y : UInt64), Aa5 v r (k : Int) s x y = some (v, r, ((kS k (Acf s (n64 v)) : Nat) : Int), x, Acf s (n64 v), y, 0) := by
  intro x y
  rw [Aa5, Amq, Hq, Ay0, Bsx k h1]
  rw [Al5, Amv, Aj5, Aqz, Hq, Ay0]; rfl
 rw [Ags, Anc, Bpb k l s t h1, Aa]
 by_cases hv : v.toNat < 2 ^ k
 ·rw [if_pos hv]
  simp only
  rw [if_neg (by rw [Bg]; simp), hp, lK, if_pos hv, lT, if_pos hv]
 ·rw [if_neg hv]
  simp only
  rw [if_pos (by rw [Bg]; rfl), Hq, Ay0, Bsx l h2 _ (fun x => Aa5 v r (k : Int) s x (Acf t (UInt64.ofNat (Avj k v).toNat))), hp, lK, if_neg hv, lT, if_neg hv]; rfl
def dgS (p : List UInt8) (N a k l : Nat) : UInt32 × Int × Int :=
 if N ≤ a then (0, 0, 24) else
 if Jc p a = 0 then (if N < a + 1 + k then (0, 0, 24) else (UInt32.ofNat (Cb p (a + 1) k), ((a + 1 + k : Nat) : Int), 0)) else
 if (rcS p N (a + 1) l).2.2 ≠ 0 then (0, 0, (rcS p N (a + 1) l).2.2) else
 if 4294967295 < (rcS p N (a + 1) l).1.toNat + 2 ^ k then (0, 0, 12) else (UInt32.ofNat ((rcS p N (a + 1) l).1.toNat + 2 ^ k), (rcS p N (a + 1) l).2.1, 0)
theorem Bul {p : List UInt8} {N a k l : Nat} (h : (dgS p N a k l).2.2 = 0) : (a : Int) < (dgS p N a k l).2.1 ∧ (dgS p N a k l).2.1 ≤ N := by
 revert h
 unfold dgS
 split
 ·simp
 split
 ·split
  ·simp
  ·simp only; omega
 ·split
  ·intro h; contradiction
  ·rename_i h1
   split
   ·simp
   ·intro _
    have := Btf (p := p) (N := N) (a := a + 1) (k := l) (v := (rcS p N (a + 1) l).1) (n := (rcS p N (a + 1) l).2.1) (by
     have e : (rcS p N (a + 1) l).2.2 = 0 := by simpa using h1
     rw [← e])
    simp only; omega
theorem Bqc {p : List UInt8} {N : Nat} (h : okB p N) (a : Nat) {k l : Nat} {s t : UInt64} (hd : okD k l s t) : Ww p (N : Int) (a : Int) (k : Int) (l : Int) s t =
  some (if (dgS p N a k l).2.2 ≠ 0 then (0, 0, 0, 0, 0, 0, (dgS p N a k l).2.2) else ((dgS p N a k l).1, (dgS p N a k l).2.1, ((kS k (Acf s (n64 (dgS p N a k l).1)) : Nat) : Int), ((lK l t k (dgS p N a k l).1 : Nat) : Int), Acf s (n64 (dgS p N a k l).1), lT t k (dgS p N a k l).1, 0)) := by
 obtain ⟨h1, h2, h3, h4⟩ := hd
 have hd : okD k l s t := ⟨h1, h2, h3, h4⟩
 have hN := h.1
 have hg := Auk h a 1 (by omega)
 have hb := Yr p a
 rw [Ww, Al4, Ag3 h, Aa, if_neg (by rw [Ah]; simp), Btq hd, Aa, if_neg (by rw [Ah]; simp), Am1, Anb]
 refine Eq.trans (congrArg (fun o => Option.bind o _) hg) ?_
 rw [Aa]
 by_cases ha : N ≤ a
 ·have hS : dgS p N a k l = (0, 0, 24) := by rw [dgS, if_pos ha]
  rw [if_pos (by omega), hS]; rfl
 rw [if_neg (by omega)]
 simp only
 have e0 : geq (Wq p a 1) (0 : UInt64) = decide (Jc p a = 0) := by
  rw [Av2, Bool.eq_iff_iff]
  simp only [beq_iff_eq, ← UInt64.toNat_inj, decide_eq_true_eq, Abh p a 1 (by omega), Bgv]; rfl
 have e1 : Ae (a : Int) 1 = ((a + 1 : Nat) : Int) := by rw [Ag (by omega) (by omega)]; omega
 rw [if_neg (by rw [Ah]; simp), e0, e1]
 by_cases hz : Jc p a = 0
 ·rw [if_pos (by simp [hz]), Auk h (a + 1) k (by omega), Aa]
  by_cases h5 : N < a + 1 + k
  ·have hS : dgS p N a k l = (0, 0, 24) := by rw [dgS, if_neg ha, if_pos hz, if_pos h5]
   rw [if_pos h5, hS]; rfl
  ·have hS : dgS p N a k l = (UInt32.ofNat (Cb p (a + 1) k), ((a + 1 + k : Nat) : Int), 0) := by rw [dgS, if_neg ha, if_pos hz, if_neg h5]
   rw [if_neg h5, hS]
   simp only
   rw [if_neg (by rw [Ah]; simp), Ayk hd, As3 (by omega), Ag (by omega) (by omega)]; rfl
 ·rw [if_neg (by simp [hz]), Brd h (a + 1) l h2, Aa]
  have hp : 2 ^ k ≤ 2 ^ 24 := Nat.pow_le_pow_right (by omega) h1
  by_cases h5 : (rcS p N (a + 1) l).2.2 ≠ 0
  ·have hS : dgS p N a k l = (0, 0, (rcS p N (a + 1) l).2.2) := by rw [dgS, if_neg ha, if_neg hz, if_pos h5]
   rw [hS]
   generalize rcS p N (a + 1) l = R at *
   obtain ⟨v, n, e⟩ := R
   simp only at *
   rw [if_pos (by rw [Ah]; simpa using h5), if_pos h5]
  ·have hv := (rcS p N (a + 1) l).1.toNat_lt
   have z : (GI.toZ (k : Int)).toNat = k := rfl
   have e3 : (Fh (1 : UInt32) k).toNat = 2 ^ k := by rw [Awo]; show 1 * 2 ^ k % _ = _; rw [Nat.mod_eq_of_lt (by omega), Nat.one_mul]
   by_cases h6 : 4294967295 < (rcS p N (a + 1) l).1.toNat + 2 ^ k
   ·have hS : dgS p N a k l = (0, 0, 12) := by rw [dgS, if_neg ha, if_neg hz, if_neg h5, if_pos h6]
    rw [hS]
    generalize rcS p N (a + 1) l = R at *
    obtain ⟨v, n, e⟩ := R
    simp only at *
    rw [if_neg (by rw [Ah]; simpa using h5), Dj (by rw [Dv]; simp), Aa, z, if_pos (by rw [Bj2, Axg, UInt32.toNat_add, e3]; simp; omega), if_pos (by decide)]
   ·have hS : dgS p N a k l = (UInt32.ofNat ((rcS p N (a + 1) l).1.toNat + 2 ^ k), (rcS p N (a + 1) l).2.1, 0) := by rw [dgS, if_neg ha, if_neg hz, if_neg h5, if_neg h6]
    rw [hS]
    generalize rcS p N (a + 1) l = R at *
    obtain ⟨v, n, e⟩ := R
    simp only at *
    have e4 : Ae v (Fh (1 : UInt32) k) = UInt32.ofNat (v.toNat + 2 ^ k) := by
     apply UInt32.toNat_inj.1
     rw [Axg, UInt32.toNat_add, e3, Al7 (by omega), Nat.mod_eq_of_lt (by omega)]
    rw [if_neg (by rw [Ah]; simpa using h5), Dj (by rw [Dv]; simp), Aa, z, if_neg (by rw [Bj2, Axg, UInt32.toNat_add, e3]; simp; omega), e4, Ayk hd]; rfl
theorem Bpe {p : List UInt8} {N : Nat} (h : okB p N) (a : Nat) (k l : Nat) (s t : UInt64) (h1 : k ≤ 24) (h2 : l ≤ 24) : Wz p (N : Int) (a : Int) (k : Int) (l : Int) s t = some (dgS p N a k l) := by
 have hN := h.1
 have hl := h.2.1
 have hb := Yr p a
 rw [Wz]
 by_cases ha : N ≤ a
 ·rw [if_pos (by rw [Dv]; simp; omega), dgS, if_pos ha]
 rw [if_neg (by rw [Dv]; simp; omega), Atw p _ a (by omega) (by omega), Aa, Bi (a := (N : Int)) (b := (a : Int)) (by omega) (by omega), Bi (by omega) (by omega)]
 have e1 : Ae (a : Int) 1 = ((a + 1 : Nat) : Int) := by rw [Ag (by omega) (by omega)]; omega
 rw [e1]
 by_cases hz : Jc p a = 0
 ·rw [if_pos (by rw [Bg]; simp [hz])]
  by_cases h5 : N < a + 1 + k
  ·rw [if_pos (by rw [Af]; simp; omega), dgS, if_neg ha, if_pos hz, if_pos h5]
  ·rw [if_neg (by rw [Af]; simp; omega), Arp p _ (a + 1) k (by omega) (by omega), Aa, dgS, if_neg ha, if_pos hz, if_neg h5, As3 (by omega), Ag (by omega) (by omega)]; rfl
 ·rw [if_neg (by rw [Bg]; simp; omega), Bpx h (a + 1) l h2, Aa]
  have hp : 2 ^ k ≤ 2 ^ 24 := Nat.pow_le_pow_right (by omega) h1
  have hv := (rcS p N (a + 1) l).1.toNat_lt
  have e2 : ∀ x : UInt64, (Ad x : UInt32) = UInt32.ofNat x.toNat := fun x => by simp only [Ad, Ht, Eh]
  by_cases h5 : (rcS p N (a + 1) l).2.2 ≠ 0
  ·have hS : dgS p N a k l = (0, 0, (rcS p N (a + 1) l).2.2) := by rw [dgS, if_neg ha, if_neg hz, if_pos h5]
   rw [hS]
   generalize rcS p N (a + 1) l = R at *
   obtain ⟨v, n, e⟩ := R
   simp only at *
   rw [if_pos (by rw [Ah]; simpa using h5)]
  ·have hsum : ∀ v : UInt32, (Ae (Ad v : UInt64) (UInt64.ofNat (2 ^ k))).toNat = v.toNat + 2 ^ k := by
    intro v
    have := v.toNat_lt
    have := Nat.pow_pos (n := k) (show 0 < 2 by omega)
    rw [Afk, UInt64.toNat_add, Hq, Ajr (by omega), UInt64.toNat_ofNat']; omega
   by_cases h6 : 4294967295 < (rcS p N (a + 1) l).1.toNat + 2 ^ k
   ·have hS : dgS p N a k l = (0, 0, 12) := by rw [dgS, if_neg ha, if_neg hz, if_neg h5, if_pos h6]
    rw [hS]
    generalize rcS p N (a + 1) l = R at *
    obtain ⟨v, n, e⟩ := R
    simp only at *
    rw [if_neg (by rw [Ah]; simpa using h5), Afc k (by omega), Aa, if_pos (by rw [Aji, hsum]; simpa using h6)]
   ·have hS : dgS p N a k l = (UInt32.ofNat ((rcS p N (a + 1) l).1.toNat + 2 ^ k), (rcS p N (a + 1) l).2.1, 0) := by rw [dgS, if_neg ha, if_neg hz, if_neg h5, if_neg h6]
    rw [hS]
    generalize rcS p N (a + 1) l = R at *
    obtain ⟨v, n, e⟩ := R
    simp only at *
    rw [if_neg (by rw [Ah]; simpa using h5), Afc k (by omega), Aa, if_neg (by rw [Aji, hsum]; simpa using h6), e2, hsum]
end Go.Pl
set_option linter.unusedVariables false
set_option linter.unusedSimpArgs false
namespace Go.Pl
open Go Go.Lv
abbrev DuN := Nat × Nat × UInt64 × UInt64
def okN (d : DuN) : Prop := okD d.1 d.2.1 d.2.2.1 d.2.2.2
def nxt (d : DuN) (v : UInt32) : DuN := (kS d.1 (Acf d.2.2.1 (n64 v)), lK d.2.1 d.2.2.2 d.1 v, Acf d.2.2.1 (n64 v), lT d.2.2.2 d.1 v)
def Bci : DuN := (10, 10, 16384, 16384)
theorem Bpw : okN Bci := ⟨by decide, by decide, by decide, by decide⟩
theorem Buj {d : DuN} (h : okN d) (v : UInt32) : okN (nxt d v) := Bm7 h v
abbrev DuL := Int × Int × UInt64 × UInt64 × Unit
def toI (d : DuN) : DuL := ((d.1 : Int), (d.2.1 : Int), d.2.2.1, d.2.2.2, ())
def chP (ch : Nat) (v : List UInt32) (c : Nat) : Nat → DuN
 | 0 => Bci
 | m + 1 => if m % ch = c then nxt (chP ch v c m) (v.getD m 0) else chP ch v c m
theorem Aua (ch : Nat) (v : List UInt32) (c : Nat) : ∀ m, okN (chP ch v c m)
 | 0 => Bpw
 | m + 1 => by rw [chP]; split; exact Buj (Aua ch v c m) _; exact Aua ch v c m
theorem Bkg (ch : Nat) (v w : List UInt32) (c : Nat) : ∀ m, m ≤ v.length → chP ch (v ++ w) c m = chP ch v c m
 | 0, _ => rfl
 | m + 1, h => by
  have e : (v ++ w).getD m 0 = v.getD m 0 := by simp [List.getD_eq_getElem?_getD, List.getElem?_append_left (show m < v.length by omega)]
  rw [chP, chP, Bkg ch v w c m (by omega), e]
theorem Bcp (ch : Nat) (v : List UInt32) (c : Nat) : ∀ m, m ≤ c → c < ch → chP ch v c m = Bci
 | 0, _, _ => rfl
 | m + 1, h, h2 => by rw [chP, if_neg (by rw [Nat.mod_eq_of_lt (by omega)]; omega), Bcp ch v c m (by omega) h2]
theorem Bgi (ch : Nat) (v : List UInt32) (c i : Nat) (hi : i % ch = c) (hc : c < ch) : ∀ j, j < ch → chP ch v c (i + 1 + j) = chP ch v c (i + 1)
 | 0, _ => rfl
 | j + 1, h => by
  have hne : (i + 1 + j) % ch ≠ c := by
   intro e
   have h1 : (i + (1 + j)) % ch = i % ch := by rw [hi, ← e]; congr 1; omega
   have h2 : (1 + j) % ch = 0 := by
    have h3 := Nat.sub_mod_eq_zero_of_mod_eq h1
    rwa [Nat.add_sub_cancel_left] at h3
   rw [Nat.mod_eq_of_lt (by omega)] at h2; omega
  rw [show i + 1 + (j + 1) = (i + 1 + j) + 1 by omega, chP, if_neg hne, Bgi ch v c i hi hc j (by omega)]
theorem Bna (ch : Nat) (v : List UInt32) (c i : Nat) (hi : i % ch = c) (hc : c < ch) : chP ch v c (i + ch) = nxt (chP ch v c i) (v.getD i 0) := by
 have h := Bgi ch v c i hi hc (ch - 1) (by omega)
 rw [show i + 1 + (ch - 1) = i + ch by omega] at h
 rw [h, chP, if_pos hi]
theorem Ay2 {l : List UInt32} {k : Nat} (h : k < l.length) : getI l (k : Int) = some (l.getD k 0) := by
 rw [Cp h]; simp [List.getD_eq_getElem?_getD, h]
theorem Azk (a b : Nat) : Kf (a : Int) (b : Int) = ((a % b : Nat) : Int) := by rw [Kf, Int.tmod_eq_emod_of_nonneg (by omega)]; omega
theorem Avh (ch : Nat) (v : List UInt32) (hch : 1 ≤ ch) (hch6 : ch ≤ 6) (hv : v.length ≤ 4000) : ∀ (j i q : Nat), i % ch = v.length % ch → i ≤ v.length → v.length - i ≤ j → j < q →
  He (ch : Int) v q (i : Int) ((chP ch v (v.length % ch) i).1 : Int) ((chP ch v (v.length % ch) i).2.1 : Int) (chP ch v (v.length % ch) i).2.2.1 (chP ch v (v.length % ch) i).2.2.2 =
   some (((chP ch v (v.length % ch) v.length).1 : Int), ((chP ch v (v.length % ch) v.length).2.1 : Int), (chP ch v (v.length % ch) v.length).2.2.1, (chP ch v (v.length % ch) v.length).2.2.2)
 | j, i, q + 1, hi, hl, hj, hq => by
  have hc : v.length % ch < ch := Nat.mod_lt _ (by omega)
  rw [He, Rl]
  by_cases h : i < v.length
  ·have h1 := Blr (Aua ch v (v.length % ch) i) (v.getD i 0)
   rw [if_pos (by rw [Af, Ac]; simp; omega), Ay2 h, Aa, h1, Aa]
   have hle : i + ch ≤ v.length := by
    have h2 := Nat.div_add_mod i ch
    have h3 := Nat.div_add_mod v.length ch
    rw [hi] at h2
    have h4 : ch * (i / ch) < ch * (v.length / ch) := by omega
    have h5 := Nat.lt_of_mul_lt_mul_left h4
    have h6 : ch * (i / ch + 1) ≤ ch * (v.length / ch) := Nat.mul_le_mul_left _ h5
    rw [Nat.mul_add] at h6; omega
   have ih := Avh ch v hch hch6 hv (j - ch) (i + ch) q (by rw [Nat.add_mod_right]; exact hi) hle (by omega) (by omega)
   rw [Bna ch v _ i hi hc] at ih
   simp only
   rw [Ag (by omega) (by omega)]
   exact ih
  ·rw [if_neg (by rw [Af, Ac]; simp; omega), show i = v.length by omega]; rfl
theorem Bk8 (ch : Nat) (v : List UInt32) (hch : 1 ≤ ch) (hch6 : ch ≤ 6) (hv : v.length ≤ 4000) : Ka (ch : Int) v = some (((chP ch v (v.length % ch) v.length).1 : Int), ((chP ch v (v.length % ch) v.length).2.1 : Int), (chP ch v (v.length % ch) v.length).2.2.1, (chP ch v (v.length % ch) v.length).2.2.2) := by
 have hc : v.length % ch < ch := Nat.mod_lt _ (by omega)
 have hle : v.length % ch ≤ v.length := Nat.mod_le _ _
 have h := Avh ch v hch hch6 hv v.length (v.length % ch) Az (by rw [Nat.mod_mod]) hle (by omega) (by have := Am; omega)
 rw [Bcp ch v _ _ (Nat.le_refl _) hc] at h
 rw [Ka, Sj, Io, Aa]
 simp only
 rw [Dj (by rw [Ah]; simp; omega), Aa, Ac, Azk]
 exact h
def now (ch : Nat) (v : List UInt32) : DuN := chP ch v (v.length % ch) v.length
def win (N a : Nat) : Nat := min 81 (N - a)
def Kh (ch : Nat) (p : List UInt8) (N a : Nat) (out : List UInt32) : UInt32 × Int × Int := dgS (Adw p a (win N a)) (win N a) 0 (now ch out).1 (now ch out).2.1
def Aar (ch : Nat) (p : List UInt8) (N : Nat) : Nat → Nat → List UInt32 → List UInt32 × Nat × Int
 | 0, a, out => (out, a, 0)
 | j + 1, a, out => if (Kh ch p N a out).2.2 ≠ 0 then (out, a, (Kh ch p N a out).2.2) else Aar ch p N j (a + (Kh ch p N a out).2.1.toNat) (out ++ [(Kh ch p N a out).1])
theorem Ap1 {ch : Nat} {p : List UInt8} {N a : Nat} {out : List UInt32} (h : (Kh ch p N a out).2.2 = 0) : 0 < (Kh ch p N a out).2.1 ∧ (Kh ch p N a out).2.1 ≤ win N a := by
 have := Bul h
 exact ⟨this.1, this.2⟩
theorem Bbv {ch : Nat} {p : List UInt8} {N a : Nat} {out : List UInt32} (h : (Kh ch p N a out).2.2 = 0) : ((a : Int) + (Kh ch p N a out).2.1) = ((a + (Kh ch p N a out).2.1.toNat : Nat) : Int) := by
 have := Ap1 h; omega
def sts (ch : Nat) (v : List UInt32) : List DuL := (List.range 6).map fun c => toI (chP ch v c v.length)
theorem Bi7 {ch : Nat} {v : List UInt32} {c : Nat} (h : c < 6) : getI (sts ch v) (c : Int) = some (toI (chP ch v c v.length)) := by
 rw [Cp (by simp [sts]; exact h)]; simp [sts]
theorem Brh {ch : Nat} {v : List UInt32} {c : Nat} (x : UInt32) (h : c < 6) (hc : c = v.length % ch) : Qv (sts ch v) (c : Int) (toI (nxt (chP ch v c v.length) x)) = some (sts ch (v ++ [x])) := by
 rw [Xr _ (by simp [sts]; exact h)]
 congr 1
 apply List.ext_getElem (by simp [sts])
 intro i h1 h2
 rw [List.getElem_set]
 simp only [sts, List.getElem_map, List.getElem_range]
 have e : (v ++ [x]).getD v.length 0 = x := by simp
 rw [List.length_append, List.length_singleton, chP, e, Bkg ch v [x] i v.length (Nat.le_refl _)]
 by_cases hi : c = i
 ·subst hi; rw [if_pos rfl, if_pos hc.symm]
 ·rw [if_neg hi, if_neg (by omega)]
section
variable {p : List UInt8} {N ch n : Nat}
theorem Bef (hp : okB p N) (h1 : 1 ≤ ch) (h6 : ch ≤ 6) (hn : n * ch ≤ 4000) : ∀ (j a q : Nat) (out : List UInt32), out.length + j = n * ch → j < q → a ≤ N →
  Ll (ch : Int) (n : Int) p (N : Int) q (a : Int) (out.length : Int) (sts ch out) out =
   some (if (Aar ch p N j a out).2.2 ≠ 0 then ([], 0, (Aar ch p N j a out).2.2) else ((Aar ch p N j a out).1, ((Aar ch p N j a out).2.1 : Int), 0))
 | j, a, q + 1, out, hj, hq, ha => by
  have hN := hp.1
  have hnn : n ≤ n * ch := Nat.le_mul_of_pos_right n (by omega)
  have em : Be (n : Int) (ch : Int) = ((n * ch : Nat) : Int) := by rw [Gu (by rw [← Int.natCast_mul]; omega) (by rw [← Int.natCast_mul]; omega), Int.natCast_mul]
  rw [Ll, Rz, em]
  cases j with
  | zero =>
   rw [if_neg (by rw [Af]; simp; omega)]; rfl
  | succ j =>
   have hc : out.length % ch < 6 := Nat.lt_of_lt_of_le (Nat.mod_lt _ (by omega)) h6
   have ew : Gd (Ae (a : Int) 81) (N : Int) = ((a + win N a : Nat) : Int) := by rw [Ahd, Ag (by omega) (by omega)]; unfold win; omega
   have hw : a + win N a ≤ N := by unfold win; omega
   have hw2 : win N a ≤ 81 := by unfold win; omega
   have hd := Bqc (Bka p a (win N a) (by omega)) 0 (Aua ch out (out.length % ch) out.length)
   have ecode : dgS (Adw p a (win N a)) (win N a) 0 (chP ch out (out.length % ch) out.length).1 (chP ch out (out.length % ch) out.length).2.1 = Kh ch p N a out := rfl
   rw [if_pos (by rw [Af]; simp; omega), ew, Buq hp a _ hw (by omega), Aa]
   simp only
   rw [if_neg (by rw [Ah]; simp), Dj (by rw [Ah]; simp; omega), Aa, Azk, Bi7 hc, Aa, Aa]
   refine Eq.trans (congrArg (fun o => Option.bind o _) hd) ?_
   rw [Aa, ecode, Aar]
   by_cases he : (Kh ch p N a out).2.2 ≠ 0
   ·rw [if_pos he, if_pos he]
    simp only
    rw [Rf, Rn, if_pos (by rw [Ah]; simpa using he), if_pos he]
   ·have he0 : (Kh ch p N a out).2.2 = 0 := by simpa using he
    have hok := Ap1 he0
    have hset := Brh (ch := ch) (v := out) (Kh ch p N a out).1 hc rfl
    rw [if_neg he, if_neg he]
    simp only
    rw [Rf, Rn, if_neg (by rw [Ah]; simp), Dj (by rw [Ah]; simp; omega), Aa, Azk, Bi7 hc, Aa]
    refine Eq.trans (congrArg (fun o => Option.bind o _) hset) ?_
    rw [Aa, Zi, Aih, Gt (by simp; omega), Aa, Ag (by omega) (by omega), Ag (by omega) (by omega), Bbv he0]
    have ih := Bef hp h1 h6 hn j (a + (Kh ch p N a out).2.1.toNat) q (out ++ [(Kh ch p N a out).1]) (by simp; omega) (by omega) (by omega)
    rw [List.length_append, List.length_singleton] at ih
    exact ih
theorem Bkf {p : List UInt8} (hN : N = 8 * p.length) (hN2 : N ≤ 330000) (h1 : 1 ≤ ch) (h6 : ch ≤ 6) (hn : n * ch ≤ 4000) : ∀ (j a q : Nat) (out : List UInt32), out.length + j = n * ch → j < q → a ≤ N →
  Dr (ch : Int) (n : Int) p q (a : Int) (out.length : Int) out =
   if (Aar ch p N j a out).2.2 ≠ 0 then some ((Aar ch p N j a out).1, (Aar ch p N j a out).2.2) else Me ((Aar ch p N j a out).2.1 : Int) p (Aar ch p N j a out).1
 | j, a, q + 1, out, hj, hq, ha => by
  have hnn : n ≤ n * ch := Nat.le_mul_of_pos_right n (by omega)
  have em : Be (n : Int) (ch : Int) = ((n * ch : Nat) : Int) := by rw [Gu (by rw [← Int.natCast_mul]; omega) (by rw [← Int.natCast_mul]; omega), Int.natCast_mul]
  have e8 : Be (8 : Int) (Ac p) = (N : Int) := by rw [Ac, Gu (by omega) (by omega)]; omega
  rw [Dr, Tj, em]
  cases j with
  | zero =>
   rw [if_neg (by rw [Af]; simp; omega)]; rfl
  | succ j =>
   have ew : Gd (Ae (a : Int) 81) (N : Int) = ((a + win N a : Nat) : Int) := by rw [Ahd, Ag (by omega) (by omega)]; unfold win; omega
   have hw : a + win N a ≤ N := by unfold win; omega
   have hw2 : win N a ≤ 81 := by unfold win; omega
   have hpre : (Option.bind Io fun (r_4, r_5, r_6, r_7) =>
     if (Sr (out.length : Int) (ch : Int)) = true then (
     Option.bind (Ka (ch : Int) out) fun (r_8, r_9, r_10, r_11) =>
     Fq (Dr (ch : Int) (n : Int) p q) (ch : Int) (n : Int) p (a : Int) (out.length : Int) out r_8 r_9 r_10 r_11)
     else Fq (Dr (ch : Int) (n : Int) p q) (ch : Int) (n : Int) p (a : Int) (out.length : Int) out r_4 r_5 r_6 r_7) =
     Fq (Dr (ch : Int) (n : Int) p q) (ch : Int) (n : Int) p (a : Int) (out.length : Int) out ((now ch out).1 : Int) ((now ch out).2.1 : Int) (now ch out).2.2.1 (now ch out).2.2.2 := by
    rw [Io, Aa]
    by_cases hc : ch ≤ out.length
    ·simp only
     rw [if_pos (by rw [Dv]; simp; omega), Bk8 ch out h1 h6 (by omega), Aa]; rfl
    ·have e : now ch out = Bci := by rw [now, Nat.mod_eq_of_lt (by omega), Bcp ch out _ _ (Nat.le_refl _) (by omega)]
     simp only
     rw [if_neg (by rw [Dv]; simp; omega), e]; rfl
   have hd := Bpe (Bka p a (win N a) (by omega)) 0 (now ch out).1 (now ch out).2.1 (now ch out).2.2.1 (now ch out).2.2.2 (Aua ch out _ _).1 (Aua ch out _ _).2.1
   have ecode : dgS (Adw p a (win N a)) (win N a) 0 (now ch out).1 (now ch out).2.1 = Kh ch p N a out := rfl
   rw [if_pos (by rw [Af]; simp; omega), hpre, Fq, Acz, e8, ew, Bgj p (N : Int) a _ (by omega) (by omega) (by omega), Aa]
   simp only
   refine Eq.trans (congrArg (fun o => Option.bind o _) hd) ?_
   rw [Aa, ecode, Aar]
   by_cases he : (Kh ch p N a out).2.2 ≠ 0
   ·rw [if_pos he, if_pos (by rw [Ah]; simpa using he), if_pos he]
   ·have he0 : (Kh ch p N a out).2.2 = 0 := by simpa using he
    have hok := Ap1 he0
    have ih := Bkf hN hN2 h1 h6 hn j (a + (Kh ch p N a out).2.1.toNat) q (out ++ [(Kh ch p N a out).1]) (by simp; omega) (by omega) (by omega)
    have hx := Bbv he0
    rw [List.length_append, List.length_singleton] at ih
    rw [if_neg he]
    generalize Kh ch p N a out = R at *
    obtain ⟨v, nx, e⟩ := R
    simp only at *
    rw [if_neg (by rw [Ah]; simpa using he), Gt (by simp; omega), Aa, Ag (by omega) (by omega), Ag (by omega) (by omega), hx]
    exact ih
end
theorem Bc2 {ch : Nat} {p : List UInt8} {N : Nat} : ∀ (j a : Nat) (out : List UInt32), a ≤ N → (Aar ch p N j a out).2.1 ≤ N ∧ (Aar ch p N j a out).1.length ≤ out.length + j ∧ ((Aar ch p N j a out).2.2 = 0 → (Aar ch p N j a out).1.length = out.length + j)
 | 0, a, out, h => ⟨h, Nat.le_refl _, fun _ => rfl⟩
 | j + 1, a, out, h => by
  rw [Aar]
  split
  ·rename_i he
   exact ⟨h, by simp, fun e => absurd e he⟩
  ·rename_i he
   have hok := Ap1 (ch := ch) (p := p) (N := N) (a := a) (out := out) (by simpa using he)
   have hw : a + win N a ≤ N := by unfold win; omega
   have ih := Bc2 (ch := ch) (p := p) (N := N) j (a + (Kh ch p N a out).2.1.toNat) (out ++ [(Kh ch p N a out).1]) (by omega)
   rw [List.length_append, List.length_singleton] at ih
   exact ⟨ih.1, by omega, fun e => by have := ih.2.2 e; omega⟩
theorem Bd8 (ch n : Int) (b : List UInt8) (N : Int) : Rq ch n b N 0 (List.replicate 6 ((0 : Int), (0 : Int), (0 : UInt64), (0 : UInt64), ())) = Zk ch n b N (List.replicate 6 ((10 : Int), (10 : Int), (16384 : UInt64), (16384 : UInt64), ())) := by
 have e : Az = (Az - 7) + 1 + 1 + 1 + 1 + 1 + 1 + 1 := by have := Am; omega
 rw [Rq, e]
 rfl
theorem values_eq {p : List UInt8} {N ch n : Nat} (hp : okB p N) (h1 : 1 ≤ ch) (h6 : ch ≤ 6) (hn : n * ch ≤ 4000) : Abp (ch : Int) (n : Int) p (N : Int) =
  some (if (Aar ch p N (n * ch) 0 []).2.2 ≠ 0 then ([], 0, (Aar ch p N (n * ch) 0 []).2.2) else ((Aar ch p N (n * ch) 0 []).1, ((Aar ch p N (n * ch) 0 []).2.1 : Int), 0)) := by
 have h := Bef hp h1 h6 hn (n * ch) 0 Az [] (by simp) (by have := Am; omega) (by omega)
 rw [Abp, Abr, Bd8]
 exact h
theorem Bal (p : List UInt8) (x : List UInt32) (N : Nat) (hN : N = 8 * p.length) (hN2 : N ≤ 330000) : ∀ (j a q : Nat), a + j = N → j < q → Fs p x q (a : Int) = some (x, if Cb p a j = 0 then 0 else 12)
 | 0, a, q + 1, ha, _ => by
  have e8 : Be (8 : Int) (Ac p) = (N : Int) := by rw [Ac, Gu (by omega) (by omega)]; omega
  rw [Fs, Mc, e8, if_neg (by rw [Af]; simp; omega), Cb, if_pos rfl]; rfl
 | j + 1, a, q + 1, ha, hq => by
  have e8 : Be (8 : Int) (Ac p) = (N : Int) := by rw [Ac, Gu (by omega) (by omega)]; omega
  have hb := Yr p a
  rw [Fs, Mc, e8, if_pos (by rw [Af]; simp; omega), Atw p _ a (by omega) (by omega), Aa, Cb]
  by_cases h : Jc p a = 0
  ·rw [if_neg (by rw [Ah]; simp [h]), Ag (by omega) (by omega), h]
   have ih := Bal p x N hN hN2 j (a + 1) q (by omega) (by omega)
   rw [show ((a : Int) + 1) = ((a + 1 : Nat) : Int) by omega, ih]
   congr 2
   by_cases hv : Cb p (a + 1) j = 0
   ·rw [if_pos hv, if_pos (by omega)]
   ·rw [if_neg hv, if_neg (by omega)]
  ·rw [if_pos (by rw [Ah]; simp; omega), if_neg (by omega)]
theorem Bqw {p : List UInt8} {N ch n : Nat} (hN : N = 8 * p.length) (hN2 : N ≤ 330000) (h1 : 1 ≤ ch) (h6 : ch ≤ 6) (hn : n * ch ≤ 4000) : Uv (ch : Int) (n : Int) p =
  some (if (Aar ch p N (n * ch) 0 []).2.2 ≠ 0 then ((Aar ch p N (n * ch) 0 []).1, (Aar ch p N (n * ch) 0 []).2.2) else
   ((Aar ch p N (n * ch) 0 []).1, if 7 < N - (Aar ch p N (n * ch) 0 []).2.1 ∨ Cb p (Aar ch p N (n * ch) 0 []).2.1 (N - (Aar ch p N (n * ch) 0 []).2.1) ≠ 0 then 12 else 0)) := by
 have h := Bkf hN hN2 h1 h6 hn (n * ch) 0 Az [] (by simp) (by have := Am; omega) (by omega)
 have hat := (Bc2 (ch := ch) (p := p) (N := N) (n * ch) 0 [] (by omega)).1
 have e8 : Be (8 : Int) (Ac p) = (N : Int) := by rw [Ac, Gu (by omega) (by omega)]; omega
 rw [Uv, Vv]
 refine Eq.trans h ?_
 generalize Aar ch p N (n * ch) 0 [] = V at *
 obtain ⟨v, a, e⟩ := V
 simp only at *
 by_cases he : e ≠ 0
 ·rw [if_pos he, if_pos he]
 ·rw [if_neg he, if_neg he, Me, Tp, e8, Bi (by omega) (by omega)]
  by_cases h7 : 7 < N - a
  ·rw [if_pos (by rw [Ax]; simp; omega), if_pos (.inl h7)]
  ·rw [if_neg (by rw [Ax]; simp; omega), Tz, Bal p v N hN hN2 (N - a) a Az (by omega) (by have := Am; omega)]
   by_cases hv : Cb p a (N - a) = 0
   ·rw [if_pos hv, if_neg (by omega)]
   ·rw [if_neg hv, if_pos (.inr hv)]
end Go.Pl
set_option linter.unusedVariables false
set_option linter.unusedSimpArgs false
namespace Go.Pl
open Go Go.Lv
theorem Bcu (n : Int) : (GI.ofZ n : Int32) = Int32.ofInt n := rfl
theorem Ajl (a : Int32) : GI.toZ a = a.toInt := rfl
theorem Ali (a b : Int32) : Ae a b = a + b := by
 rw [Ae, Ajl, Ajl, Bcu, Int32.ofInt_add, Int32.ofInt_toInt, Int32.ofInt_toInt]
theorem Axt (a b : Int32) : Al a b = a - b := by
 rw [Al, Ajl, Ajl, Bcu, Int32.ofInt_sub, Int32.ofInt_toInt, Int32.ofInt_toInt]
theorem Bjr (a b : Int32) : geq a b = (a == b) := by
 rw [geq, Ajl, Ajl, Bool.eq_iff_iff]; simp [Int32.toInt_inj]
def sel (p : Nat → Bool) (a b : List Int32) : List Int32 := (List.range a.length).map fun k => if p k = true then a.getD k 0 else b.getD k 0
section
variable {p q : Nat → Bool} {a b : List Int32}
theorem Am5 : (sel p a b).length = a.length := by simp [sel]
theorem Lw {k : Nat} (h : k < a.length) : a.getD k 0 = a[k] := by simp [List.getD_eq_getElem?_getD, h]
theorem Aak {k : Nat} (h : k < (sel p a b).length) : (sel p a b)[k] = if p k = true then a.getD k 0 else b.getD k 0 := by simp [sel]
theorem Ajn {k : Nat} (h : k < a.length) : getI (sel p a b) (k : Int) = some (if p k = true then a.getD k 0 else b.getD k 0) := by
 rw [Cp (by rw [Am5]; exact h), Aak]
theorem Aad (h : ∀ k, k < a.length → p k = q k) : sel p a b = sel q a b := by
 apply List.map_congr_left
 intro k hk
 rw [h k (List.mem_range.1 hk)]
theorem Asc {k : Nat} (h : k < a.length) : Qv (sel p a b) (k : Int) (a.getD k 0) = some (sel (fun j => p j || decide (j = k)) a b) := by
 rw [Xr _ (by rw [Am5]; exact h)]
 congr 1
 apply List.ext_getElem (by simp [Am5])
 intro i h1 h2
 rw [List.getElem_set, Aak, Aak]
 by_cases hi : k = i
 ·subst hi; simp
 ·have : ¬ i = k := fun e => hi e.symm
  simp [hi, this]
theorem Ath (h : ∀ k, k < a.length → p k = true) : sel p a b = a := by
 apply List.ext_getElem (by simp [Am5])
 intro i h1 h2
 rw [Aak, if_pos (h i h2), Lw h2]
theorem Asp (hl : b.length = a.length) (h : ∀ k, k < a.length → p k = false) : sel p a b = b := by
 apply List.ext_getElem (by simp [Am5, hl])
 intro i h1 h2
 rw [Aak, h i (by omega)]
 simp [List.getD_eq_getElem?_getD, h2]
end
end Go.Pl
set_option linter.unusedVariables false
set_option linter.unusedSimpArgs false
namespace Go.Pl
open Go Go.Lv
theorem Axj (a b : Int32) : Be a b = a * b := by
 rw [Be, Ajl, Ajl, Bcu, Int32.ofInt_mul, Int32.ofInt_toInt, Int32.ofInt_toInt]
theorem Abd (a : Int32) : -2147483648 ≤ a.toInt ∧ a.toInt < 2147483648 := ⟨a.le_toInt, a.toInt_lt⟩
theorem Em (a : Int32) : (Ad a : Int) = a.toInt := by
 have := Abd a
 show wrap64 a.toInt = _
 rw [Cc] <;> omega
theorem Ag6 (n : Int) : (Ad n : Int32) = Int32.ofInt n := rfl
theorem Blg (x : Int) : Int32.ofInt (x % 4294967296) = Int32.ofInt x := by
 apply Int32.toInt_inj.1
 rw [Int32.toInt_ofInt, Int32.toInt_ofInt]
 exact Int.emod_bmod x 4294967296
theorem Awh (x : Int) : Bu x = some (Int32.ofInt x) := by
 have e1 : (Ad x : UInt64).toNat = (x % 18446744073709551616).toNat := by
  rw [Bea, UInt64.toNat_ofNat', Nat.mod_eq_of_lt (by omega)]
 have e2 : (Ad (Ad x : UInt64) : UInt32).toNat = (x % 4294967296).toNat := by
  have e : (Ad (Ad x : UInt64) : UInt32) = UInt32.ofNat (Ad x : UInt64).toNat := by simp only [Ad, Ht, Eh]
  rw [e, UInt32.toNat_ofNat', e1]
  show (x % 18446744073709551616).toNat % 4294967296 = _
  omega
 have e3 : (Ad (Ad (Ad x : UInt64) : UInt32) : Int32) = Int32.ofInt ((Ad (Ad x : UInt64) : UInt32).toNat : Int) := rfl
 rw [Bu, e3, e2, ← Blg x]
 congr 2; omega
theorem Asj (a b : Int32) : Bu (Ae (Ad a : Int) (Ad b : Int)) = some (a + b) := by
 have := Abd a
 have := Abd b
 rw [Em, Em, Ag (by omega) (by omega), Awh, Int32.ofInt_add, Int32.ofInt_toInt, Int32.ofInt_toInt]
theorem Bpt (a b : Int32) : Bu (Be (Ad a : Int) (Ad b : Int)) = some (a * b) := by
 have ha := Abd a
 have hb := Abd b
 have h1 : -9223372036854775808 ≤ a.toInt * b.toInt ∧ a.toInt * b.toInt ≤ 9223372036854775807 := by
  have h2 : (a.toInt * b.toInt).natAbs ≤ 2147483648 * 2147483648 := by
   rw [Int.natAbs_mul]; exact Nat.mul_le_mul (by omega) (by omega)
  omega
 rw [Em, Em, Gu h1.1 h1.2, Awh, Int32.ofInt_mul, Int32.ofInt_toInt, Int32.ofInt_toInt]
def OkF (s : Int) (t p : List Int32) : Prop := (s = 9 ∨ s = 10) ∧ t.length = 16 ∧ p.length = 16
theorem At1 {s : Int} {t p : List Int32} (h : OkF s t p) : Adv s t p = some 0 := by
 obtain ⟨rfl | rfl, _, _⟩ := h <;> rfl
theorem g32 {l : List Int32} {k : Nat} (h : k < l.length) : getI l (k : Int) = some (l.getD k 0) := by
 rw [Cp h]; simp [List.getD_eq_getElem?_getD, h]
def Apb (t p : List Int32) : Nat → Int32
 | 0 => 0
 | i + 1 => Apb t p i + t.getD i 0 * p.getD i 0
def half (s : Int) : Int32 := if s = 9 then 256 else 512
def gF (s : Int) (t p : List Int32) : Int32 := Int32.ofInt ((half s + Apb t p 16).toInt.fdiv (if s = 9 then 512 else 1024))
theorem Bbe {s : Int} {t p : List Int32} (h : OkF s t p) : ∀ (j i q : Nat), i + j = 16 → j < q → Tg t s p q (half s + Apb t p i) (i : Int) = some (gF s t p, 0)
 | 0, i, q + 1, hi, _ => by
  obtain rfl : i = 16 := by omega
  have hs := h.1
  rw [Tg, Aef, if_neg (by rw [Af]; simp), Akt, Aqv, Dj (by rw [Dv]; simp; omega), Aa]
  obtain rfl | rfl := hs <;> rfl
 | j + 1, i, q + 1, hi, hq => by
  obtain ⟨hs, ht, hp⟩ := h
  rw [Tg, Aef, if_pos (by rw [Af]; simp; omega), g32 (by omega), Aa, g32 (by omega), Aa, Aa, Ag (b := 1) (by omega) (by omega), Ali, Axj, Int32.add_assoc]
  exact Bbe ⟨hs, ht, hp⟩ j (i + 1) q (by omega) (by omega)
theorem Boh {s : Int} {t p : List Int32} (h : OkF s t p) : Am3 s t p = some (gF s t p, 0) := by
 have hs := h.1
 have h1 := Bbe h 16 0 Az (by omega) (by have := Am; omega)
 have e : Fh (1 : Int32) (GI.toZ (Al s (1 : Int))).toNat = half s + Apb t p 0 := by
  obtain rfl | rfl := hs <;> rfl
 rw [Am3, Akb, At1 h, Aa, if_neg (by rw [Ah]; simp), Dj (by rw [Dv, Bi (by omega) (by omega)]; simp; omega), Aa, Aj9, e]
 exact h1
theorem Ayh {s : Int} {t p : List Int32} (ht : t.length = 16) (hp : p.length = 16) {g : Int32} (hg : Apb t p 16 = g) : ∀ (j i q : Nat), i + j = 16 → j < q → Ho s t p q (Apb t p i).toInt (i : Int) = some g
 | 0, i, q + 1, hi, _ => by
  obtain rfl : i = 16 := by omega
  rw [Ho, Pa, if_neg (by rw [Af]; simp), Xu, Agb, Ag6, Int32.ofInt_toInt, hg]
 | j + 1, i, q + 1, hi, hq => by
  have ih := Ayh (s := s) ht hp hg j (i + 1) q (by omega) (by omega)
  rw [Apb] at ih
  rw [Ho, Pa, if_pos (by rw [Af]; simp; omega), g32 (by omega), g32 (by omega), Aa, Aa, Aa, Aa, Bpt, Aa, ← Em (Apb t p i), Asj, Aa, Em, Ag (by omega) (by omega)]
  exact ih
theorem Bp1 {s : Int} {t p : List Int32} (h : OkF s t p) : Ad1 s t p = some (Apb t p 16) :=
 Ayh h.2.1 h.2.2 rfl 16 0 Az (by omega) (by have := Am; omega)
theorem Bk3 (x n : Int) (hn : n = 512 ∨ n = 1024 ∨ n = 16 ∨ n = 32) : (if x.tmod n < 0 then x.tdiv n - 1 else x.tdiv n) = x.fdiv n := by
 have hs : n.sign = 1 := by obtain rfl | rfl | rfl | rfl := hn <;> rfl
 rw [Int.tdiv_eq_ediv, Int.tmod_eq_emod, hs, Int.fdiv_eq_ediv_of_nonneg _ (by omega)]
 by_cases h : 0 ≤ x ∨ n ∣ x
 ·rw [if_pos h, if_pos h]
  obtain rfl | rfl | rfl | rfl := hn <;> (rw [if_neg (by omega)]; omega)
 ·rw [if_neg h, if_neg h]
  obtain rfl | rfl | rfl | rfl := hn <;> (rw [if_pos (by omega)]; omega)
theorem Awm (x n : Int) (hn : n = 512 ∨ n = 1024 ∨ n = 16 ∨ n = 32) (h : -1000000000000 ≤ x) (h' : x ≤ 1000000000000) : -1000000000000 ≤ x.tdiv n ∧ x.tdiv n ≤ 1000000000000 := by
 have hs : n.sign = 1 := by obtain rfl | rfl | rfl | rfl := hn <;> rfl
 rw [Int.tdiv_eq_ediv, hs]
 by_cases h : 0 ≤ x ∨ n ∣ x
 ·rw [if_pos h]; obtain rfl | rfl | rfl | rfl := hn <;> omega
 ·rw [if_neg h]; obtain rfl | rfl | rfl | rfl := hn <;> omega
theorem Bu5 (x n : Int) (hn : n = 512 ∨ n = 1024 ∨ n = 16 ∨ n = 32) (h : -1000000000000 ≤ x) (h' : x ≤ 1000000000000) : Df x n = x.tdiv n := by
 have := Awm x n hn h h'
 rw [Afp, Cc (by omega) (by omega)]
theorem Bgw (x n : Int) (hn : n = 512 ∨ n = 1024 ∨ n = 16 ∨ n = 32) (h : -1000000000000 ≤ x) (h' : x ≤ 1000000000000) :
  (if (Cu (Kf x n) (0 : Int)) = true then some (Ad (Al (Df x n) (1 : Int)) : Int32) else some (Ad (Df x n) : Int32)) = some (Int32.ofInt (x.fdiv n)) := by
 have hb := Awm x n hn h h'
 rw [Af, Kf, Bu5 x n hn h h', Bi (by omega) (by omega), Ag6, Ag6, ← Bk3 x n hn]
 by_cases hx : x.tmod n < 0
 ·rw [if_pos (by simpa using hx), if_pos hx]
 ·rw [if_neg (by simpa using hx), if_neg hx]
theorem Brb {s : Int} {t p : List Int32} (h : OkF s t p) : Us s t p = some (gF s t p) := by
 obtain ⟨hs, ht, hp⟩ := h
 have h : OkF s t p := ⟨hs, ht, hp⟩
 have hx := Abd (Apb t p 16 + half s)
 have key : ∀ n : Int, (n = 512 ∨ n = 1024) → (half s).toInt = n / 2 → gF s t p = Int32.ofInt ((half s + Apb t p 16).toInt.fdiv n) → Nb s t p n = some (gF s t p) := by
  intro n hn hh hg
  have e2 : Df n (2 : Int) = (half s).toInt := by rw [hh]; obtain rfl | rfl := hn <;> rfl
  rw [Nb, Ae1, Bp1 h, Aa, e2, ← Em (half s), Asj, Aa, Dj (by rw [Ah]; simp; omega), Aa, Aa, Em, Bgw _ n (by omega) (by omega) (by omega), hg, Int32.add_comm]
 rw [Us, Vt]
 obtain rfl | rfl := hs
 ·rw [if_pos (by rw [Bg]; rfl)]; exact key 512 (.inl rfl) rfl rfl
 ·rw [if_neg (by rw [Bg]; decide)]; exact key 1024 (.inr rfl) rfl rfl
def stp (i : Nat) : Int32 := if i = 0 then 4 else if i < 4 then 2 else 1
def sg (x : Int32) : Int32 := if x.toInt < 0 then -1 else if 0 < x.toInt then 1 else 0
def lrn (t p : List Int32) (w : Int32) : List Int32 := (List.range 16).map fun i => t.getD i 0 + stp i * sg (p.getD i 0) * sg w
theorem Aea (t p : List Int32) (w : Int32) : (lrn t p w).length = 16 := by simp [lrn]
theorem Bcc (t p : List Int32) (w : Int32) {i : Nat} (h : i < 16) : (lrn t p w).getD i 0 = t.getD i 0 + stp i * sg (p.getD i 0) * sg w := by
 rw [Lw (by rw [Aea]; exact h)]; simp [lrn]
theorem step_eq (i : Nat) : Alq (i : Int) = some (stp i) := by
 rw [Alq, stp]
 by_cases h : i = 0
 ·rw [if_pos (by rw [Bg]; simp [h]), if_pos h]
 ·rw [if_neg (by rw [Bg]; simp; omega), if_neg h]
  by_cases h2 : i < 4
  ·rw [if_pos (by rw [Af]; simp; omega), if_pos h2]
  ·rw [if_neg (by rw [Af]; simp; omega), if_neg h2]
theorem Blz (i : Nat) : Uz (i : Int) = some (stp i) := by
 rw [Uz, stp]
 by_cases h : i = 0
 ·rw [if_pos (by rw [Bg]; simp [h]), if_pos h]
 ·rw [if_neg (by rw [Bg]; simp; omega), if_neg h]
  by_cases h2 : i < 4
  ·rw [if_pos (by rw [Bbo]; simp; omega), if_pos h2]
  ·rw [if_neg (by rw [Bbo]; simp; omega), if_neg h2]
theorem Bc4 (a b : Int32) : Cu a b = decide (a.toInt < b.toInt) := rfl
theorem Bia (a b : Int32) : Gy a b = decide (b.toInt < a.toInt) := rfl
theorem sign_eq (x : Int32) : Nu x = some (sg x) := by
 rw [Nu, sg, Bc4, Bia, show (0 : Int32).toInt = 0 from rfl]
 by_cases h : x.toInt < 0
 ·rw [if_pos (by simpa using h), if_pos h]
 ·rw [if_neg (by simpa using h), if_neg h]
  by_cases h2 : 0 < x.toInt
  ·rw [if_pos (by simpa using h2), if_pos h2]
  ·rw [if_neg (by simpa using h2), if_neg h2]
theorem Bi9 : sg 0 = 0 := rfl
theorem toInt_ne {x : Int32} (h : x ≠ 0) : x.toInt ≠ 0 := fun e => h (Int32.toInt_inj.1 (by rw [e]; rfl))
theorem Bdo {x : Int32} (h : x.toInt < 0) : sg x = -1 := by rw [sg, if_pos h]
theorem Bcy {x : Int32} (h : x ≠ 0) (h2 : ¬ x.toInt < 0) : sg x = 1 := by
 have := toInt_ne h
 rw [sg, if_neg h2, if_pos (by omega)]
theorem Ap0 (i : Nat) : stp i = 4 ∨ stp i = 2 ∨ stp i = 1 := by
 unfold stp
 by_cases h : i = 0
 ·rw [if_pos h]; exact .inl rfl
 ·rw [if_neg h]; split; exact .inr (.inl rfl); exact .inr (.inr rfl)
theorem Bmb {x w : Int32} (hx : x ≠ 0) (hw : w ≠ 0) (h : (x.toInt < 0) = (w.toInt < 0)) (i : Nat) : stp i * sg x * sg w = stp i := by
 by_cases h1 : x.toInt < 0
 ·rw [Bdo h1, Bdo (by rw [← h]; exact h1)]
  obtain e | e | e := Ap0 i <;> rw [e] <;> decide
 ·rw [Bcy hx h1, Bcy hw (by rw [← h]; exact h1)]
  obtain e | e | e := Ap0 i <;> rw [e] <;> decide
theorem Bi1 {x w : Int32} (hx : x ≠ 0) (hw : w ≠ 0) (h : ¬ (x.toInt < 0) = (w.toInt < 0)) (i : Nat) (a : Int32) : a + stp i * sg x * sg w = a - stp i := by
 have key : stp i * sg x * sg w = - stp i := by
  by_cases h1 : x.toInt < 0
  ·have h2 : ¬ w.toInt < 0 := fun h2 => h (propext ⟨fun _ => h2, fun _ => h1⟩)
   rw [Bdo h1, Bcy hw h2]
   obtain e | e | e := Ap0 i <;> rw [e] <;> decide
  ·have h2 : w.toInt < 0 := Decidable.by_contra fun h2 => h (propext ⟨fun h3 => absurd h3 h1, fun h3 => absurd h3 h2⟩)
   rw [Bcy hx h1, Bdo h2]
   obtain e | e | e := Ap0 i <;> rw [e] <;> decide
 rw [key, Int32.sub_eq_add_neg]
def Ash (i : Nat) : Nat → Bool := fun j => decide (j < i)
theorem Ayo {a b : List Int32} {i : Nat} (h : i < a.length) : Qv (sel (Ash i) a b) (i : Int) (a.getD i 0) = some (sel (Ash (i + 1)) a b) := by
 rw [Asc h]
 congr 1
 apply Aad
 intro k _
 rw [Bool.eq_iff_iff]
 simp only [Ash, Bool.or_eq_true, decide_eq_true_eq]; omega
theorem Bl4 {a b : List Int32} {i : Nat} (e : a.getD i 0 = b.getD i 0) : sel (Ash i) a b = sel (Ash (i + 1)) a b := by
 apply List.map_congr_left
 intro k _
 simp only [Ash, decide_eq_true_eq]
 by_cases h1 : k < i
 ·rw [if_pos h1, if_pos (by omega)]
 ·by_cases h2 : k = i
  ·subst h2; rw [if_neg h1, if_pos (by omega), e]
  ·rw [if_neg h1, if_neg (by omega)]
theorem Bft {a b : List Int32} {i : Nat} (h : i < a.length) : getI (sel (Ash i) a b) (i : Int) = some (b.getD i 0) := by
 rw [Ajn h, if_neg (by simp [Ash])]
theorem Bbp {s : Int} {t p : List Int32} {w : Int32} (hw : w ≠ 0) (ht : t.length = 16) (hp : p.length = 16) : ∀ (j i q : Nat), i + j = 16 → j < q → Th w p s q (i : Int) (sel (Ash i) (lrn t p w) t) = some (s, lrn t p w, p, 0)
 | 0, i, q + 1, hi, _ => by
  obtain rfl : i = 16 := by omega
  rw [Th, Ad8, if_neg (by rw [Af]; simp), Ath (fun k hk => by rw [Aea] at hk; simpa [Ash] using hk)]; rfl
 | j + 1, i, q + 1, hi, hq => by
  have hl := Aea t p w
  have hg := Bcc t p w (i := i) (by omega)
  rw [Th, Ad8, if_pos (by rw [Af]; simp; omega), g32 (by omega), Aa, Ag (b := 1) (by omega) (by omega), Bft (by omega), step_eq]
  simp only [Aa]
  rw [Ali, Axt, Bjr, Bc4, Bc4, show (0 : Int32).toInt = 0 from rfl]
  have ih := Bbp (s := s) hw ht hp j (i + 1) q (by omega) (by omega)
  by_cases hx : p.getD i 0 = 0
  ·rw [if_pos (by rw [hx]; rfl), Bl4 (by rw [hg, hx, Bi9, Int32.mul_zero, Int32.zero_mul, Int32.add_zero])]
   exact ih
  ·rw [if_neg (by simpa using hx)]
   by_cases hs : ((p.getD i 0).toInt < 0) = (w.toInt < 0)
   ·rw [if_pos (by rw [beq_iff_eq]; simp only [hs]), show t.getD i 0 + stp i = (lrn t p w).getD i 0 by rw [hg, Bmb hx hw hs], Ayo (by omega), Aa]
    exact ih
   ·rw [if_neg (by rw [beq_iff_eq, decide_eq_decide]; exact fun h => hs (propext h)), show t.getD i 0 - stp i = (lrn t p w).getD i 0 by rw [hg, Bi1 hx hw hs], Ayo (by omega), Aa]
    exact ih
theorem Bnf {t : List Int32} (p : List Int32) (ht : t.length = 16) : lrn t p 0 = t := by
 apply List.ext_getElem (by rw [Aea, ht])
 intro i h1 h2
 have := Bcc t p 0 (i := i) (by omega)
 rw [Lw h1, Lw h2] at this
 rw [this, Bi9, Int32.mul_zero, Int32.add_zero]
theorem Bnz {s : Int} {t p : List Int32} (h : OkF s t p) (w : Int32) : Al9 s t p w = some (s, lrn t p w, p, 0) := by
 rw [Al9, Aj3, At1 h, Aa, if_neg (by rw [Ah]; simp), Bjr]
 by_cases hw : w = 0
 ·rw [if_pos (by simpa using hw), hw, Bnf p h.2.1]
 ·have h1 := Bbp (s := s) hw h.2.1 h.2.2 16 0 Az (by omega) (by have := Am; omega)
  rw [Asp (by rw [Aea, h.2.1]) (fun k _ => by simp [Ash])] at h1
  rw [if_neg (by simpa using hw)]
  exact h1
theorem Asq {s : Int} {t p : List Int32} {w : Int32} (ht : t.length = 16) (hp : p.length = 16) : ∀ (j i q : Nat), i + j = 16 → j < q → En w s p q (i : Int) (sel (Ash i) (lrn t p w) t) = some (s, lrn t p w, p)
 | 0, i, q + 1, hi, _ => by
  obtain rfl : i = 16 := by omega
  rw [En, Jk, if_neg (by rw [Af]; simp), Ath (fun k hk => by rw [Aea] at hk; simpa [Ash] using hk)]; rfl
 | j + 1, i, q + 1, hi, hq => by
  have hl := Aea t p w
  have hg := Bcc t p w (i := i) (by omega)
  rw [En, Jk, if_pos (by rw [Af]; simp; omega), g32 (l := p) (by omega), Ag (b := 1) (by omega) (by omega), Bft (by omega), Blz, sign_eq w, Aa, Aa, Aa, Aa, Aa, sign_eq, Aa, Aa, Aa, Ali, Axj, Axj, ← hg, Ayo (by omega), Aa]
  exact Asq ht hp j (i + 1) q (by omega) (by omega)
theorem Biz {s : Int} {t p : List Int32} (h : OkF s t p) (w : Int32) : Wn s t p w = some (s, lrn t p w, p) := by
 have h1 := Asq (s := s) (w := w) h.2.1 h.2.2 16 0 Az (by omega) (by have := Am; omega)
 rw [Asp (by rw [Aea, h.2.1]) (fun k _ => by simp [Ash])] at h1
 exact h1
theorem Bp8 {p : List Int32} (h : p.length = 16) : ∃ a0 a1 a2 a3 a4 a5 a6 a7 a8 a9 b0 b1 b2 b3 b4 b5, p = [a0, a1, a2, a3, a4, a5, a6, a7, a8, a9, b0, b1, b2, b3, b4, b5] := by
 match p, h with
 | [a0, a1, a2, a3, a4, a5, a6, a7, a8, a9, b0, b1, b2, b3, b4, b5], _ => exact ⟨a0, a1, a2, a3, a4, a5, a6, a7, a8, a9, b0, b1, b2, b3, b4, b5, rfl⟩
theorem Bss {s : Int} {t p : List Int32} (h : OkF s t p) (x : Int32) : Aqf s t p x = some (s, t, x :: p.take 15, 0) := by
 obtain ⟨hs, ht, hp⟩ := h
 rw [Aqf, Ago, At1 ⟨hs, ht, hp⟩, Aa, if_neg (by rw [Ah]; simp), show vwI (16 : Int) 1 16 = some () from rfl, Aa, show vwI (16 : Int) 0 16 = some () from rfl, Aa, Amb, Asz]
 obtain ⟨a0, a1, a2, a3, a4, a5, a6, a7, a8, a9, b0, b1, b2, b3, b4, b5, rfl⟩ := Bp8 hp
 rfl
def shf (p : List Int32) (i : Nat) : List Int32 := (List.range 16).map fun k => if k ≤ i then p.getD k 0 else p.getD (k - 1) 0
theorem Za (p : List Int32) (i : Nat) : (shf p i).length = 16 := by simp [shf]
theorem Brj (p : List Int32) (i k : Nat) (h : k < 16) : (shf p i).getD k 0 = if k ≤ i then p.getD k 0 else p.getD (k - 1) 0 := by
 rw [Lw (by rw [Za]; exact h)]; simp [shf]
theorem Bse (p : List Int32) (i : Nat) (h : i + 1 < 16) : Qv (shf p (i + 1)) ((i + 1 : Nat) : Int) (p.getD i 0) = some (shf p i) := by
 rw [Xr _ (by rw [Za]; exact h)]
 congr 1
 apply List.ext_getElem (by simp [Za])
 intro k h1 h2
 rw [Za] at h2
 rw [List.getElem_set]
 simp only [shf, List.getElem_map, List.getElem_range]
 by_cases hk : i + 1 = k
 ·subst hk; rw [if_pos rfl, if_neg (by omega)]; rfl
 ·rw [if_neg hk]
  by_cases h3 : k ≤ i
  ·rw [if_pos (by omega), if_pos h3]
  ·rw [if_neg (by omega), if_neg h3]
theorem Au5 (s : Int) (t p : List Int32) (x : Int32) (hp : p.length = 16) : ∀ (i q : Nat), i < 16 → i < q → Fc x s t q (i : Int) (shf p i) = some (s, t, x :: p.take 15)
 | 0, q + 1, _, _ => by
  have hg : getI (shf p 0) (0 : Int) = some ((shf p 0).getD 0 0) := g32 (l := shf p 0) (k := 0) (by rw [Za]; omega)
  have hset : Qv (shf p 0) (0 : Int) x = some ((shf p 0).set 0 x) := Xr (l := shf p 0) (n := 0) x (by rw [Za]; omega)
  rw [Fc, Kq, if_neg (by rw [Ax]; simp), Rg, Aa2, hg, Aa, hset, Aa]
  congr 3
  apply List.ext_getElem (by simp [Za, hp])
  intro k h1 h2
  rw [List.length_set, Za] at h1
  rw [List.getElem_set]
  cases k with
  | zero => rw [if_pos rfl]; rfl
  | succ k =>
   rw [if_neg (by omega)]
   simp only [shf, List.getElem_map, List.getElem_range, List.getElem_cons_succ, List.getElem_take]
   rw [if_neg (by omega), Nat.add_sub_cancel, Lw (by omega)]
 | i + 1, q + 1, hi, hq => by
  have hg := g32 (l := shf p (i + 1)) (k := i) (by rw [Za]; omega)
  rw [Brj p (i + 1) i (by omega), if_pos (by omega)] at hg
  have e1 : Al ((i + 1 : Nat) : Int) (1 : Int) = (i : Int) := by rw [Bi (by omega) (by omega)]; omega
  have hg2 := g32 (l := shf p (i + 1)) (k := i + 1) (by rw [Za]; omega)
  rw [Fc, Kq, if_pos (by rw [Ax]; simp), e1, hg, Aa, Aa, hg2, Aa, Bse p i hi, Aa]
  exact Au5 s t p x hp i q (by omega) (by omega)
theorem Bla {s : Int} {t p : List Int32} (hp : p.length = 16) (x : Int32) : Ya s t p x = some (s, t, x :: p.take 15) := by
 have h := Au5 s t p x hp 15 Az (by omega) (by have := Am; omega)
 have e : shf p 15 = p := by
  apply List.ext_getElem (by rw [Za, hp])
  intro k h1 h2
  rw [Za] at h1
  simp only [shf, List.getElem_map, List.getElem_range]
  rw [if_pos (by omega), Lw h2]
 rw [e] at h
 exact h
theorem Bpz {s : Int} {t p : List Int32} (h : OkF s t p) (w x : Int32) : OkF s (lrn t p w) (x :: p.take 15) := ⟨h.1, Aea _ _ _, by simp [h.2.2]⟩
theorem Bqh {s : Int} {t p : List Int32} (h : OkF s t p) (y : Int32) : Aox s t p y = some (y + gF s t p, s, lrn t p y, (y + gF s t p) :: p.take 15, 0) := by
 rw [Aox, Boh h, Aa]
 simp only
 rw [if_neg (by rw [Ah]; simp), Ali, Ar6, Bnz h, Aa]
 simp only
 rw [Bss (s := s) (t := lrn t p y) (p := p) ⟨h.1, Aea _ _ _, h.2.2⟩, Aa]; rfl
theorem Bmm {s : Int} {t p : List Int32} (h : OkF s t p) (y : Int32) : Np s t p y = some (y + gF s t p, s, lrn t p y, (y + gF s t p) :: p.take 15) := by
 rw [Np, Brb h, Aa, Asj, Aa, Biz h, Aa]
 simp only
 rw [Bla h.2.2, Aa]
def sB (bits : Int) : Int := if bits = 16 then 9 else 10
def shB (bits : Int) : Int := if bits = 8 then 4 else 5
def Dp (bits : Int) : Prop := bits = 8 ∨ bits = 16 ∨ bits = 24
def gs (sh : Int) (last : Int32) : Int32 := Ad (Bdm (Al (Fh (Ad last : Int) sh.toNat) (Ad last)) sh.toNat)
theorem Bva (bits : Int) : sB bits = 9 ∨ sB bits = 10 := by unfold sB; split <;> simp
theorem Brm (bits : Int) : 0 ≤ shB bits := by unfold shB; split <;> omega
theorem Bv9 {bits : Int} (h : Dp bits) (t : List Int32) : As1 bits t = some (sB bits, t, List.replicate 16 0, 0) := by
 obtain rfl | rfl | rfl := h <;> rfl
theorem Bue {bits : Int} (h : Dp bits) : Aoi bits = some (shB bits, 0) := by
 obtain rfl | rfl | rfl := h <;> rfl
theorem Bti {sh : Int} (h : 0 ≤ sh) (last : Int32) : Ajh sh last = some (gs sh last) := by
 rw [Ajh, Dj (by rw [Dv]; simpa using h), Aa, Aa]; rfl
theorem Btn {bits : Int} (h : Dp bits) (last : Int32) : Ae8 bits last = some (gs (shB bits) last, 0) := by
 rw [Ae8, Bue h, Aa]
 simp only
 rw [if_neg (by rw [Ah]; simp), Bti (Brm bits), Aa]
theorem Bhn {bits : Int} (h : Dp bits) (last : Int32) (t p : List Int32) : Aek bits last (sB bits) t p = some 0 := by
 rw [Aek, Bv9 h, Aa]
 simp only
 rw [if_neg (by rw [Ah, Ah]; simp)]
theorem Bmj {bits : Int} (h : Dp bits) {t p : List Int32} (hF : OkF (sB bits) t p) (last y : Int32) :
  Ju bits last (sB bits) t p y = some (y + gF (sB bits) t p + gs (shB bits) last, bits, y + gF (sB bits) t p + gs (shB bits) last, sB bits, lrn t p y, (y + gF (sB bits) t p) :: p.take 15, 0) := by
 rw [Ju, Bhn h, Aa, if_neg (by rw [Ah]; simp), Btn h, Aa]
 simp only
 rw [Bqh hF, Aa]
 simp only
 rw [Ali]
theorem At5 (sh : Int) (hs : sh = 4 ∨ sh = 5) (last : Int32) : Ke sh last = some (gs sh last) := by
 have hl := Abd last
 have key : ∀ n : Int, n = 16 ∨ n = 32 → gs sh last = Int32.ofInt (((n - 1) * last.toInt).fdiv n) → Kl last n = some (gs sh last) := by
  intro n hn hg
  have e : Be (Al n (1 : Int)) (Ad last : Int) = (n - 1) * last.toInt := by
   obtain rfl | rfl := hn <;> (rw [Em, Bi (by omega) (by omega), Gu (by omega) (by omega)])
  rw [Kl, Ab8, Dj (by rw [Ah]; simp; omega), Aa, Aa, e, Bgw _ n (by omega) (by obtain rfl | rfl := hn <;> omega) (by obtain rfl | rfl := hn <;> omega), hg]
 rw [Ke, Rh]
 obtain rfl | rfl := hs
 ·rw [if_neg (by rw [Bg]; decide)]
  refine key 16 (.inl rfl) ?_
  have e : Fh (Ad last : Int) (4 : Int).toNat = last.toInt * 16 := by
   rw [Em]; show wrap64 (last.toInt * 2 ^ 4) = _; rw [Cc] <;> omega
  rw [gs, e, Em, Bi (by omega) (by omega), Ag6]
  show Int32.ofInt ((last.toInt * 16 - last.toInt).fdiv 16) = _
  congr 2; omega
 ·rw [if_pos (by rw [Bg]; rfl)]
  refine key 32 (.inr rfl) ?_
  have e : Fh (Ad last : Int) (5 : Int).toNat = last.toInt * 32 := by
   rw [Em]; show wrap64 (last.toInt * 2 ^ 5) = _; rw [Cc] <;> omega
  rw [gs, e, Em, Bi (by omega) (by omega), Ag6]
  show Int32.ofInt ((last.toInt * 32 - last.toInt).fdiv 32) = _
  congr 2; omega
theorem Bk2 {bits : Int} (h : Dp bits) {t p : List Int32} (hF : OkF (sB bits) t p) (last y : Int32) :
  Gn bits last (sB bits) t p y = some (y + gF (sB bits) t p + gs (shB bits) last, bits, y + gF (sB bits) t p + gs (shB bits) last, sB bits, lrn t p y, (y + gF (sB bits) t p) :: p.take 15) := by
 have hb : Pg bits last (sB bits) t p = some (Ad (gs (shB bits) last) : Int) := by
  rw [Pg]
  obtain rfl | rfl | rfl := h
  ·rw [if_pos (by rw [Bg]; rfl), At5 4 (.inl rfl), Aa]; rfl
  ·rw [if_neg (by rw [Bg]; decide), At5 5 (.inr rfl), Aa]; rfl
  ·rw [if_neg (by rw [Bg]; decide), At5 5 (.inr rfl), Aa]; rfl
 rw [Gn, Bmm hF, Aa]
 simp only
 rw [hb, Aa, Asj, Aa]
theorem Buz {bits : Int} (h : Dp bits) (t : List Int32) : Adu bits t = some (bits, 0, sB bits, t, List.replicate 16 0, 0) := by
 obtain rfl | rfl | rfl := h <;> rfl
def Anp (n : UInt32) : Int32 := if n.toNat % 2 = 0 then Int32.ofInt ((n.toNat / 2 : Nat) : Int) else Int32.ofInt (-((n.toNat / 2 : Nat) : Int) - 1)
theorem Bej (a b : Int32) : (Yh a b).toBitVec = a.toBitVec ^^^ b.toBitVec := by
 show (Int32.ofInt ((BitVec.ofInt 32 a.toBitVec.toInt ^^^ BitVec.ofInt 32 b.toBitVec.toInt).toNat : Int)).toBitVec = _
 rw [BitVec.ofInt_toInt, BitVec.ofInt_toInt, Int32.toBitVec_ofInt, BitVec.ofInt_natCast, BitVec.ofNat_toNat, BitVec.setWidth_eq]
theorem Bu9 (m : Nat) (h : m < 2147483648) : Yh (Int32.ofInt (m : Int)) (Int32.ofInt (-1)) = Int32.ofInt (-(m : Int) - 1) := by
 apply Int32.toBitVec_inj.1
 have e1 : (Int32.ofInt (-1)).toBitVec = BitVec.allOnes 32 := by decide
 rw [Bej, e1, BitVec.xor_allOnes, Int32.toBitVec_ofInt, Int32.toBitVec_ofInt]
 apply BitVec.eq_of_toNat_eq
 rw [BitVec.toNat_not, BitVec.toNat_ofInt, BitVec.toNat_ofInt]
 omega
theorem Bm9 (n : UInt32) : Xi n = some (Anp n) := by
 have hn := n.toNat_lt
 have e1 : (Ad (Cy n (GI.toZ (1 : UInt64)).toNat) : Int32) = Int32.ofInt ((n.toNat / 2 : Nat) : Int) := by
  show Int32.ofInt ((Cy n 1).toNat : Int) = _
  rw [Aln]
 have e2 : (Ad (Il n (1 : UInt32)) : Int32) = Int32.ofInt ((n.toNat % 2 : Nat) : Int) := by
  show Int32.ofInt ((Il n (1 : UInt32)).toNat : Int) = _
  rw [Bf1, UInt32.toNat_and]
  show Int32.ofInt ((n.toNat &&& 1 : Nat) : Int) = _
  rw [Nat.and_one_is_mod]
 rw [Xi, e1, e2, Anp]
 congr 1
 by_cases h : n.toNat % 2 = 0
 ·have e3 : Asi (Int32.ofInt ((n.toNat % 2 : Nat) : Int)) = Int32.ofInt 0 := by rw [h]; decide
  rw [if_pos h, e3]
  apply Int32.toBitVec_inj.1
  rw [Bej, show (Int32.ofInt 0).toBitVec = 0#32 from rfl, BitVec.xor_zero]
 ·have e3 : Asi (Int32.ofInt ((n.toNat % 2 : Nat) : Int)) = Int32.ofInt (-1) := by rw [show n.toNat % 2 = 1 by omega]; decide
  rw [if_neg h, e3, Bu9 _ (by omega)]
theorem Br2 (n : UInt32) : Jl n = some (Anp n) := by
 have hn := n.toNat_lt
 have e1 : geq (Aaq n (2 : UInt32)) (0 : UInt32) = decide (n.toNat % 2 = 0) := by
  rw [Bdk, Bfa, Bool.eq_iff_iff]
  simp only [beq_iff_eq, ← UInt32.toNat_inj, UInt32.toNat_mod, decide_eq_true_eq]; rfl
 rw [Jl, e1, Anp]
 by_cases h : n.toNat % 2 = 0
 ·rw [if_pos (by simpa using h), if_pos h, Be9]; rfl
 ·have e2 : (Ad n : Int) = (n.toNat : Int) := Bg9 n
  rw [if_neg (by simpa using h), if_neg h, e2, Ag (by omega) (by omega), Bie, Cc (by omega) (by omega), Afp, Int.tdiv_eq_ediv, Ag6]
  congr 2
  rw [if_pos (.inr (by omega)), Cc (by omega) (by omega)]; omega
end Go.Pl
set_option linter.unusedVariables false
set_option linter.unusedSimpArgs false
namespace Go.Pl
open Go Go.Lv
theorem Be1 {c : Prop} [Decidable c] (h : c) : Vd (decide c) = some () := by rw [decide_eq_true h]; rfl
def unV (f : Nat → Int32) (ch : Nat) : Nat → Int32
 | 0 => if 1 < ch then f (ch - 1) + Df (f (ch - 2)) (2 : Int32) else f (ch - 1)
 | j + 1 => unV f ch j - f (ch - 2 - j)
def unm (ch : Nat) (m : List Int32) : List Int32 := (List.range m.length).map fun k => unV (fun i => m.getD (k - k % ch + i) 0) ch (ch - 1 - k % ch)
theorem Aqc (ch : Nat) (m : List Int32) : (unm ch m).length = m.length := by simp [unm]
theorem Av7 {ch : Nat} {m : List Int32} {a i : Nat} (ha : a % ch = 0) (hi : i < ch) (h : a + i < m.length) : (unm ch m).getD (a + i) 0 = unV (fun i => m.getD (a + i) 0) ch (ch - 1 - i) := by
 have hb : (a + i) % ch = i := by rw [Nat.add_mod, ha, Nat.zero_add, Nat.mod_mod, Nat.mod_eq_of_lt hi]
 rw [Lw (by rw [Aqc]; exact h)]
 simp only [unm, List.getElem_map, List.getElem_range, hb]
 rw [show a + i - i = a by omega]
section
variable (ch : Nat) (m : List Int32)
theorem Boo (h1 : 1 ≤ ch) (h6 : ch ≤ 6) (hm : m.length % ch = 0) (hl2 : m.length ≤ 4000) : Ap7 (ch : Int) m = some 0 := by
 rw [Ap7, if_neg (by simp [Af, Ax]; omega), if_neg (by rw [Ax, Ac]; simp; omega), Dj (by rw [Ah]; simp; omega), Aa, if_neg]
 rw [Ah, Kf, Ac, ← Int.ofNat_tmod, hm]; simp
theorem Aym (bk : Int → List Int32 → Option (List Int32 × Int)) (at' : Nat) (h1 : 1 ≤ ch) (h6 : ch ≤ 6) (hm : at' % ch = 0) (hl : at' + ch ≤ m.length) (hl2 : m.length ≤ 4000) : ∀ (i q : Nat), i ≤ ch - 1 → i < q →
  Xh bk (ch : Int) (at' : Int) q ((i : Int) - 1) (sel (fun k => decide (k < at' ∨ (at' + i ≤ k ∧ k < at' + ch))) (unm ch m) m) = bk ((at' + ch : Nat) : Int) (sel (fun k => decide (k < at' + ch)) (unm ch m) m)
 | 0, q + 1, hi, _ => by
  have e4 : Ae (at' : Int) (ch : Int) = ((at' + ch : Nat) : Int) := by rw [Ag (by omega) (by omega)]; omega
  rw [Xh, Agy, if_neg (by rw [Dv]; simp), Am8, As7, e4]
  congr 1
  apply Aad
  intro k _
  rw [Bool.eq_iff_iff]; simp; omega
 | i + 1, q + 1, hi, hq => by
  have hlen := Aqc ch m
  have e2 : Ae (at' : Int) (ch : Int) - (at' : Int) = (ch : Int) := by rw [Ag (by omega) (by omega)]; omega
  have e3 : Ae (i : Int) 1 = ((i + 1 : Nat) : Int) := by rw [Ag (by omega) (by omega)]; omega
  have hv : ((unm ch m).getD (at' + (i + 1)) 0 - m.getD (at' + i) 0) = (unm ch m).getD (at' + i) 0 := by
   rw [Av7 hm (by omega) (by omega), Av7 hm (by omega) (by omega), show ch - 1 - i = (ch - 1 - (i + 1)) + 1 by omega, unV, show ch - 2 - (ch - 1 - (i + 1)) = i by omega]
  rw [Xh, Agy, show ((i + 1 : Nat) : Int) - 1 = (i : Int) by omega, if_pos (by rw [Dv]; simp), e2, e3, Be1 (by omega), Aa, Be1 (by omega), Aa,
   show (at' : Int) + ((i + 1 : Nat) : Int) = ((at' + (i + 1) : Nat) : Int) by omega, show (at' : Int) + (i : Int) = ((at' + i : Nat) : Int) by omega,
   Ajn (by omega), Aa, Ajn (by omega), Aa, Aa, if_pos (by simp; omega), if_neg (by simp; omega), Axt, hv, Asc (by omega), Aa, Bi (by omega) (by omega)]
  have ih := Aym bk at' h1 h6 hm hl hl2 i q (by omega) (by omega)
  rw [← ih]
  congr 1
  apply Aad
  intro k _
  rw [Bool.eq_iff_iff]; simp; omega
theorem Bf3 {at' ch n : Nat} (ha : at' % ch = 0) (hm : n % ch = 0) (h : at' < n) : at' + ch ≤ n := by
 have d1 := Nat.div_add_mod at' ch
 have d2 := Nat.div_add_mod n ch
 rw [ha, Nat.add_zero] at d1
 rw [hm, Nat.add_zero] at d2
 have hlt : at' / ch < n / ch := by
  rcases Nat.lt_or_ge (at' / ch) (n / ch) with h' | h'
  ·exact h'
  ·have := Nat.mul_le_mul_left ch h'; omega
 have := Nat.mul_le_mul_left ch (show at' / ch + 1 ≤ n / ch from hlt)
 rw [Nat.mul_add] at this; omega
theorem Bba (h1 : 1 ≤ ch) (h6 : ch ≤ 6) (hm : m.length % ch = 0) (hl2 : m.length ≤ 4000) : ∀ (j at' q : Nat), at' % ch = 0 → at' ≤ m.length → m.length - at' ≤ j → j < q →
  Rp (ch : Int) q (at' : Int) (sel (fun k => decide (k < at')) (unm ch m) m) = some (unm ch m, 0)
 | j, at', q + 1, ha, hle, hj, hq => by
  have hlen := Aqc ch m
  have hl : Ac (sel (fun k => decide (k < at')) (unm ch m) m) = (m.length : Int) := by rw [Ac, Am5, hlen]
  rw [Rp, Anh, hl]
  by_cases h : at' < m.length
  ·have hb := Bf3 ha hm h
   obtain ⟨j, rfl⟩ : ∃ k, j = k + 1 := ⟨j - 1, by omega⟩
   have e1 : Al (Ae (at' : Int) (ch : Int) - (at' : Int)) 1 = ((ch - 1 : Nat) : Int) := by rw [Ag (by omega) (by omega), Bi (by omega) (by omega)]; omega
   have e2 : Ae (at' : Int) (ch : Int) - (at' : Int) = (ch : Int) := by rw [Ag (by omega) (by omega)]; omega
   have e4 : Ae (at' : Int) (ch : Int) = ((at' + ch : Nat) : Int) := by rw [Ag (by omega) (by omega)]; omega
   have hi := Aym ch m (Rp (ch : Int) q) at' h1 h6 ha hb hl2 (ch - 1) Az (by omega) (by have := Am; omega)
   have hrest := Bba h1 h6 hm hl2 j (at' + ch) q (by rw [Nat.add_mod_right, ha]) hb (by omega) (by omega)
   have hstart : Ag0 (Rp (ch : Int) q) (ch : Int) (at' : Int) (sel (fun k => decide (k < at' ∨ (at' + (ch - 1) ≤ k ∧ k < at' + ch))) (unm ch m) m) = some (unm ch m, 0) := by
    have e6 : Al ((ch - 1 : Nat) : Int) 1 = ((ch - 1 : Nat) : Int) - 1 := Bi (by omega) (by omega)
    rw [Ag0, Ang, Am7, e1, e6]
    exact Eq.trans hi hrest
   rw [if_pos (by rw [Af]; simp; omega), show vwI (m.length : Int) (at' : Int) (Ae (at' : Int) (ch : Int)) = some () by rw [e4, vwI, Be1]; omega, Aa, e1, e2]
   have hlast := Av7 (m := m) ha (show ch - 1 < ch by omega) (by omega)
   rw [show ch - 1 - (ch - 1) = 0 by omega, unV] at hlast
   by_cases hc : 1 < ch
   ·have e5 : Al ((ch - 1 : Nat) : Int) 1 = ((ch - 2 : Nat) : Int) := by rw [Bi (by omega) (by omega)]; omega
    rw [if_pos hc] at hlast
    rw [if_pos (by rw [Ax]; simp; omega), Be1 (by omega), Aa, e5, Be1 (by omega), Aa, show (at' : Int) + ((ch - 1 : Nat) : Int) = ((at' + (ch - 1) : Nat) : Int) by omega, show (at' : Int) + ((ch - 2 : Nat) : Int) = ((at' + (ch - 2) : Nat) : Int) by omega,
     Ajn (by omega), Aa, Ajn (by omega), Aa, Aa, if_neg (by simp), if_neg (by simp), Ali, ← hlast, Asc (by omega), Aa]
    rw [← hstart]
    congr 1
    apply Aad
    intro k _
    rw [Bool.eq_iff_iff]; simp; omega
   ·have hc1 : ch = 1 := by omega
    rw [if_neg (by rw [Ax]; simp; omega), ← hstart]
    congr 1
    rw [if_neg hc] at hlast
    apply List.map_congr_left
    intro k hk
    by_cases hk2 : k = at'
    ·subst hk2
     rw [if_neg (by simp), if_pos (by simp; omega)]
     rw [show k + (ch - 1) = k by omega] at hlast
     exact hlast.symm
    ·by_cases hk3 : k < at'
     ·rw [if_pos (by simp; omega), if_pos (by simp; omega)]
     ·rw [if_neg (by simp; omega), if_neg (by simp; omega)]
  ·rw [if_neg (by rw [Af]; simp; omega), Ath (fun k hk => by simp; omega)]
   rfl
theorem Brt (h1 : 1 ≤ ch) (h6 : ch ≤ 6) (hm : m.length % ch = 0) (hl2 : m.length ≤ 4000) : Aso (ch : Int) m = some (unm ch m, 0) := by
 have hlen := Aqc ch m
 have h := Bba ch m h1 h6 hm hl2 m.length 0 Az (by simp) (by omega) (by omega) (by have := Am; omega)
 rw [Aso, Ao8, Boo ch m h1 h6 hm hl2, Aa, if_neg (by rw [Ah]; simp), Ga, Gt (by simp; omega), Aa, Aa, List.nil_append, Amp]
 rw [Asp hlen.symm (fun k _ => by simp)] at h
 exact h
end
def Aul (f : Nat → Int32) (ch : Nat) : List Int32 := (List.range ch).map fun i => unV f ch (ch - 1 - i)
theorem Alb (f : Nat → Int32) (ch : Nat) : (Aul f ch).length = ch := by simp [Aul]
theorem Atf (f : Nat → Int32) {ch i : Nat} (h : i < ch) : (Aul f ch).getD i 0 = unV f ch (ch - 1 - i) := by
 rw [Lw (by rw [Alb]; exact h)]; simp [Aul]
theorem Bof (a b : Int32) : Bu (Al (Ad a : Int) (Ad b : Int)) = some (a - b) := by
 have := Abd a
 have := Abd b
 rw [Em, Em, Bi (by omega) (by omega), Awh, Int32.ofInt_sub, Int32.ofInt_toInt, Int32.ofInt_toInt]
theorem Bl1 (a b : Int32) : Bu (Ae (Ad a : Int) (Df (Ad b : Int) (2 : Int))) = some (a + Df b (2 : Int32)) := by
 have := Abd a
 have hb := Abd b
 have hd : -2147483648 ≤ b.toInt.tdiv 2 ∧ b.toInt.tdiv 2 ≤ 2147483648 := by
  rw [Int.tdiv_eq_ediv, show Int.sign 2 = 1 from rfl]
  by_cases h : 0 ≤ b.toInt ∨ 2 ∣ b.toInt
  ·rw [if_pos h]; omega
  ·rw [if_neg h]; omega
 have e : Df b (2 : Int32) = Int32.ofInt (b.toInt.tdiv 2) := rfl
 rw [Em, Em, Afp, Cc (by omega) (by omega), Ag (by omega) (by omega), Awh, Int32.ofInt_add, Int32.ofInt_toInt, e]
theorem Asu (seg z : List Int32) (ch : Nat) (h6 : ch ≤ 6) (hs : seg.length = ch) (hz : z.length = ch) : ∀ (i q : Nat), i + 1 ≤ ch → i < q →
  Es seg q ((i : Int) - 1) (sel (fun k => decide (i ≤ k)) (Aul (fun i => seg.getD i 0) ch) z) = some (Aul (fun i => seg.getD i 0) ch)
 | 0, q + 1, hi, _ => by
  rw [Es, Jg, if_neg (by rw [Dv]; simp), Ath (fun k hk => by simp)]; rfl
 | i + 1, q + 1, hi, hq => by
  have hlen := Alb (fun i => seg.getD i 0) ch
  have e3 : Ae (i : Int) 1 = ((i + 1 : Nat) : Int) := by rw [Ag (by omega) (by omega)]; omega
  have hv : (Aul (fun i => seg.getD i 0) ch).getD (i + 1) 0 - seg.getD i 0 = (Aul (fun i => seg.getD i 0) ch).getD i 0 := by
   rw [Atf _ (by omega), Atf _ (by omega), show ch - 1 - i = (ch - 1 - (i + 1)) + 1 by omega, unV, show ch - 2 - (ch - 1 - (i + 1)) = i by omega]
  rw [Es, Jg, show ((i + 1 : Nat) : Int) - 1 = (i : Int) by omega, if_pos (by rw [Dv]; simp), e3, Ajn (by omega), Aa, g32 (by omega), Aa, Aa, if_pos (by simp), Bof, Aa, Ajn (by omega), Aa, hv, Asc (by omega), Aa, Bi (by omega) (by omega)]
  have ih := Asu seg z ch h6 hs hz i q (by omega) (by omega)
  rw [← ih]
  congr 1
  apply Aad
  intro k _
  rw [Bool.eq_iff_iff]; simp; omega
theorem Bfr {l : List Int32} {i : Nat} (v : Int32) (h : i < l.length) : (l.set i v).getD i 0 = v := by
 rw [Lw (by rw [List.length_set]; exact h)]; simp
theorem Biq (seg : List Int32) (ch : Nat) (h1 : 1 ≤ ch) (h6 : ch ≤ 6) (hs : seg.length = ch) : Nz seg = some (Aul (fun i => seg.getD i 0) ch) := by
 have hlen := Alb (fun i => seg.getD i 0) ch
 have hzl : (List.replicate ch (0 : Int32)).length = ch := by simp
 have e1 : Al (Ac seg) 1 = ((ch - 1 : Nat) : Int) := by rw [Ac, hs, Bi (by omega) (by omega)]; omega
 have e2 : Al (Ac seg) 2 = ((ch - 1 : Nat) : Int) - 1 := by rw [Ac, hs, Bi (by omega) (by omega)]; omega
 have hlast := Atf (fun i => seg.getD i 0) (show ch - 1 < ch by omega)
 rw [show ch - 1 - (ch - 1) = 0 by omega, unV] at hlast
 have hend : ∀ z : List Int32, z.length = ch → z.getD (ch - 1) 0 = (Aul (fun i => seg.getD i 0) ch).getD (ch - 1) 0 → Jn seg z = some (Aul (fun i => seg.getD i 0) ch) := by
  intro z hz hzl
  have h := Asu seg z ch h6 hs hz (ch - 1) Az (by omega) (by have := Am; omega)
  have e : sel (fun k => decide (ch - 1 ≤ k)) (Aul (fun i => seg.getD i 0) ch) z = z := by
   apply List.ext_getElem (by rw [Am5, hlen, hz])
   intro k k1 k2
   rw [Aak]
   by_cases hk : ch - 1 ≤ k
   ·obtain rfl : k = ch - 1 := by omega
    rw [if_pos (by simp), ← hzl, Lw k2]
   ·rw [if_neg (by simpa using hk), Lw k2]
  rw [e] at h
  rw [Jn, Pz, e2]
  exact h
 rw [Nz, Qg, Ac, hs, Aw5 (by omega) (by omega), Aa, Dj (by rw [Bg]; simp), Aa]
 rw [Ac, hs] at e1
 rw [Ac, hs] at e2
 have hz1 : (List.replicate (Int.toNat (ch : Int)) (0 : Int32)).length = ch := by simp
 have hs1 := g32 (l := seg) (k := ch - 1) (by omega)
 rw [e1, hs1, Aa, g32 (by omega), Aa, Xr _ (by omega), Aa]
 by_cases hc : 1 < ch
 ·rw [if_pos hc] at hlast
  have e3 : ((ch - 1 : Nat) : Int) - 1 = ((ch - 2 : Nat) : Int) := by omega
  have hs2 := g32 (l := seg) (k := ch - 2) (by omega)
  rw [if_pos (by rw [Ax]; simp; omega), Aa, e2, e3, hs2, Aa, Bl1, Aa, g32 (by rw [List.length_set]; omega), Aa, Xr _ (by rw [List.length_set]; omega), Aa]
  refine hend _ (by simp) ?_
  rw [hlast, Bfr _ (by rw [List.length_set]; omega)]
 ·rw [if_neg hc] at hlast
  rw [if_neg (by rw [Ax]; simp; omega)]
  refine hend _ (by simp) ?_
  rw [hlast, Bfr _ (by omega)]
theorem Br1 (ch : Nat) (m : List Int32) (h1 : 1 ≤ ch) (h6 : ch ≤ 6) (hm : m.length % ch = 0) (hl2 : m.length ≤ 4000) : Lm (ch : Int) m = some 0 := by
 rw [Lm, if_neg (by simp [Af, Ax]; omega), if_neg (by rw [Ax, Ac]; simp; omega), Dj (by rw [Ah]; simp; omega), Aa, if_neg]
 rw [Ax, Kf, Ac, ← Int.ofNat_tmod, hm]; simp
theorem Au1 (ch : Nat) (m : List Int32) (h1 : 1 ≤ ch) (h6 : ch ≤ 6) (hm : m.length % ch = 0) (hl2 : m.length ≤ 4000) : ∀ (j at' q : Nat), at' % ch = 0 → at' ≤ m.length → m.length - at' ≤ j → j < q →
  Iw (ch : Int) m q (at' : Int) ((unm ch m).take at') = some (unm ch m, 0)
 | j, at', q + 1, ha, hle, hj, hq => by
  have hlen := Aqc ch m
  rw [Iw, Wi]
  by_cases h : at' < m.length
  ·have hb := Bf3 ha hm h
   have e4 : Ae (at' : Int) (ch : Int) = ((at' + ch : Nat) : Int) := by rw [Ag (by omega) (by omega)]; omega
   have hrest := Au1 ch m h1 h6 hm hl2 (j - 1) (at' + ch) q (by rw [Nat.add_mod_right, ha]) hb (by omega) (by omega)
   have hseg : ((m.take (at' + ch)).drop at').length = ch := by simp; omega
   have htl : ((unm ch m).take at').length = at' := by simp [hlen]; omega
   rw [if_pos (by rw [Af, Ac]; simp; omega), e4, Ps (by omega) (by omega) (by omega), Aa, show ((at' + ch : Nat) : Int).toNat = at' + ch from rfl, show (at' : Int).toNat = at' from rfl, Biq _ ch h1 h6 hseg, Aa, Gt (by rw [htl, Alb]; omega), Aa]
   have e : (unm ch m).take at' ++ Aul (fun i => ((m.take (at' + ch)).drop at').getD i 0) ch = (unm ch m).take (at' + ch) := by
    apply List.ext_getElem (by rw [List.length_append, htl, Alb, List.length_take, hlen]; omega)
    intro k k1 k2
    rw [List.length_take, hlen] at k2
    rw [List.getElem_append, List.getElem_take]
    by_cases hk : k < at'
    ·rw [dif_pos (by rw [htl]; exact hk), List.getElem_take]
    ·rw [dif_neg (by rw [htl]; exact hk)]
     have hu := Av7 (m := m) ha (show k - at' < ch by omega) (by omega)
     rw [show at' + (k - at') = k by omega, Lw (by omega)] at hu
     have hx : ∀ n, n ≤ ch → unV (fun i => ((m.take (at' + ch)).drop at').getD i 0) ch n = unV (fun i => m.getD (at' + i) 0) ch n := by
      have hf : ∀ i, i < ch → ((m.take (at' + ch)).drop at').getD i 0 = m.getD (at' + i) 0 := by
       intro i hi
       rw [Lw (by omega), Lw (by omega)]; simp
      intro n
      induction n with
      | zero =>
       intro _; rw [unV, unV, hf _ (by omega)]; split
       ·rw [hf _ (by omega)]
       ·rfl
      | succ n ih => intro hn; rw [unV, unV, ih (by omega), hf _ (by omega)]
     have hy := Atf (fun i => ((m.take (at' + ch)).drop at').getD i 0) (show k - at' < ch by omega)
     rw [Lw (by rw [Alb]; omega)] at hy
     rw [hu, ← hx _ (by omega), ← hy]
     congr 1
     rw [htl]
   rw [e]
   exact hrest
  ·rw [if_neg (by rw [Af, Ac]; simp; omega), List.take_of_length_le (by omega)]; rfl
theorem Blj (ch : Nat) (m : List Int32) (h1 : 1 ≤ ch) (h6 : ch ≤ 6) (hm : m.length % ch = 0) (hl2 : m.length ≤ 4000) : Ux (ch : Int) m = some (unm ch m, 0) := by
 have h := Au1 ch m h1 h6 hm hl2 m.length 0 Az (by simp) (by omega) (by omega) (by have := Am; omega)
 rw [Ux, Wl, Br1 ch m h1 h6 hm hl2, Aa, if_neg (by rw [Ah]; simp)]
 exact h
end Go.Pl
set_option linter.unusedVariables false
set_option linter.unusedSimpArgs false
namespace Go.Pl
open Go Go.Lv
def pre {α : Type} (ch c : Nat) (f : α → Nat → α) (a0 : α) : Nat → α
 | 0 => a0
 | m + 1 => if m % ch = c then f (pre ch c f a0 m) m else pre ch c f a0 m
theorem Bkv {α : Type} (ch c : Nat) (f : α → Nat → α) (a0 : α) : ∀ m, m ≤ c → c < ch → pre ch c f a0 m = a0
 | 0, _, _ => rfl
 | m + 1, h, h2 => by rw [pre, if_neg (by rw [Nat.mod_eq_of_lt (by omega)]; omega), Bkv ch c f a0 m (by omega) h2]
theorem Bfv {α : Type} (ch c i : Nat) (f : α → Nat → α) (a0 : α) (hi : i % ch = c) (hc : c < ch) : ∀ j, j < ch → pre ch c f a0 (i + 1 + j) = pre ch c f a0 (i + 1)
 | 0, _ => rfl
 | j + 1, h => by
  have hne : (i + 1 + j) % ch ≠ c := by
   intro e
   have h1 : (i + (1 + j)) % ch = i % ch := by rw [hi, ← e]; congr 1; omega
   have h2 : (1 + j) % ch = 0 := by
    have h3 := Nat.sub_mod_eq_zero_of_mod_eq h1
    rwa [Nat.add_sub_cancel_left] at h3
   rw [Nat.mod_eq_of_lt (by omega)] at h2; omega
  rw [show i + 1 + (j + 1) = (i + 1 + j) + 1 by omega, pre, if_neg hne, Bfv ch c i f a0 hi hc j (by omega)]
theorem Bny {α : Type} (ch c i : Nat) (f : α → Nat → α) (a0 : α) (hi : i % ch = c) (hc : c < ch) : pre ch c f a0 (i + ch) = f (pre ch c f a0 i) i := by
 have h := Bfv ch c i f a0 hi hc (ch - 1) (by omega)
 rw [show i + 1 + (ch - 1) = i + ch by omega] at h
 rw [h, pre, if_pos hi]
abbrev CS := Int32 × List Int32 × List Int32
def Boj (bits : Int) (s : CS) (y : Int32) : Int32 := y + gF (sB bits) s.2.1 s.2.2 + gs (shB bits) s.1
def Bkk (bits : Int) (s : CS) (y : Int32) : CS := (Boj bits s y, lrn s.2.1 s.2.2 y, (y + gF (sB bits) s.2.1 s.2.2) :: s.2.2.take 15)
def cst (bits : Int) (ch : Nat) (t : List Int32) (v : List UInt32) (c : Nat) : Nat → CS := pre ch c (fun s i => Bkk bits s (Anp (v.getD i 0))) (0, t, List.replicate 16 0)
def OkC (bits : Int) (s : CS) : Prop := OkF (sB bits) s.2.1 s.2.2
theorem Bii (bits : Int) (ch : Nat) {t : List Int32} (ht : t.length = 16) (v : List UInt32) (c : Nat) : ∀ m, OkC bits (cst bits ch t v c m)
 | 0 => ⟨Bva bits, ht, by simp [cst, pre]⟩
 | m + 1 => by
  have ih := Bii bits ch ht v c m
  rw [cst, pre]
  split
  ·exact Bpz ih _ _
  ·exact ih
def smp (bits : Int) (ch : Nat) (t : List Int32) (v : List UInt32) : List Int32 := (List.range v.length).map fun i => Boj bits (cst bits ch t v (i % ch) i) (Anp (v.getD i 0))
theorem Ap5 (bits : Int) (ch : Nat) (t : List Int32) (v : List UInt32) : (smp bits ch t v).length = v.length := by simp [smp]
theorem Bko (bits : Int) (ch : Nat) (t : List Int32) (v : List UInt32) {i : Nat} (h : i < v.length) : (smp bits ch t v).getD i 0 = Boj bits (cst bits ch t v (i % ch) i) (Anp (v.getD i 0)) := by
 rw [Lw (by rw [Ap5]; exact h)]; simp [smp]
abbrev CL := Int × Int32 × (Int × (List Int32) × (List Int32) × Unit) × Unit
def toC (bits : Int) (s : CS) : CL := (bits, s.1, (sB bits, s.2.1, s.2.2, ()), ())
def cts (bits : Int) (ch : Nat) (t : List Int32) (v : List UInt32) (i : Nat) : List CL := (List.range 6).map fun c => toC bits (cst bits ch t v c i)
theorem Bsg {bits : Int} {ch : Nat} {t : List Int32} {v : List UInt32} {i c : Nat} (h : c < 6) : getI (cts bits ch t v i) (c : Int) = some (toC bits (cst bits ch t v c i)) := by
 rw [Cp (by simp [cts]; exact h)]; simp [cts]
theorem Bf4 (bits : Int) (ch : Nat) (t : List Int32) (v : List UInt32) (c m : Nat) : cst bits ch t v c (m + 1) = if m % ch = c then Bkk bits (cst bits ch t v c m) (Anp (v.getD m 0)) else cst bits ch t v c m := rfl
theorem Bqm {bits : Int} {ch : Nat} {t : List Int32} {v : List UInt32} {i c : Nat} (h : c < 6) (hc : i % ch = c) : Qv (cts bits ch t v i) (c : Int) (toC bits (Bkk bits (cst bits ch t v c i) (Anp (v.getD i 0)))) = some (cts bits ch t v (i + 1)) := by
 rw [Xr _ (by simp [cts]; exact h)]
 congr 1
 apply List.ext_getElem (by simp [cts])
 intro k h1 h2
 rw [List.getElem_set]
 simp only [cts, List.getElem_map, List.getElem_range]
 by_cases hk : c = k
 ·subst hk; rw [if_pos rfl, Bf4, if_pos hc]
 ·rw [if_neg hk, Bf4, if_neg (by omega)]
section
variable {bits : Int} {ch : Nat} {t : List Int32} {v : List UInt32}
theorem Be0 (hb : Dp bits) (ht : t.length = 16) (h1 : 1 ≤ ch) (h6 : ch ≤ 6) (hv : v.length ≤ 4000) : ∀ (j i q : Nat), i + j = v.length → j < q →
  Hk v (ch : Int) bits q (i : Int) (cts bits ch t v i) ((smp bits ch t v).take i) = Jy (ch : Int) bits (smp bits ch t v)
 | 0, i, q + 1, hi, _ => by
  rw [Hk, Jz, if_neg (by rw [Af, Ac]; simp; omega), List.take_of_length_le (by rw [Ap5]; omega)]
 | j + 1, i, q + 1, hi, hq => by
  have hlen := Ap5 bits ch t v
  have hc : i % ch < 6 := Nat.lt_of_lt_of_le (Nat.mod_lt _ (by omega)) h6
  have hok := Bii bits ch ht v (i % ch) i
  have hs := Bqm (bits := bits) (ch := ch) (t := t) (v := v) (i := i) hc rfl
  have hx := Bko bits ch t v (i := i) (by omega)
  have hcb := Bmj hb hok (cst bits ch t v (i % ch) i).1 (Anp (v.getD i 0))
  have ih := Be0 hb ht h1 h6 hv j (i + 1) q (by omega) (by omega)
  rw [Akz (by omega), ← Lw (by omega), hx] at ih
  rw [Hk, Jz, if_pos (by rw [Af, Ac]; simp; omega), Ay2 (by omega), Aa, Dj (by rw [Ah]; simp; omega), Aa, Azk, Bsg hc, Aa, Aa, Bm9, Aa]
  refine Eq.trans (congrArg (fun o => Option.bind o _) hcb) ?_
  rw [Aa]
  simp only
  rw [Xn, Agg, if_neg (by rw [Ah]; simp), Azk]
  refine Eq.trans (congrArg (fun o => Option.bind o _) hs) ?_
  rw [Aa, Gt (by simp; omega), Aa, Ag (by omega) (by omega)]
  exact ih
theorem Bmw (hb : Dp bits) (ht : t.length = 16) (h1 : 1 ≤ ch) (h6 : ch ≤ 6) (hv : v.length ≤ 4000) : Sy (ch : Int) bits t v = Jy (ch : Int) bits (smp bits ch t v) := by
 have h := Be0 hb ht h1 h6 hv v.length 0 Az (by omega) (by have := Am; omega)
 have e : Az = (Az - 7) + 1 + 1 + 1 + 1 + 1 + 1 + 1 := by have := Am; omega
 have hs : Pe v (ch : Int) bits t 0 (List.replicate 6 ((0 : Int), (0 : Int32), ((0 : Int), (List.replicate 16 (0 : Int32)), (List.replicate 16 (0 : Int32)), ()), ())) = Xq v (ch : Int) bits (cts bits ch t v 0) := by
  rw [Pe, e]
  obtain rfl | rfl | rfl := hb <;> rfl
 rw [Sy, Zr, hs]
 exact h
theorem Bar (bk : Int → List Int32 → Option (List Int32)) (hb : Dp bits) (ht : t.length = 16) (h1 : 1 ≤ ch) (h6 : ch ≤ 6) (hv : v.length ≤ 4000) (z : List Int32) (c : Nat) (hc : c < ch) : ∀ (j i q : Nat), i % ch = c → v.length - i ≤ j → i ≤ 5000 → j < q →
  Gm bk v (ch : Int) bits t (c : Int) q (i : Int) (sel (fun k => decide (k % ch < c ∨ (k % ch = c ∧ k < i))) (smp bits ch t v) z) bits (cst bits ch t v c i).1 (sB bits) (cst bits ch t v c i).2.1 (cst bits ch t v c i).2.2 =
   bk ((c + 1 : Nat) : Int) (sel (fun k => decide (k % ch < c + 1)) (smp bits ch t v) z)
 | j, i, q + 1, hi, hj, hi5, hq => by
  have hlen := Ap5 bits ch t v
  rw [Gm, Je]
  by_cases h : i < v.length
  ·have hok := Bii bits ch ht v c i
   have hst := Bk2 hb hok (cst bits ch t v c i).1 (Anp (v.getD i 0))
   have hx := Bko bits ch t v (i := i) h
   rw [hi] at hx
   have ih := Bar bk hb ht h1 h6 hv z c hc (j - 1) (i + ch) q (by rw [Nat.add_mod_right]; exact hi) (by omega) (by omega) (by omega)
   have hstep : cst bits ch t v c (i + ch) = Bkk bits (cst bits ch t v c i) (Anp (v.getD i 0)) := Bny ch c i _ _ hi hc
   rw [hstep] at ih
   have hset := Asc (p := fun k => decide (k % ch < c ∨ (k % ch = c ∧ k < i))) (a := smp bits ch t v) (b := z) (k := i) (by omega)
   rw [hx] at hset
   have hcong : sel (fun j => decide (j % ch < c ∨ (j % ch = c ∧ j < i)) || decide (j = i)) (smp bits ch t v) z = sel (fun k => decide (k % ch < c ∨ (k % ch = c ∧ k < i + ch))) (smp bits ch t v) z := by
    apply Aad
    intro k _
    rw [Bool.eq_iff_iff]
    simp only [Bool.or_eq_true, decide_eq_true_eq]
    constructor
    ·rintro ((h1 | h1) | h1)
     ·exact .inl h1
     ·exact .inr ⟨h1.1, by omega⟩
     ·subst h1; exact .inr ⟨hi, by omega⟩
    ·rintro (h1 | ⟨h1, h2⟩)
     ·exact .inl (.inl h1)
     ·by_cases h3 : k < i
      ·exact .inl (.inr ⟨h1, h3⟩)
      ·refine .inr ?_
       have h4 : (i + (k - i)) % ch = i % ch := by rw [show i + (k - i) = k by omega, h1, hi]
       have h5 := Nat.sub_mod_eq_zero_of_mod_eq h4
       rw [Nat.add_sub_cancel_left, Nat.mod_eq_of_lt (by omega)] at h5
       omega
   rw [hcong] at hset
   rw [if_pos (by rw [Af, Ac]; simp; omega), Ay2 h, Aa, Br2, Aa]
   refine Eq.trans (congrArg (fun o => Option.bind o _) hst) ?_
   rw [Aa]
   simp only
   rw [Qi, Qn, Ajn (by omega), Aa]
   refine Eq.trans (congrArg (fun o => Option.bind o _) hset) ?_
   rw [Aa, Qb, Zv, Ag (by omega) (by omega)]
   exact ih
  ·rw [if_neg (by rw [Af, Ac]; simp; omega), Qc, Aag, Ag (by omega) (by omega)]
   have hcong : sel (fun k => decide (k % ch < c ∨ (k % ch = c ∧ k < i))) (smp bits ch t v) z = sel (fun k => decide (k % ch < c + 1)) (smp bits ch t v) z := by
    apply Aad
    intro k hk
    rw [Bool.eq_iff_iff]
    simp only [decide_eq_true_eq]
    omega
   rw [hcong]; rfl
theorem Bak (hb : Dp bits) (ht : t.length = 16) (h1 : 1 ≤ ch) (h6 : ch ≤ 6) (hv : v.length ≤ 4000) (z : List Int32) : ∀ (j c q : Nat), c + j = ch → j < q →
  Du v (ch : Int) bits t q (c : Int) (sel (fun k => decide (k % ch < c)) (smp bits ch t v) z) = Ji (ch : Int) bits (smp bits ch t v)
 | 0, c, q + 1, hc, _ => by
  rw [Du, Jf, if_neg (by rw [Af]; simp; omega), Ath (fun k hk => by have := Nat.mod_lt k (show 0 < ch by omega); simp; omega)]
 | j + 1, c, q + 1, hc, hq => by
  have ih := Bak hb ht h1 h6 hv z j (c + 1) q (by omega) (by omega)
  have hin := Bar (Du v (ch : Int) bits t q) hb ht h1 h6 hv z c (by omega) v.length c Az (Nat.mod_eq_of_lt (by omega)) (by omega) (by omega) (by have := Am; omega)
  have h0 : cst bits ch t v c c = (0, t, List.replicate 16 0) := Bkv ch c _ _ c (Nat.le_refl _) (by omega)
  rw [h0] at hin
  have hcong : sel (fun k => decide (k % ch < c ∨ (k % ch = c ∧ k < c))) (smp bits ch t v) z = sel (fun k => decide (k % ch < c)) (smp bits ch t v) z := by
   apply Aad
   intro k hk
   have := Nat.mod_le k ch
   rw [Bool.eq_iff_iff]
   simp only [decide_eq_true_eq]
   omega
  rw [hcong] at hin
  rw [Du, Jf, if_pos (by rw [Af]; simp; omega), Buz hb, Aa]
  simp only
  rw [Pr]
  exact Eq.trans hin ih
theorem Bl6 (hb : Dp bits) (ht : t.length = 16) (h1 : 1 ≤ ch) (h6 : ch ≤ 6) (hv : v.length ≤ 4000) (hm : v.length % ch = 0) : Db (ch : Int) bits t v = some (unm ch (smp bits ch t v)) := by
 have hlen := Ap5 bits ch t v
 have h := Bak hb ht h1 h6 hv (List.replicate v.length 0) ch 0 Az (by omega) (by have := Am; omega)
 rw [Asp (by rw [hlen]; simp) (fun k _ => by simp)] at h
 rw [Db, Ro, Ac, Aw5 (by omega) (by omega), Aa, Dj (by rw [Bg]; simp), Aa, Px]
 refine Eq.trans h ?_
 rw [Ji, Aam, Blj ch _ h1 h6 (by rw [hlen]; exact hm) (by omega), Aa]
end
def hB (bits : Int) : Int := if bits = 8 then 128 else if bits = 16 then 32768 else 8388608
theorem Bot {bits : Int} (h : Dp bits) : Aem bits = some (Int32.ofInt (-(hB bits)), Int32.ofInt (hB bits - 1), 0) := by
 obtain rfl | rfl | rfl := h <;> decide
theorem Bbh {bits : Int} (h : Dp bits) : Ng bits = some (hB bits) := by
 obtain rfl | rfl | rfl := h <;> rfl
theorem Axo (bits : Int) : 0 < hB bits ∧ hB bits ≤ 8388608 := by
 unfold hB; split; · omega
 ·split <;> omega
theorem Axu {bits : Int} (h : Dp bits) (l : List Int32) (hl : l.length ≤ 4000) : ∀ (j i q : Nat), i + j = l.length → j < q →
  Pu (Int32.ofInt (-(hB bits))) (Int32.ofInt (hB bits - 1)) l q (i : Int) = Br l (hB bits) q (i : Int)
 | 0, i, q + 1, hi, _ => by
  rw [Pu, Abj, Br, Ei, if_neg (by rw [Af, Ac]; simp; omega), if_neg (by rw [Af, Ac]; simp; omega)]; rfl
 | j + 1, i, q + 1, hi, hq => by
  have hh := Axo bits
  have ih := Axu h l hl j (i + 1) q (by omega) (by omega)
  have e1 : (Int32.ofInt (-(hB bits))).toInt = -(hB bits) := by rw [Int32.toInt_ofInt, Int.bmod_eq_of_le (by show -(4294967296 / 2 : Int) ≤ _; omega) (by show _ < (4294967296 + 1) / 2; omega)]
  have e2 : (Int32.ofInt (hB bits - 1)).toInt = hB bits - 1 := by rw [Int32.toInt_ofInt, Int.bmod_eq_of_le (by show -(4294967296 / 2 : Int) ≤ _; omega) (by show _ < (4294967296 + 1) / 2; omega)]
  rw [Pu, Abj, Br, Ei, if_pos (by rw [Af, Ac]; simp; omega), if_pos (by rw [Af, Ac]; simp; omega), g32 (by omega), Aa, Aa, Aa, Em, Bie, Cc (by omega) (by omega), Ag (by omega) (by omega), Bc4, Bia, e1, e2, Af, Dv]
  generalize (l.getD i 0).toInt = X
  by_cases h1 : X < -(hB bits)
  ·rw [if_pos (by simp; omega), if_pos (by simp; omega)]
  ·rw [if_neg (c := decide (X < 0 - hB bits) = true) (by simp; omega)]
   by_cases h2 : hB bits ≤ X
   ·rw [if_pos (by simp; omega), if_pos (by simp; omega)]
   ·rw [if_neg (by simp; omega), if_neg (by simp; omega)]; exact ih
theorem Azn {bits : Int} (h : Dp bits) (l : List Int32) (hl : l.length ≤ 4000) : Ae3 bits l = cadenzaref18_Check bits l := by
 have hh := Axo bits
 rw [Ae3, Ahu, Bot h, Aa, cadenzaref18_Check, Hz, Bbh h, Aa]
 simp only
 rw [if_neg (by rw [Ah]; simp), if_neg (by rw [Ax, Ac]; simp; omega), if_neg (by rw [Bg]; simp; omega), if_neg (by rw [Ax, Ac]; simp; omega)]
 exact Axu h l hl l.length 0 Az (by omega) (by have := Am; omega)
theorem Bhi {bits : Int} (h : Dp bits) (l : List Int32) (hl : l.length ≤ 4000) : ∃ e, cadenzaref18_Check bits l = some e := by
 have hh := Axo bits
 have key : ∀ (j i q : Nat), i + j = l.length → j < q → ∃ e, Br l (hB bits) q (i : Int) = some e := by
  intro j
  induction j with
  | zero =>
   intro i q hi hq
   obtain ⟨q, rfl⟩ : ∃ k, q = k + 1 := ⟨q - 1, by omega⟩
   rw [Br, Ei, if_neg (by rw [Af, Ac]; simp; omega)]
   exact ⟨_, rfl⟩
  | succ j ih =>
   intro i q hi hq
   obtain ⟨q, rfl⟩ : ∃ k, q = k + 1 := ⟨q - 1, by omega⟩
   rw [Br, Ei, if_pos (by rw [Af, Ac]; simp; omega), g32 (by omega), Aa, Aa, Ag (by omega) (by omega)]
   split
   ·exact ⟨_, rfl⟩
   ·split
    ·exact ⟨_, rfl⟩
    ·exact ih (i + 1) q (by omega) (by omega)
 obtain ⟨e, he⟩ := key l.length 0 Az (by omega) (by have := Am; omega)
 rw [cadenzaref18_Check, Hz, Bbh h, Aa, if_neg (by rw [Bg]; simp; omega), if_neg (by rw [Ax, Ac]; simp; omega)]
 exact ⟨e, he⟩
theorem Bdc {bits : Int} {ch : Nat} {t : List Int32} {v : List UInt32} (hb : Dp bits) (ht : t.length = 16) (h1 : 1 ≤ ch) (h6 : ch ≤ 6) (hv : v.length ≤ 4000) (hm : v.length % ch = 0) :
  ∃ l e, Db (ch : Int) bits t v = some l ∧ Dt (ch : Int) bits l = some (if e ≠ 0 then ([], e) else (l, 0)) ∧ Sy (ch : Int) bits t v = some (if e ≠ 0 then ([], e) else (l, 0)) ∧ cadenzaref18_Check bits l = some e ∧ l.length = v.length := by
 have hlen := Ap5 bits ch t v
 have hul := Aqc ch (smp bits ch t v)
 obtain ⟨e, he⟩ := Bhi hb (unm ch (smp bits ch t v)) (by omega)
 refine ⟨unm ch (smp bits ch t v), e, Bl6 hb ht h1 h6 hv hm, ?_, ?_, he, by omega⟩
 ·rw [Dt, he, Aa]
  by_cases h : e = 0
  ·rw [if_neg (by rw [Ah]; simpa using h), if_neg (by simpa using h)]
  ·rw [if_pos (by rw [Ah]; simpa using h), if_pos h]
 ·rw [Bmw hb ht h1 h6 hv, Jy, Agj, Brt ch _ h1 h6 (by rw [hlen]; exact hm) (by omega), Aa]
  simp only
  rw [if_neg (by rw [Ah]; simp), Azn hb _ (by omega), he, Aa]
  by_cases h : e = 0
  ·rw [if_neg (by rw [Ah]; simpa using h), if_neg (by simpa using h)]
  ·rw [if_pos (by rw [Ah]; simpa using h), if_pos h]
end Go.Pl
set_option linter.unusedVariables false
set_option linter.unusedSimpArgs false
namespace Go.Pl
open Go Go.Lv
def Ao7 (s : Nat) : Nat := (s / 2) ^^^ (if s % 2 = 1 then 3988292384 else 0)
theorem Ax3 {s : Nat} (h : s < 4294967296) : Ao7 s < 4294967296 := by
 unfold Ao7
 exact Nat.xor_lt_two_pow (n := 32) (by simp; omega) (by split <;> decide)
theorem Bgh (x y : Nat) : (x ^^^ y) / 2 = (x / 2) ^^^ (y / 2) := by
 have := Nat.shiftRight_xor_distrib (a := x) (b := y) (i := 1)
 simpa [Nat.shiftRight_eq_div_pow] using this
theorem Bmo (x y : Nat) : Ao7 (x ^^^ y) = Ao7 x ^^^ Ao7 y := by
 have h : (x ^^^ y) % 2 = (x % 2 + y % 2) % 2 := by
  have := Nat.xor_mod_two_eq_one (a := x) (b := y)
  have h1 : (x ^^^ y) % 2 < 2 := Nat.mod_lt _ (by omega)
  omega
 simp only [Ao7, Bgh, h]
 have hx : x % 2 = 0 ∨ x % 2 = 1 := by omega
 have hy : y % 2 = 0 ∨ y % 2 = 1 := by omega
 rcases hx with hx | hx <;> rcases hy with hy | hy <;> simp only [hx, hy] <;> simp
 ·rw [Nat.xor_assoc]
 ·rw [Nat.xor_assoc, Nat.xor_comm (y / 2), Nat.xor_assoc, Nat.xor_comm 3988292384 (y/2)]
 ·rw [Nat.xor_assoc, Nat.xor_comm 3988292384, Nat.xor_assoc, Nat.xor_self]; simp
def Xk : Nat → Nat → Nat
 | 0, s => s
 | k + 1, s => Xk k (Ao7 s)
theorem Bam : ∀ (k x y : Nat), Xk k (x ^^^ y) = Xk k x ^^^ Xk k y
 | 0, _, _ => rfl
 | k + 1, x, y => by rw [Xk, Bmo, Bam k]; rfl
theorem Bb6 : ∀ (k h : Nat), Xk k (2 ^ k * h) = h
 | 0, h => by simp [Xk]
 | k + 1, h => by
  have : Ao7 (2 ^ (k + 1) * h) = 2 ^ k * h := by
   rw [Nat.pow_succ, Nat.mul_comm (2 ^ k) 2, Nat.mul_assoc, Ao7, if_neg (by omega), Nat.mul_div_cancel_left _ (by omega)]; simp
  rw [Xk, this, Bb6 k]
theorem Axq : ∀ (k : Nat) {s : Nat}, s < 4294967296 → Xk k s < 4294967296
 | 0, _, h => h
 | k + 1, _, h => Axq k (Ax3 h)
def Avq (s c : Nat) : Nat := Xk 8 (s ^^^ c)
theorem Aw0 {s c : Nat} (h : s < 4294967296) (hc : c < 256) : Avq s c < 4294967296 := Axq 8 (Nat.xor_lt_two_pow (n := 32) (by simpa using h) (by simp; omega))
theorem Beo {s c : Nat} (hc : c < 256) : Avq s c = (s / 256) ^^^ Xk 8 ((s % 256) ^^^ c) := by
 have h : s = (2 ^ 8 * (s / 256)) ^^^ (s % 256) := by
  have h1 : s % 256 < 2 ^ 8 := by simpa using Nat.mod_lt s (by omega : 256 > 0)
  have := Nat.two_pow_add_eq_or_of_lt h1 (s / 256)
  have h2 : 2 ^ 8 * (s / 256) ||| s % 256 = (2 ^ 8 * (s / 256)) ^^^ (s % 256) := by
   apply Nat.eq_of_testBit_eq; intro i
   rw [Nat.testBit_or, Nat.testBit_xor]
   by_cases hi : i < 8
   ·have : (2 ^ 8 * (s / 256)).testBit i = false := by rw [Nat.testBit_two_pow_mul]; simp; omega
    rw [this]; simp
   ·have : (s % 256).testBit i = false := Nat.testBit_lt_two_pow (Nat.lt_of_lt_of_le h1 (Nat.pow_le_pow_right (by omega) (by omega)))
    rw [this]; simp
  omega
 rw [Avq]
 conv => lhs; rw [h]
 rw [Nat.xor_assoc, Bam, Bb6]
def Blv (s : Nat) (l : List UInt8) : Nat := l.foldl (fun s c => Avq s c.toNat) s
def Hf (b : List UInt8) : UInt32 := 4294967295 - UInt32.ofNat (Blv 4294967295 b)
theorem Br3 (s : UInt32) (c : Nat) (hc : c < 256) : Uu s (Ad (Aaq (UInt8.ofNat c) (2 : UInt8)) : Int) = some (UInt32.ofNat (s.toNat / 2 ^^^ (if (s.toNat ^^^ c) % 2 = 1 then 3988292384 else 0))) := by
 have h1 : (Ad (Aaq (UInt8.ofNat c) (2 : UInt8)) : Int) = ((c % 2 : Nat) : Int) := by
  rw [Ag7, Bql, UInt8.toNat_mod, UInt8.toNat_ofNat']
  show ((c % 256 % 2 : Nat) : Int) = _
  omega
 have h2 : geq (Aaq s (2 : UInt32)) (1 : UInt32) = decide (s.toNat % 2 = 1) := by
  rw [Bdk, Bfa, Bool.eq_iff_iff]
  simp only [beq_iff_eq, decide_eq_true_eq]
  rw [← UInt32.toNat_inj, UInt32.toNat_mod]; rfl
 have h3 : Df s (2 : UInt32) = UInt32.ofNat (s.toNat / 2) := by
  apply UInt32.toNat_inj.1
  rw [Be9, UInt32.toNat_div, UInt32.toNat_ofNat']
  show s.toNat / 2 = _
  have := s.toNat_lt
  omega
 have h4 : Yh (Df s (2 : UInt32)) (3988292384 : UInt32) = UInt32.ofNat (s.toNat / 2 ^^^ 3988292384) := by
  apply UInt32.toNat_inj.1
  rw [h3, Ast, UInt32.toNat_xor, UInt32.toNat_ofNat', UInt32.toNat_ofNat']
  have := s.toNat_lt
  rw [Nat.mod_eq_of_lt (a := s.toNat / 2) (by omega), Nat.mod_eq_of_lt]
  ·rfl
  ·exact Nat.xor_lt_two_pow (n := 32) (by omega) (by decide)
 have hx : (s.toNat ^^^ c) % 2 = (s.toNat % 2 + c % 2) % 2 := by
  have := Nat.xor_mod_two_eq_one (a := s.toNat) (b := c)
  have h1 : (s.toNat ^^^ c) % 2 < 2 := Nat.mod_lt _ (by omega)
  omega
 have hs : s.toNat % 2 = 0 ∨ s.toNat % 2 = 1 := by omega
 have hc2 : c % 2 = 0 ∨ c % 2 = 1 := by omega
 rw [Uu, Vi, h1, h2, hx]
 rcases hs with hs | hs <;> rcases hc2 with hc2 | hc2 <;> simp [hs, hc2, Bg, Wj, Aew, Ast, h3]
theorem Avf : ∀ (j i q : Nat) (s : UInt32) (c : Nat), i + j = 8 → j < q → c < 2 ^ j → Gs q s (UInt8.ofNat c) (i : Int) = some (UInt32.ofNat (Xk j (s.toNat ^^^ c)))
 | 0, i, q + 1, s, c, hi, _, hc => by
  obtain rfl : i = 8 := by omega
  obtain rfl : c = 0 := by simpa using hc
  rw [Gs, Nx, if_neg (by rw [Af]; simp), Vs, Aet, Xk]
  simp
 | j + 1, i, q + 1, s, c, hi, hq, hc => by
  have hc8 : c < 256 := Nat.lt_of_lt_of_le hc (show 2 ^ (j + 1) ≤ 2 ^ 8 from Nat.pow_le_pow_right (by omega) (by omega))
  rw [Gs, Nx, if_pos (by rw [Af]; simp; omega), Br3 s c hc8, Aa, Ag (by omega) (by omega)]
  have e : Df (UInt8.ofNat c) (2 : UInt8) = UInt8.ofNat (c / 2) := by
   apply UInt8.toNat_inj.1
   rw [Brw, UInt8.toNat_div, UInt8.toNat_ofNat', UInt8.toNat_ofNat']
   show c % 256 / 2 = _
   omega
  rw [e]
  have h := Avf j (i + 1) q (UInt32.ofNat (s.toNat / 2 ^^^ (if (s.toNat ^^^ c) % 2 = 1 then 3988292384 else 0))) (c / 2) (by omega) (by omega) (by rw [Nat.pow_succ] at hc; omega)
  rw [show ((i : Int) + 1) = ((i + 1 : Nat) : Int) by omega, h, UInt32.toNat_ofNat', Xk]
  congr 3
  have := s.toNat_lt
  rw [Nat.mod_eq_of_lt, Ao7, Bgh, Nat.xor_assoc, Nat.xor_assoc, Nat.xor_comm (c / 2)]
  exact Nat.xor_lt_two_pow (n := 32) (by omega) (by split <;> decide)
theorem Bqg (s : UInt32) (c : UInt8) : Ab4 s c = some (UInt32.ofNat (Avq s.toNat c.toNat)) := by
 have h := Avf 8 0 Az s c.toNat (by omega) (by have := Am; omega) (by simpa using c.toNat_lt)
 rw [UInt8.ofNat_toNat] at h
 exact h
theorem Arb (b : List UInt8) (hb : b.length < 4611686018427387904) : ∀ (j i q : Nat) (s : UInt32), i + j = b.length → j < q → Fb b q s (i : Int) = some (UInt32.ofNat (Blv s.toNat (b.drop i)))
 | 0, i, q + 1, s, hi, _ => by
  rw [Fb, Ko, if_neg (by rw [Af, Ac]; simp; omega), show i = b.length by omega, List.drop_length]
  simp [Sf, Abc, Blv]
 | j + 1, i, q + 1, s, hi, hq => by
  have hlt : i < b.length := by omega
  rw [Fb, Ko, if_pos (by rw [Af, Ac]; simp; omega), Cp hlt, Aa, Bqg, Aa, Ag (by omega) (by omega)]
  have h := Arb b hb j (i + 1) q (UInt32.ofNat (Avq s.toNat b[i].toNat)) (by omega) (by omega)
  rw [show ((i : Int) + 1) = ((i + 1 : Nat) : Int) by omega, h, drop_cons hlt, UInt32.toNat_ofNat', Nat.mod_eq_of_lt (Aw0 s.toNat_lt b[i].toNat_lt)]
  rfl
theorem Bn1 (b : List UInt8) (hb : b.length < 4611686018427387904) : Mr b = some (Hf b) := by
 have h := Arb b hb b.length 0 Az 4294967295 (by omega) (by have := Am; omega)
 rw [Mr, Xt, Ra, Rw, show ((0 : Int)) = ((0 : Nat) : Int) from rfl, h, Aa, Bfh]; rfl
theorem Bro (c : UInt32) : Yh (Cy c (GI.toZ (1 : UInt64)).toNat) (Be (3988292384 : UInt32) (Il c (1 : UInt32))) = UInt32.ofNat (Ao7 c.toNat) := by
 apply UInt32.toNat_inj.1
 have e : (GI.toZ (1 : UInt64)).toNat = 1 := rfl
 have h1 : (Cy c 1).toNat = c.toNat / 2 := by rw [Aln]
 have h2 : (Be (3988292384 : UInt32) (Il c (1 : UInt32))).toNat = if c.toNat % 2 = 1 then 3988292384 else 0 := by
  rw [Bo7, Bf1, UInt32.toNat_mul, UInt32.toNat_and]
  show 3988292384 * (c.toNat &&& 1) % 4294967296 = _
  rw [Nat.and_one_is_mod]
  have : c.toNat % 2 = 0 ∨ c.toNat % 2 = 1 := by omega
  rcases this with h | h <;> simp [h]
 rw [e, Ast, UInt32.toNat_xor, h1, h2, UInt32.toNat_ofNat', Nat.mod_eq_of_lt (Ax3 c.toNat_lt)]; rfl
theorem Bex (bk16 : Int → List UInt32 → Option (UInt32 × Int)) (s : UInt32) (b : List UInt8) (x : Int) (t : List UInt32) : ∀ (j i q : Nat) (c : UInt32), i + j = 8 → j < q →
  Qr bk16 s b x t q c (i : Int) = Abe bk16 s b x (UInt32.ofNat (Xk j c.toNat)) t
 | 0, i, q + 1, c, hi, _ => by
  obtain rfl : i = 8 := by omega
  rw [Qr, Ab1, if_neg (by rw [Af]; simp), Xk, UInt32.ofNat_toNat]
 | j + 1, i, q + 1, c, hi, hq => by
  rw [Qr, Ab1, if_pos (by rw [Af]; simp; omega), Bro, Ag (by omega) (by omega), show ((i : Int) + 1) = ((i + 1 : Nat) : Int) by omega, Bex bk16 s b x t j (i + 1) q _ (by omega) (by omega), UInt32.toNat_ofNat', Nat.mod_eq_of_lt (Ax3 c.toNat_lt)]; rfl
def tbl (n : Nat) : List UInt32 := (List.range n).map fun i => UInt32.ofNat (Xk 8 i)
theorem Bjt (s : UInt32) (b : List UInt8) : ∀ (j i q : Nat), i + j = 256 → j < q → Lh s b q (i : Int) (tbl i ++ List.replicate j 0) = Aa8 s b (tbl 256)
 | 0, i, q + 1, hi, _ => by
  obtain rfl : i = 256 := by omega
  rw [Lh, Aaz, if_neg (by rw [Af]; simp)]; simp
 | j + 1, i, q + 1, hi, hq => by
  have hlen : (tbl i ++ List.replicate (j + 1) 0).length = i + (j + 1) := by simp [tbl]
  rw [Lh, Aaz, if_pos (by rw [Af]; simp; omega), Ahk]
  have h := Bex (Lh s b q) s b (i : Int) (tbl i ++ List.replicate (j + 1) 0) 8 0 Az (Ad (i : Int)) (by omega) (by have := Am; omega)
  rw [show ((0 : Int)) = ((0 : Nat) : Int) from rfl, h, Abe, Ah6, Cp (by rw [hlen]; omega), Aa, Xr _ (by rw [hlen]; omega), Aa, Ahs, Aof, Ag (by omega) (by omega)]
  have e : (Ad (i : Int) : UInt32).toNat = i := by rw [Baj, UInt32.toNat_ofNat', Nat.mod_eq_of_lt (by omega)]
  rw [e, List.replicate_succ, Ap3 (by simp [tbl])]
  have h2 := Bjt s b j (i + 1) q (by omega) (by omega)
  have h3 : tbl (i + 1) = tbl i ++ [UInt32.ofNat (Xk 8 i)] := by simp [tbl, List.range_succ]
  rw [h3] at h2
  rw [show ((i : Int) + 1) = ((i + 1 : Nat) : Int) by omega, ← h2]
  simp
theorem Br7 {i : Nat} (h : i < 256) : getI (tbl 256) (i : Int) = some (UInt32.ofNat (Xk 8 i)) := by
 rw [Cp (by simpa [tbl] using h)]; simp [tbl]
theorem Bm3 (s : UInt32) (c : UInt8) : getI (tbl 256) (GI.toZ (Yh (Ad s : UInt8) c)) = some (UInt32.ofNat (Xk 8 ((s.toNat % 256) ^^^ c.toNat))) := by
 have e : GI.toZ (Yh (Ad s : UInt8) c) = (((s.toNat % 256) ^^^ c.toNat : Nat) : Int) := by
  rw [Zf, Bji, UInt8.toNat_xor, Ar8, UInt8.toNat_ofNat']
 rw [e, Br7]
 exact Nat.xor_lt_two_pow (n := 8) (by simp; omega) (by simpa using c.toNat_lt)
theorem Bk0 (s : UInt32) (c : UInt8) : Yh (Cy s (GI.toZ (8 : UInt64)).toNat) (UInt32.ofNat (Xk 8 ((s.toNat % 256) ^^^ c.toNat))) = UInt32.ofNat (Avq s.toNat c.toNat) := by
 apply UInt32.toNat_inj.1
 have hlt : Xk 8 ((s.toNat % 256) ^^^ c.toNat) < 4294967296 := Axq 8 (Nat.xor_lt_two_pow (n := 32) (by simp; omega) (by have := c.toNat_lt; simp; omega))
 have e : (GI.toZ (8 : UInt64)).toNat = 8 := rfl
 rw [e, Ast, UInt32.toNat_xor, Aln, UInt32.toNat_ofNat', UInt32.toNat_ofNat', Nat.mod_eq_of_lt hlt, Nat.mod_eq_of_lt (Aw0 s.toNat_lt c.toNat_lt), Beo c.toNat_lt]
theorem Ben (b : List UInt8) (hb : b.length < 4611686018427387904) : ∀ (j i q : Nat) (s : UInt32), i + j = b.length → j < q → Qh b (tbl 256) q s (i : Int) = some (UInt32.ofNat (Blv s.toNat (b.drop i)), 0)
 | 0, i, q + 1, s, hi, _ => by
  rw [Qh, Abi, if_neg (by rw [Af, Ac]; simp; omega), show i = b.length by omega, List.drop_length]
  simp [Ah5, Apw, Blv]
 | j + 1, i, q + 1, s, hi, hq => by
  have hlt : i < b.length := by omega
  rw [Qh, Abi, if_pos (by rw [Af, Ac]; simp; omega), Cp hlt, Aa, Bm3, Aa, Aa, Bk0, Ag (by omega) (by omega)]
  have h := Ben b hb j (i + 1) q (UInt32.ofNat (Avq s.toNat b[i].toNat)) (by omega) (by omega)
  rw [show ((i : Int) + 1) = ((i + 1 : Nat) : Int) by omega, h, drop_cons hlt, UInt32.toNat_ofNat', Nat.mod_eq_of_lt (Aw0 s.toNat_lt b[i].toNat_lt)]
  rfl
theorem Bra (s : UInt32) (b : List UInt8) (hb : b.length ≤ 100000) : Amz s b = some (UInt32.ofNat (Blv s.toNat b), 0) := by
 have h := Bjt s b 256 0 Az (by omega) (by have := Am; omega)
 have h2 := Ben b (by omega) b.length 0 Az s (by omega) (by have := Am; omega)
 rw [Amz, Akg, if_neg (by rw [Ax, Ac]; simp; omega), Ai8]
 refine Eq.trans h ?_
 rw [Aa8, Aiq, Ah9, Ah4, Ail]
 exact h2
theorem Bog (a : UInt32) : Axc a = 4294967295 - a := by
 have h := a.toNat_lt
 have e : Axc a = UInt32.ofNat (BitVec.ofInt 32 4294967295 ^^^ BitVec.ofInt 32 (a.toNat : Int)).toNat := Eh _
 apply UInt32.toNat_inj.1
 rw [e, UInt32.toNat_ofNat', UInt32.toNat_sub_of_le _ _ (by rw [UInt32.le_iff_toNat_le]; show a.toNat ≤ 4294967295; omega)]
 have h1 : BitVec.ofInt 32 (a.toNat : Int) = a.toBitVec := Bc5 a
 have h2 : (BitVec.ofInt 32 4294967295 : BitVec 32) = BitVec.allOnes 32 := by decide
 rw [h1, h2, BitVec.allOnes_xor, BitVec.toNat_not]
 show (4294967296 - 1 - a.toNat) % 4294967296 = 4294967295 - a.toNat
 omega
theorem Bij (b : List UInt8) (hb : b.length ≤ 100000) : Ag8 b = some (Hf b, 0) := by
 rw [Ag8, Bra _ _ hb, Aa]
 simp only [Ah, Bog]
 rfl
end Go.Pl
set_option linter.unusedVariables false
set_option linter.unusedSimpArgs false
namespace Go.Pl
open Go Go.Lv
theorem Bj4 : ∀ {l m : List UInt8}, l.length = m.length → Ed l = Ed m → l = m
 | [], [], _, _ => rfl
 | x :: l, y :: m, h, e => by
  simp only [Ed] at e
  have hx := x.toNat_lt
  have hy := y.toNat_lt
  have h1 : x = y := UInt8.toNat_inj.1 (by omega)
  rw [h1, Bj4 (l := l) (m := m) (by simpa using h) (by omega)]
theorem Bdj : ∀ (w n : Nat), Ed (leB n w) = n % 256 ^ w
 | 0, n => by simp [leB, Ed, Nat.mod_one]
 | w + 1, n => by
  rw [leB, Ed, Bdj w (n / 256), UInt8.toNat_ofNat', show (256 : Nat) ^ (w + 1) = 256 * 256 ^ w by rw [Nat.pow_succ, Nat.mul_comm], Nat.mod_mul]
def Aan (b : List UInt8) : Int :=
 if b.length < 5 then 24 else if 41254 < b.length then 4 else if (Hf (b.take (b.length - 4))).toNat ≠ Ed (b.drop (b.length - 4)) then 22 else 0
theorem Bg0 (b : List UInt8) : Abs b = some (if Aan b ≠ 0 then ([], Aan b) else (b.take (b.length - 4), 0)) := by
 rw [Abs]
 by_cases h1 : b.length < 5
 ·have hS : Aan b = 24 := by rw [Aan, if_pos h1]
  rw [if_pos (by rw [Af, Ac]; simp; omega), hS]; rfl
 rw [if_neg (by rw [Af, Ac]; simp; omega)]
 by_cases h2 : 41254 < b.length
 ·have hS : Aan b = 4 := by rw [Aan, if_neg h1, if_pos h2]
  rw [if_pos (by rw [Ax, Ac]; simp; omega), hS]; rfl
 have e4 : Al (Ac b) 4 = ((b.length - 4 : Nat) : Int) := by rw [Ac, Bi (by omega) (by omega)]; omega
 have hd : (b.drop (b.length - 4)).length = 4 := by simp; omega
 rw [if_neg (by rw [Ax, Ac]; simp; omega), e4, Jo (by omega) (by omega), Aa, show ((b.length - 4 : Nat) : Int).toNat = b.length - 4 from rfl, Bij _ (by simp; omega), Aa]
 simp only
 rw [if_neg (by rw [Ah]; simp), Gi (by omega) (by omega), Aa, show ((b.length - 4 : Nat) : Int).toNat = b.length - 4 from rfl, Bei _ (by omega) (by omega), Aa]
 have hne : Ck (leU (b.drop (b.length - 4))) (Ad (Hf (b.take (b.length - 4))) : UInt64) = decide ((Hf (b.take (b.length - 4))).toNat ≠ Ed (b.drop (b.length - 4))) := by
  have hlt := (Hf (b.take (b.length - 4))).toNat_lt
  rw [Agz, Bool.eq_iff_iff]
  simp only [bne_iff_ne, ne_eq, ← UInt64.toNat_inj, decide_eq_true_eq]
  rw [Ajw (by omega), Hq, UInt64.toNat_ofNat', Nat.mod_eq_of_lt (by omega)]
  exact ⟨fun h e => h e.symm, fun h e => h e.symm⟩
 simp only
 rw [hne, Aa]
 by_cases h3 : (Hf (b.take (b.length - 4))).toNat ≠ Ed (b.drop (b.length - 4))
 ·have hS : Aan b = 22 := by rw [Aan, if_neg h1, if_neg h2, if_pos h3]
  rw [if_pos (by simp [h3]), hS]; rfl
 ·have hS : Aan b = 0 := by rw [Aan, if_neg h1, if_neg h2, if_neg h3]
  rw [if_neg (by rw [decide_eq_false h3]; decide), hS]; rfl
theorem Bmg (b : List UInt8) (hb : b.length ≤ 1000000) : Pb b = some (b ++ leB (Hf b).toNat 4) := by
 have h : ∀ k : Nat, (Ad (Cy (Hf b) k) : UInt8) = UInt8.ofNat ((Hf b).toNat / 2 ^ k) := by
  intro k; rw [Ar8, Aln]
 have h0 : (Ad (Hf b) : UInt8) = UInt8.ofNat (Hf b).toNat := Ar8 _
 have h1 := h 8
 have h2 := h 16
 have h3 := h 24
 rw [Pb, Bn1 b (by omega), Aa, Gt (by simp; omega), Aa, Gt (by simp; omega), Aa, h0, show (GI.toZ (8 : UInt64)).toNat = 8 from rfl, show (GI.toZ (16 : UInt64)).toNat = 16 from rfl, show (GI.toZ (24 : UInt64)).toNat = 24 from rfl, h1, h2, h3]
 simp only [leB, Nat.div_div_eq_div_mul, List.nil_append]
theorem Bh1 (b : List UInt8) : Jw b = some (Aan b) := by
 rw [Jw]
 by_cases h1 : b.length < 5
 ·rw [if_pos (by rw [Af, Ac]; simp; omega), Aan, if_pos h1]
 rw [if_neg (by rw [Af, Ac]; simp; omega)]
 by_cases h2 : 41254 < b.length
 ·rw [if_pos (by rw [Ax, Ac]; simp; omega), Aan, if_neg h1, if_pos h2]
 have e4 : Al (Ac b) 4 = ((b.length - 4 : Nat) : Int) := by rw [Ac, Bi (by omega) (by omega)]; omega
 have hd : (b.drop (b.length - 4)).length = 4 := by simp; omega
 rw [if_neg (by rw [Ax, Ac]; simp; omega), e4, Jo (by omega) (by omega), Aa, show ((b.length - 4 : Nat) : Int).toNat = b.length - 4 from rfl, Bmg _ (by simp; omega), Aa]
 have hlt := (Hf (b.take (b.length - 4))).toNat_lt
 have hiff : (b.take (b.length - 4) ++ leB (Hf (b.take (b.length - 4))).toNat 4 != b) = decide ((Hf (b.take (b.length - 4))).toNat ≠ Ed (b.drop (b.length - 4))) := by
  rw [Bool.eq_iff_iff]
  simp only [bne_iff_ne, ne_eq, decide_eq_true_eq]
  constructor
  ·intro h e
   apply h
   have : leB (Hf (b.take (b.length - 4))).toNat 4 = b.drop (b.length - 4) := Bj4 (by rw [Nm, hd]) (by rw [Bdj, Nat.mod_eq_of_lt (by omega), e])
   rw [this, List.take_append_drop]
  ·intro h e
   apply h
   have hx : leB (Hf (b.take (b.length - 4))).toNat 4 = b.drop (b.length - 4) := by
    have e2 : b.take (b.length - 4) ++ leB (Hf (b.take (b.length - 4))).toNat 4 = b.take (b.length - 4) ++ b.drop (b.length - 4) := by rw [e, List.take_append_drop]
    exact List.append_cancel_left e2
   rw [← hx, Bdj, Nat.mod_eq_of_lt (by omega)]
 rw [hiff]
 by_cases h3 : (Hf (b.take (b.length - 4))).toNat ≠ Ed (b.drop (b.length - 4))
 ·rw [if_pos (by simp [h3]), Aan, if_neg h1, if_neg h2, if_pos h3]
 ·rw [if_neg (by rw [decide_eq_false h3]; decide), Aan, if_neg h1, if_neg h2, if_neg h3]
theorem Bni {b : List UInt8} (h : Aan b = 0) : 5 ≤ b.length ∧ b.length ≤ 41254 := by
 unfold Aan at h
 split at h
 ·simp at h
 ·split at h
  ·simp at h
  ·omega
theorem Bsm {c : Nat} (h1 : 1 ≤ c) (h6 : c ≤ 6) : Df (4000 : Int) (c : Int) = ((4000 / c : Nat) : Int) := by
 have : c = 1 ∨ c = 2 ∨ c = 3 ∨ c = 4 ∨ c = 5 ∨ c = 6 := by omega
 rcases this with rfl | rfl | rfl | rfl | rfl | rfl <;> rfl
theorem Bq6 (p : List UInt8) (h : p.length ≤ 41250) : okB p (8 * p.length) := ⟨by omega, by omega, fun k h1 h2 => by omega⟩
theorem Aut {bits : Int} {ch n : Nat} {t : List Int32} (b : List UInt8) (hb : Dp bits) (ht : t.length = 16) (h1 : 1 ≤ ch) (h6 : ch ≤ 6) (n1 : 1 ≤ n) (n2 : n ≤ 4000 / ch) :
  ∃ l e, deframe_Decode (ch : Int) bits t (n : Int) b = some (l, e) ∧ cadenzaref21_Decode (ch : Int) bits t (n : Int) b = some (l, e) ∧ (e = 0 → cadenzaref18_Check bits l = some 0 ∧ l.length ≤ 4000 ∧ l.length = n * ch) ∧ (e ≠ 0 → l = []) := by
 have hn : n * ch ≤ 4000 := by
  have := Nat.mul_le_mul_right ch n2
  have h2 := Nat.div_mul_le_self 4000 ch
  omega
 have hq4 := Bsm h1 h6
 generalize 4000 / ch = mm at *
 have hck : Ad2 (ch : Int) bits = some 0 := by
  have hr : ∃ x y, Aem bits = some (x, y, 0) := ⟨_, _, Bot hb⟩
  obtain ⟨x, y, hr⟩ := hr
  rw [Ad2, hr, Aa]
  simp only
  rw [if_neg (by simp [Ah, Af, Ax]; omega)]
 have hh := Axo bits
 have hasked : Rk (ch : Int) bits (n : Int) = some 0 := by
  rw [Rk, Zn, if_neg (by simp [Af, Ax]; omega), Bbh hb, Aa, if_neg (by rw [Bg]; simp; omega), Aa, if_neg (by simp [Ah, Af]; omega), Dj (by rw [Ah]; simp; omega), Aa, hq4, if_neg (by rw [Ax]; simp; omega)]
 rw [deframe_Decode, cadenzaref21_Decode, Rc, hck, hasked, Aa, Aa, if_neg (by rw [Ah]; simp), if_neg (by rw [Af]; simp; omega), Dj (by rw [Ah]; simp; omega), Aa, hq4, if_neg (by rw [Ax]; simp; omega), if_neg (by rw [Ah]; simp), Bg0, Bh1]
 by_cases hs : Aan b ≠ 0
 ·rw [if_pos hs]
  simp only [Aa]
  rw [if_pos (by rw [Ah]; simpa using hs), if_pos (by rw [Ah]; simpa using hs)]
  exact ⟨[], Aan b, rfl, rfl, fun e => absurd e hs, fun _ => rfl⟩
 have hs0 : Aan b = 0 := by simpa using hs
 have hlen := Bni hs0
 have e4 : Al (Ac b) 4 = ((b.length - 4 : Nat) : Int) := by rw [Ac, Bi (by omega) (by omega)]; omega
 rw [if_neg hs, hs0]
 simp only [Aa]
 rw [if_neg (by rw [Ah]; simp), if_neg (by rw [Ah]; simp), e4, Jo (by omega) (by omega), Aa, show ((b.length - 4 : Nat) : Int).toNat = b.length - 4 from rfl]
 have hpl : (b.take (b.length - 4)).length = b.length - 4 := by simp
 generalize b.take (b.length - 4) = p at *
 have e8 : Be (8 : Int) (Ac p) = ((8 * p.length : Nat) : Int) := by rw [Ac, Gu (by omega) (by omega)]; omega
 have hp := Bq6 p (by omega)
 have hv := values_eq hp h1 h6 hn
 have hr := Bqw (N := 8 * p.length) (p := p) rfl (by omega) h1 h6 hn
 have hat := Bc2 (ch := ch) (p := p) (N := 8 * p.length) (n * ch) 0 [] (by omega)
 rw [Bcq, if_neg (by rw [Ax, Ac]; simp; omega), Hc, Gt (by simp; omega), Aa, Aa, Aa, List.nil_append, e8]
 simp only
 rw [if_neg (by rw [Ah]; simp), hv, hr, Aa, Aa]
 generalize Aar ch p (8 * p.length) (n * ch) 0 [] = V at *
 obtain ⟨v, at', e⟩ := V
 simp only at *
 by_cases he : e ≠ 0
 ·rw [if_pos he, if_pos he]
  simp only
  rw [if_pos (by rw [Ah]; simpa using he), Kn, Hg, if_pos (by rw [Ah]; simpa using he)]
  exact ⟨[], e, rfl, rfl, fun h => absurd h he, fun _ => rfl⟩
 have he0 : e = 0 := by simpa using he
 have hvl := hat.2.2 he0
 simp only [List.length_nil, Nat.zero_add] at hvl
 rw [if_neg he, if_neg he]
 simp only
 rw [if_neg (by rw [Ah]; simp), Bi (by omega) (by omega), show ((8 * p.length : Nat) : Int) - (at' : Int) = ((8 * p.length - at' : Nat) : Int) by omega, Kn, Hg]
 by_cases h7 : 7 < 8 * p.length - at'
 ·have hE : (if 7 < 8 * p.length - at' ∨ Cb p at' (8 * p.length - at') ≠ 0 then (12 : Int) else 0) = 12 := if_pos (.inl h7)
  rw [if_pos (by rw [Dv]; simp; omega), hE, if_pos (by decide)]
  exact ⟨[], 12, rfl, rfl, fun h => absurd h (by decide), fun _ => rfl⟩
 rw [if_neg (by rw [Dv]; simp; omega), Auk hp at' _ (by omega), if_neg (by omega), Aa]
 have hz : Ck (Wq p at' (8 * p.length - at')) (0 : UInt64) = decide (Cb p at' (8 * p.length - at') ≠ 0) := by
  rw [Agz, Bool.eq_iff_iff]
  simp only [bne_iff_ne, ne_eq, ← UInt64.toNat_inj, decide_eq_true_eq]
  rw [Abh p _ _ (by omega)]; rfl
 simp only
 rw [hz]
 by_cases hv0 : Cb p at' (8 * p.length - at') ≠ 0
 ·have hE : (if 7 < 8 * p.length - at' ∨ Cb p at' (8 * p.length - at') ≠ 0 then (12 : Int) else 0) = 12 := if_pos (.inr hv0)
  rw [if_pos (by simp [hv0]), hE, if_pos (by decide)]
  exact ⟨[], 12, rfl, rfl, fun h => absurd h (by decide), fun _ => rfl⟩
 have hm : v.length % ch = 0 := by rw [hvl]; exact Nat.mul_mod_left n ch
 obtain ⟨l, e, g1, g2, g3, g4, g5⟩ := Bdc (v := v) hb ht h1 h6 (by omega) hm
 have hE : (if 7 < 8 * p.length - at' ∨ Cb p at' (8 * p.length - at') ≠ 0 then (12 : Int) else 0) = 0 := if_neg (by omega)
 rw [if_neg (by rw [decide_eq_false hv0]; decide), hE, if_neg (by decide), g1, g3, Aa, Aa, g2]
 by_cases hl : e ≠ 0
 ·rw [if_pos hl]
  exact ⟨[], e, rfl, rfl, fun h => absurd h hl, fun _ => rfl⟩
 ·rw [if_neg hl]
  have hl0 : e = 0 := by simpa using hl
  exact ⟨l, 0, rfl, rfl, fun _ => ⟨by rw [g4, hl0], by omega, by omega⟩, fun e => absurd rfl e⟩
end Go.Pl
set_option linter.unusedVariables false
set_option linter.unusedSimpArgs false
namespace Go.Pl
open Go Go.Lv
def P64 : Nat := 4823603603198064275
def Afm (s : Nat) : Nat := (2 * s % 18446744073709551616) ^^^ (s / 9223372036854775808 * P64)
theorem Al2 {s : Nat} (h : s < 18446744073709551616) : Afm s < 18446744073709551616 := by
 have h1 : s / 9223372036854775808 = 0 ∨ s / 9223372036854775808 = 1 := by omega
 exact Nat.xor_lt_two_pow (n := 64) (Nat.mod_lt _ (by decide)) (by rcases h1 with e | e <;> rw [e] <;> decide)
theorem Bi8 (x y : Nat) : (x ^^^ y) / 9223372036854775808 = (x / 9223372036854775808) ^^^ (y / 9223372036854775808) := by
 have := Nat.shiftRight_xor_distrib (a := x) (b := y) (i := 63)
 simpa [Nat.shiftRight_eq_div_pow] using this
theorem Bki (x y : Nat) : 2 * (x ^^^ y) % 18446744073709551616 = (2 * x % 18446744073709551616) ^^^ (2 * y % 18446744073709551616) := by
 have h1 := Nat.shiftLeft_xor_distrib (a := x) (b := y) (i := 1)
 have h2 := Nat.xor_mod_two_pow (a := 2 * x) (b := 2 * y) (n := 64)
 have e : 2 * (x ^^^ y) = (2 * x) ^^^ (2 * y) := by simpa [Nat.shiftLeft_eq, Nat.mul_comm] using h1
 rw [e]; exact h2
theorem Brr {a b : Nat} (ha : a = 0 ∨ a = 1) (hb : b = 0 ∨ b = 1) (p : Nat) : (a ^^^ b) * p = (a * p) ^^^ (b * p) := by
 rcases ha with rfl | rfl <;> rcases hb with rfl | rfl <;> simp
theorem Bwa (a b c d : Nat) : (a ^^^ b) ^^^ (c ^^^ d) = (a ^^^ c) ^^^ (b ^^^ d) := by
 rw [Nat.xor_assoc, Nat.xor_assoc, ← Nat.xor_assoc b c d, Nat.xor_comm b c, Nat.xor_assoc c b d]
theorem Biv {x y : Nat} (hx : x < 18446744073709551616) (hy : y < 18446744073709551616) : Afm (x ^^^ y) = Afm x ^^^ Afm y := by
 rw [Afm, Afm, Afm, Bki, Bi8, Brr (by omega) (by omega), Bwa]
def Mm : Nat → Nat → Nat
 | 0, s => s
 | k + 1, s => Mm k (Afm s)
theorem At2 : ∀ (k : Nat) {s : Nat}, s < 18446744073709551616 → Mm k s < 18446744073709551616
 | 0, _, h => h
 | k + 1, _, h => At2 k (Al2 h)
theorem Ayv : ∀ (k : Nat) {x y : Nat}, x < 18446744073709551616 → y < 18446744073709551616 → Mm k (x ^^^ y) = Mm k x ^^^ Mm k y
 | 0, _, _, _, _ => rfl
 | k + 1, x, y, hx, hy => by rw [Mm, Biv hx hy, Ayv k (Al2 hx) (Al2 hy)]; rfl
theorem Awk : ∀ (k h : Nat), 2 ^ k * h < 18446744073709551616 → Mm k h = 2 ^ k * h
 | 0, h, _ => by simp [Mm]
 | k + 1, h, hl => by
  have hpos : 0 < 2 ^ k := Nat.pow_pos (by omega)
  rw [Nat.pow_succ, Nat.mul_assoc] at hl
  have h2 : 2 * h < 18446744073709551616 := Nat.lt_of_le_of_lt (Nat.le_mul_of_pos_left _ hpos) hl
  have : Afm h = 2 * h := by rw [Afm, Nat.mod_eq_of_lt h2, show h / 9223372036854775808 = 0 by omega]; simp
  rw [Mm, this, Awk k _ hl, Nat.pow_succ, Nat.mul_assoc]
def Aor (s c : Nat) : Nat := Mm 8 (s ^^^ (c * 72057594037927936))
theorem c56 {c : Nat} (hc : c < 256) : c * 72057594037927936 < 18446744073709551616 := by omega
theorem Aud {s c : Nat} (h : s < 18446744073709551616) (hc : c < 256) : Aor s c < 18446744073709551616 := At2 8 (Nat.xor_lt_two_pow (n := 64) h (c56 hc))
theorem Bsn (s : Nat) : s = (s / 72057594037927936 * 72057594037927936) ^^^ (s % 72057594037927936) := by
 have h1 : s % 72057594037927936 < 2 ^ 56 := Nat.mod_lt _ (by decide)
 have := Nat.two_pow_add_eq_or_of_lt h1 (s / 72057594037927936)
 have h2 : 2 ^ 56 * (s / 72057594037927936) ||| s % 72057594037927936 = (2 ^ 56 * (s / 72057594037927936)) ^^^ (s % 72057594037927936) := by
  apply Nat.eq_of_testBit_eq; intro i
  rw [Nat.testBit_or, Nat.testBit_xor]
  by_cases hi : i < 56
  ·have : (2 ^ 56 * (s / 72057594037927936)).testBit i = false := by rw [Nat.testBit_two_pow_mul]; simp; omega
   rw [this]; simp
  ·have : (s % 72057594037927936).testBit i = false := Nat.testBit_lt_two_pow (Nat.lt_of_lt_of_le h1 (Nat.pow_le_pow_right (by omega) (by omega)))
   rw [this]; simp
 rw [Nat.mul_comm (s / 72057594037927936)]
 show s = (2 ^ 56 * (s / 72057594037927936)) ^^^ _
 rw [← h2, ← this]
 have := Nat.div_add_mod s 72057594037927936
 show s = 72057594037927936 * _ + _
 omega
theorem Blp (a c : Nat) : (a ^^^ c) * 72057594037927936 = (a * 72057594037927936) ^^^ (c * 72057594037927936) := by
 have h1 := Nat.shiftLeft_xor_distrib (a := a) (b := c) (i := 56)
 simpa [Nat.shiftLeft_eq] using h1
theorem Bcm {s c : Nat} (h : s < 18446744073709551616) (hc : c < 256) : Aor s c = (256 * s % 18446744073709551616) ^^^ Mm 8 (((s / 72057594037927936) ^^^ c) * 72057594037927936) := by
 have hs : s / 72057594037927936 < 2 ^ 8 := by show _ < 256; omega
 have hx : (s / 72057594037927936) ^^^ c < 256 := Nat.xor_lt_two_pow (n := 8) hs (by simpa using hc)
 have hl : s % 72057594037927936 < 72057594037927936 := Nat.mod_lt _ (by decide)
 rw [Aor]
 conv => lhs; rw [Bsn s]
 rw [Nat.xor_comm (s / 72057594037927936 * 72057594037927936), Nat.xor_assoc, ← Blp, Ayv 8 (by omega) (c56 hx), Awk 8 _ (by show 256 * _ < _; omega)]
 congr 1
 show 256 * (s % 72057594037927936) = _
 omega
def Azt (s : Nat) (l : List UInt8) : Nat := l.foldl (fun s c => Aor s c.toNat) s
theorem Baf {n : Nat} (h : n < 18446744073709551616) : (UInt64.ofNat n).toNat = n := by rw [UInt64.toNat_ofNat']; exact Nat.mod_eq_of_lt h
theorem Bub (s : UInt64) (bit : Nat) (hb : bit = 0 ∨ bit = 1) : Uw s (bit : Int) = some (UInt64.ofNat ((2 * s.toNat % 18446744073709551616) ^^^ (((s.toNat / 9223372036854775808) ^^^ bit) * P64))) := by
 have hs := s.toNat_lt
 have ht : s.toNat / 9223372036854775808 = 0 ∨ s.toNat / 9223372036854775808 = 1 := by omega
 have e1 : (Be s (2 : UInt64)).toNat = 2 * s.toNat % 18446744073709551616 := by
  rw [Ae9, UInt64.toNat_mul]; show s.toNat * 2 % _ = _; rw [Nat.mul_comm]
 have hlt : 2 * s.toNat % 18446744073709551616 < 18446744073709551616 := Nat.mod_lt _ (by decide)
 have ey : Yh (Be s (2 : UInt64)) (4823603603198064275 : UInt64) = UInt64.ofNat ((2 * s.toNat % 18446744073709551616) ^^^ P64) := by
  apply UInt64.toNat_inj.1
  rw [Azq, UInt64.toNat_xor, e1, Baf (Nat.xor_lt_two_pow (n := 64) hlt (by decide))]; rfl
 have en : Be s (2 : UInt64) = UInt64.ofNat (2 * s.toNat % 18446744073709551616) := by
  apply UInt64.toNat_inj.1
  rw [e1, Baf hlt]
 have eg : Sr s (9223372036854775808 : UInt64) = decide (s.toNat / 9223372036854775808 = 1) := by
  rw [Bsk, decide_eq_decide]
  show 9223372036854775808 ≤ s.toNat ↔ _
  omega
 have hp : ∀ b : Bool, Oc s b = some (if b = true then UInt64.ofNat ((2 * s.toNat % 18446744073709551616) ^^^ P64) else UInt64.ofNat (2 * s.toNat % 18446744073709551616)) := by
  intro b
  rw [Oc, Ae2, ey, en]; cases b <;> rfl
 rw [Uw, Vq, hp, hp, eg]
 rcases hb with rfl | rfl <;> rcases ht with h | h <;> rw [h] <;> simp [Bg]
theorem Aup (c : UInt8) : ∀ (j q : Nat) (s : UInt64), j ≤ 8 → j < q → Gp c q s ((2 ^ j / 2 : Nat) : Int) = some (UInt64.ofNat (Mm j (s.toNat ^^^ (c.toNat % 2 ^ j * 2 ^ (64 - j)))))
 | 0, q + 1, s, _, _ => by
  rw [Gp, Ns, if_neg (by rw [Ax]; simp), Wp, Afd]
  simp [Mm, Nat.mod_one]
 | j + 1, q + 1, s, hj, hq => by
  have hc := c.toNat_lt
  have hs := s.toNat_lt
  have hj2 : 2 ^ j ≤ 2 ^ 7 := Nat.pow_le_pow_right (by omega) (by omega)
  have hpos : 0 < 2 ^ j := Nat.pow_pos (by omega)
  have e1 : 2 ^ (j + 1) / 2 = 2 ^ j := by rw [Nat.pow_succ]; omega
  have e2 : Df ((2 ^ j : Nat) : Int) 2 = ((2 ^ j / 2 : Nat) : Int) := by
   generalize 2 ^ j = K at *
   rw [Afp, Int.tdiv_eq_ediv_of_nonneg (by omega), Cc (by omega) (by omega)]; omega
  have e3 : Kf (Df (Ad c : Int) ((2 ^ j : Nat) : Int)) (2 : Int) = ((c.toNat / 2 ^ j % 2 : Nat) : Int) := by
   have hX := Nat.div_le_self c.toNat (2 ^ j)
   rw [Ag7, Afp, ← Int.ofNat_tdiv]
   generalize c.toNat / 2 ^ j = X at *
   rw [Cc (by omega) (by omega), Kf, Int.tmod_eq_emod_of_nonneg (by omega)]; omega
  have hbit : c.toNat / 2 ^ j % 2 = 0 ∨ c.toNat / 2 ^ j % 2 = 1 := by omega
  rw [Gp, Ns, e1, if_pos (by rw [Ax, decide_eq_true_eq]; omega), Dj (by rw [Ah, bne_iff_ne]; omega), Aa, e3, Bub s _ hbit, Aa, e2, Aup c j q _ (by omega) (by omega)]
  congr 2
  rw [Mm]
  congr 1
  have hx : c.toNat % 2 ^ (j + 1) * 2 ^ (64 - (j + 1)) = (c.toNat / 2 ^ j % 2) * 9223372036854775808 + c.toNat % 2 ^ j * 2 ^ (63 - j) := by
   have h63 : (9223372036854775808 : Nat) = 2 ^ j * 2 ^ (63 - j) := by rw [← Nat.pow_add, show j + (63 - j) = 63 by omega]
   rw [Nat.mod_pow_succ, h63, show 64 - (j + 1) = 63 - j by omega, Nat.add_mul, Nat.add_comm, Nat.mul_assoc, Nat.mul_left_comm]
  have hr : c.toNat % 2 ^ j < 2 ^ j := Nat.mod_lt _ hpos
  have hb63 : c.toNat % 2 ^ j * 2 ^ (63 - j) < 9223372036854775808 := by
   have h63 : (9223372036854775808 : Nat) = 2 ^ j * 2 ^ (63 - j) := by rw [← Nat.pow_add, show j + (63 - j) = 63 by omega]
   rw [h63]; exact Nat.mul_lt_mul_of_pos_right hr (Nat.pow_pos (by omega))
  have h64 : c.toNat % 2 ^ j * 2 ^ (64 - j) = 2 * (c.toNat % 2 ^ j * 2 ^ (63 - j)) := by
   rw [show 64 - j = (63 - j) + 1 by omega, Nat.pow_succ, ← Nat.mul_assoc, Nat.mul_comm]
  rw [hx, h64]
  generalize c.toNat % 2 ^ j * 2 ^ (63 - j) = R at *
  generalize c.toNat / 2 ^ j % 2 = b at *
  have ht : s.toNat / 9223372036854775808 = 0 ∨ s.toNat / 9223372036854775808 = 1 := by omega
  have hp : ((s.toNat / 9223372036854775808 ^^^ b) * P64) < 18446744073709551616 := by
   rcases ht with h | h <;> rcases hbit with h2 | h2 <;> rw [h, h2] <;> decide
  rw [Baf (Nat.xor_lt_two_pow (n := 64) (Nat.mod_lt _ (by decide)) hp), Afm, Bki, Bi8, show (b * 9223372036854775808 + R) / 9223372036854775808 = b by omega, show 2 * (b * 9223372036854775808 + R) % 18446744073709551616 = 2 * R by omega, Nat.xor_assoc, Nat.xor_assoc, Nat.xor_comm (2 * R)]
theorem Bui (c : UInt8) (s : UInt64) : Aby s c = some (UInt64.ofNat (Aor s.toNat c.toNat)) := by
 have h := Aup c 8 Az s (Nat.le_refl _) (by have := Am; omega)
 have hc := c.toNat_lt
 rw [Nat.mod_eq_of_lt (show c.toNat < 2 ^ 8 by simpa using hc)] at h
 exact h
theorem Aq6 (b : List UInt8) (hb : b.length < 4611686018427387904) : ∀ (j i q : Nat) (s : UInt64), i + j = b.length → j < q → Fa b q s (i : Int) = some (UInt64.ofNat (Azt s.toNat (b.drop i)))
 | 0, i, q + 1, s, hi, _ => by
  rw [Fa, Kg, if_neg (by rw [Af, Ac]; simp; omega), show i = b.length by omega, List.drop_length]
  simp [Sa, Abq, Azt]
 | j + 1, i, q + 1, s, hi, hq => by
  have hlt : i < b.length := by omega
  have hc := b[i].toNat_lt
  rw [Fa, Kg, if_pos (by rw [Af, Ac]; simp; omega), Cp hlt, Aa, Bui, Aa, Ag (by omega) (by omega)]
  have h := Aq6 b hb j (i + 1) q (UInt64.ofNat (Aor s.toNat b[i].toNat)) (by omega) (by omega)
  rw [show ((i : Int) + 1) = ((i + 1 : Nat) : Int) by omega, h, drop_cons hlt, Baf (Aud s.toNat_lt (by simpa using hc))]
  rfl
def Ac8 (b : List UInt8) : UInt64 := UInt64.ofNat (Azt 0 b)
theorem Beb (b : List UInt8) (hb : b.length ≤ 100000) : Pk 0 b = some (Ac8 b) :=
 Aq6 b (by omega) b.length 0 Az 0 (by omega) (by have := Am; omega)
theorem Bh2 (c : UInt64) : Yh (Fh c (GI.toZ (1 : UInt64)).toNat) (Be (4823603603198064275 : UInt64) (Cy c (GI.toZ (63 : UInt64)).toNat)) = UInt64.ofNat (Afm c.toNat) := by
 have hc := c.toNat_lt
 apply UInt64.toNat_inj.1
 have h1 : (Fh c (GI.toZ (1 : UInt64)).toNat).toNat = 2 * c.toNat % 18446744073709551616 := by
  rw [show (GI.toZ (1 : UInt64)).toNat = 1 from rfl, Ak8, Nat.mul_comm]
 have h2 : (Be (4823603603198064275 : UInt64) (Cy c (GI.toZ (63 : UInt64)).toNat)).toNat = c.toNat / 9223372036854775808 * P64 := by
  rw [show (GI.toZ (63 : UInt64)).toNat = 63 from rfl, Ae9, UInt64.toNat_mul, Afh]
  show 4823603603198064275 * (c.toNat / 9223372036854775808) % 18446744073709551616 = _
  have h1 : c.toNat / 9223372036854775808 = 0 ∨ c.toNat / 9223372036854775808 = 1 := by omega
  rcases h1 with e | e <;> rw [e] <;> decide
 rw [Azq, UInt64.toNat_xor, h1, h2, Baf (Al2 hc)]; rfl
theorem Au8 (bk16 : Int → List UInt64 → Option (UInt64 × Int)) (s : UInt64) (b : List UInt8) (x : Int) (t : List UInt64) : ∀ (j i q : Nat) (c : UInt64), i + j = 8 → j < q →
  Qf bk16 s b x t q c (i : Int) = Ab3 bk16 s b x (UInt64.ofNat (Mm j c.toNat)) t
 | 0, i, q + 1, c, hi, _ => by
  obtain rfl : i = 8 := by omega
  rw [Qf, Ab0, if_neg (by rw [Af]; simp), Mm, UInt64.ofNat_toNat]
 | j + 1, i, q + 1, c, hi, hq => by
  rw [Qf, Ab0, if_pos (by rw [Af]; simp; omega), Bh2, Ag (by omega) (by omega), show ((i : Int) + 1) = ((i + 1 : Nat) : Int) by omega, Au8 bk16 s b x t j (i + 1) q _ (by omega) (by omega), Baf (Al2 c.toNat_lt)]; rfl
def Ajx (n : Nat) : List UInt64 := (List.range n).map fun i => UInt64.ofNat (Mm 8 (i * 72057594037927936))
theorem Az2 (s : UInt64) (b : List UInt8) : ∀ (j i q : Nat), i + j = 256 → j < q → La s b q (i : Int) (Ajx i ++ List.replicate j 0) = Abb s b (Ajx 256)
 | 0, i, q + 1, hi, _ => by
  obtain rfl : i = 256 := by omega
  rw [La, Abk, if_neg (by rw [Af]; simp)]; simp
 | j + 1, i, q + 1, hi, hq => by
  have hlen : (Ajx i ++ List.replicate (j + 1) 0).length = i + (j + 1) := by simp [Ajx]
  rw [La, Abk, if_pos (by rw [Af]; simp; omega), Ahy]
  have h := Au8 (La s b q) s b (i : Int) (Ajx i ++ List.replicate (j + 1) 0) 8 0 Az (Fh (Ad (i : Int) : UInt64) (GI.toZ (56 : UInt64)).toNat) (by omega) (by have := Am; omega)
  rw [show ((0 : Int)) = ((0 : Nat) : Int) from rfl, h, Ab3, Ah8, Cp (by rw [hlen]; omega), Aa, Xr _ (by rw [hlen]; omega), Aa, Ai2, Aop, Ag (by omega) (by omega)]
  have e : (Fh (Ad (i : Int) : UInt64) (GI.toZ (56 : UInt64)).toNat).toNat = i * 72057594037927936 := by
   rw [Ak8, Aaj, Baf (by omega)]
   show i * 72057594037927936 % 18446744073709551616 = _
   omega
  rw [e, List.replicate_succ, Ap3 (by simp [Ajx])]
  have h2 := Az2 s b j (i + 1) q (by omega) (by omega)
  have h3 : Ajx (i + 1) = Ajx i ++ [UInt64.ofNat (Mm 8 (i * 72057594037927936))] := by simp [Ajx, List.range_succ]
  rw [h3] at h2
  rw [show ((i : Int) + 1) = ((i + 1 : Nat) : Int) by omega, ← h2]
  simp
theorem Blu {i : Nat} (h : i < 256) : getI (Ajx 256) (i : Int) = some (UInt64.ofNat (Mm 8 (i * 72057594037927936))) := by
 rw [Cp (by simpa [Ajx] using h)]; simp [Ajx]
theorem Be4 (s : UInt64) (c : UInt8) : getI (Ajx 256) (GI.toZ (Yh (Ad (Cy s (GI.toZ (56 : UInt64)).toNat) : UInt8) c)) = some (UInt64.ofNat (Mm 8 (((s.toNat / 72057594037927936) ^^^ c.toNat) * 72057594037927936))) := by
 have hs := s.toNat_lt
 have e : GI.toZ (Yh (Ad (Cy s (GI.toZ (56 : UInt64)).toNat) : UInt8) c) = (((s.toNat / 72057594037927936) ^^^ c.toNat : Nat) : Int) := by
  have e2 : ((Ad (Cy s (GI.toZ (56 : UInt64)).toNat) : UInt8)).toNat = s.toNat / 72057594037927936 := by
   rw [Amt, UInt8.toNat_ofNat', Afh]
   show s.toNat / 72057594037927936 % 256 = _
   omega
  rw [Zf, Bji, UInt8.toNat_xor, e2]
 rw [e, Blu]
 exact Nat.xor_lt_two_pow (n := 8) (by show _ < 256; omega) (by simpa using c.toNat_lt)
theorem Bc1 (s : UInt64) (c : UInt8) : Yh (Fh s (GI.toZ (8 : UInt64)).toNat) (UInt64.ofNat (Mm 8 (((s.toNat / 72057594037927936) ^^^ c.toNat) * 72057594037927936))) = UInt64.ofNat (Aor s.toNat c.toNat) := by
 have hs := s.toNat_lt
 have hc : c.toNat < 256 := by simpa using c.toNat_lt
 apply UInt64.toNat_inj.1
 have hlt : Mm 8 (((s.toNat / 72057594037927936) ^^^ c.toNat) * 72057594037927936) < 18446744073709551616 := At2 8 (c56 (Nat.xor_lt_two_pow (n := 8) (by show _ < 256; omega) (by simpa using c.toNat_lt)))
 have e : (GI.toZ (8 : UInt64)).toNat = 8 := rfl
 rw [e, Azq, UInt64.toNat_xor, Ak8, Baf hlt, Baf (Aud hs hc), Bcm hs hc, Nat.mul_comm s.toNat]
theorem Avl (b : List UInt8) (s0 : UInt64) (hb : b.length < 4611686018427387904) : ∀ (j i q : Nat) (s : UInt64), i + j = b.length → j < q → Pw b s0 (Ajx 256) q s (i : Int) = some (UInt64.ofNat (Azt s.toNat (b.drop i)), 0)
 | 0, i, q + 1, s, hi, _ => by
  rw [Pw, Ab7, if_neg (by rw [Af, Ac]; simp; omega), show i = b.length by omega, List.drop_length]
  simp [Ahe, Aio, Ahi, Aou, Azt]
 | j + 1, i, q + 1, s, hi, hq => by
  have hlt : i < b.length := by omega
  have hc := b[i].toNat_lt
  rw [Pw, Ab7, if_pos (by rw [Af, Ac]; simp; omega), Cp hlt, Aa, Be4, Aa, Aa, Bc1, Ag (by omega) (by omega)]
  have h := Avl b s0 hb j (i + 1) q (UInt64.ofNat (Aor s.toNat b[i].toNat)) (by omega) (by omega)
  rw [show ((i : Int) + 1) = ((i + 1 : Nat) : Int) by omega, h, drop_cons hlt, Baf (Aud s.toNat_lt (by simpa using hc))]
  rfl
theorem Bgo (b : List UInt8) (hb : b.length ≤ 100000) : Alg b = some (Ac8 b, 0) := by
 have h := Az2 0 b 256 0 Az (by omega) (by have := Am; omega)
 have h2 := Avl b 0 (by omega) b.length 0 Az 0 (by omega) (by have := Am; omega)
 have hn : Al8 0 b = some (Ac8 b, 0) := by
  rw [Al8, Aj2, if_neg (by rw [Ax, Ac]; simp; omega), Ahv]
  refine Eq.trans h ?_
  rw [Abb, Ah7, Ahp]
  exact h2
 rw [Alg, hn, Aa]
theorem Bbc (p : List UInt8) (hp : p.length ≤ 64) : Agt p = some (leB (Ac8 p).toNat 8, 0) := by
 rw [Agt, Atr, if_neg (by rw [Ax, Ac]; simp; omega), Bgo p (by omega), Aa, Aa]
 simp only
 have h := Bel (Ac8 p) 8 (by omega) (by omega) (by simpa using (Ac8 p).toNat_lt)
 rw [if_neg (by rw [Ah]; simp)]
 exact congrArg (fun o => Option.bind o fun x : List UInt8 × Int => some (x.1, x.2)) h
theorem Atz (p : List UInt8) (hp : p.length ≤ 64) : Ix p = some (leB (Ac8 p).toNat 8) := by
 have h := Axe (Ac8 p) 8 (by omega)
 rw [Ix, Abm, Beb p (by omega), Aa, Aa]
 exact congrArg (fun o => Option.bind o fun l => some l) h
def s8 (n : Nat) : Int32 := Int32.ofInt (if n < 128 then (n : Int) else (n : Int) - 256)
def Ajv (d : UInt64) (n : Nat) : List Int32 := (List.range n).map fun i => s8 (d.toNat / 256 ^ i % 256)
theorem Ak4 (d : UInt64) (n : Nat) : (Ajv d n).length = n := by simp [Ajv]
theorem Ayn (d : UInt64) (n : Nat) : Ajv d (n + 1) = Ajv d n ++ [s8 (d.toNat / 256 ^ n % 256)] := by simp [Ajv, List.range_succ]
theorem bm8 (z : Nat) : (z : Int).bmod Int8.size = if z % 256 < 128 then ((z % 256 : Nat) : Int) else ((z % 256 : Nat) : Int) - 256 := by
 rw [show Int8.size = 256 from rfl, Int.bmod_def]
 split <;> split <;> omega
theorem Bjh (d : UInt64) : ∀ (j i q : Nat), i + j = 8 → j < q → Ade d q (i : Int) (Ajv d i ++ List.replicate (16 - i) 0) = some (Ajv d 8 ++ List.replicate 8 0)
 | 0, i, q + 1, hi, _ => by
  obtain rfl : i = 8 := by omega
  rw [Ade, Amk, if_neg (by rw [Af]; simp)]; rfl
 | j + 1, i, q + 1, hi, hq => by
  have hlen : (Ajv d i ++ List.replicate (16 - i) 0).length = 16 := by simp [Ak4]; omega
  have ih := Bjh d j (i + 1) q (by omega) (by omega)
  have e8 : Be (8 : Int) (i : Int) = ((8 * i : Nat) : Int) := by rw [Gu (by omega) (by omega)]; omega
  have ev : (Ad (Ad (Cy d (GI.toZ (((8 * i : Nat) : Int))).toNat) : Int8) : Int32) = s8 (d.toNat / 256 ^ i % 256) := by
   have e1 : (Cy d (GI.toZ (((8 * i : Nat) : Int))).toNat).toNat = d.toNat / 256 ^ i := by
    rw [show (GI.toZ (((8 * i : Nat) : Int))).toNat = 8 * i from rfl, Afh, Nat.pow_mul]
   show Int32.ofInt (Int8.ofInt ((Cy d (GI.toZ (((8 * i : Nat) : Int))).toNat).toNat : Int)).toInt = _
   rw [e1, s8, Int8.toInt_ofInt, bm8]
  rw [Ade, Amk, if_pos (by rw [Af]; simp; omega), e8, Dj (by rw [Dv]; simp; omega), Aa, ev, Cp (by omega), Aa, Xr _ (by omega), Aa, Ag (by omega) (by omega), show 16 - i = (15 - i) + 1 by omega, List.replicate_succ, Ap3 (Ak4 d i)]
  rw [Ayn, show 16 - (i + 1) = 15 - i by omega, List.append_assoc] at ih
  exact ih
theorem Bnk (d : UInt64) : ∀ (j i q : Nat) (e : UInt64), i + j = 8 → j < q → e.toNat = d.toNat / 256 ^ i → Ge q e (i : Int) (Ajv d i ++ List.replicate (16 - i) 0) = some (Ajv d 8 ++ List.replicate 8 0)
 | 0, i, q + 1, e, hi, _, he => by
  obtain rfl : i = 8 := by omega
  rw [Ge, Ri, if_neg (by rw [Af]; simp)]; rfl
 | j + 1, i, q + 1, e, hi, hq, he => by
  have hlen : (Ajv d i ++ List.replicate (16 - i) 0).length = 16 := by simp [Ak4]; omega
  have hq2 : (Df e (256 : UInt64)).toNat = d.toNat / 256 ^ (i + 1) := by
   rw [Asx, UInt64.toNat_div, he, Nat.pow_succ, ← Nat.div_div_eq_div_mul]; rfl
  have ih := Bnk d j (i + 1) q (Df e (256 : UInt64)) (by omega) (by omega) hq2
  have ev : (Ad (Aaq e (256 : UInt64)) : Int32) = Int32.ofInt ((d.toNat / 256 ^ i % 256 : Nat) : Int) := by
   show Int32.ofInt ((Aaq e (256 : UInt64)).toNat : Int) = _
   rw [Bf0, UInt64.toNat_mod, he]; rfl
  have hz : d.toNat / 256 ^ i % 256 < 256 := Nat.mod_lt _ (by omega)
  have et : (Int32.ofInt ((d.toNat / 256 ^ i % 256 : Nat) : Int)).toInt = ((d.toNat / 256 ^ i % 256 : Nat) : Int) := by
   rw [Int32.toInt_ofInt, Int.bmod_eq_of_le (by show -(4294967296 / 2 : Int) ≤ _; omega) (by show _ < (4294967296 + 1) / 2; omega)]
  have hp8 : ∀ x : Int32, x = s8 (d.toNat / 256 ^ i % 256) → Rt (Ge q) e (i : Int) (Ajv d i ++ List.replicate (16 - i) 0) x = some (Ajv d 8 ++ List.replicate 8 0) := by
   intro x hx
   rw [Rt, Aiz, hx, Cp (by omega), Aa, Xr _ (by omega), Aa, Ag (by omega) (by omega), show 16 - i = (15 - i) + 1 by omega, List.replicate_succ, Ap3 (Ak4 d i)]
   rw [Ayn, show 16 - (i + 1) = 15 - i by omega, List.append_assoc] at ih
   exact ih
  rw [Ge, Ri, if_pos (by rw [Af]; simp; omega), ev, Bia, et, show (127 : Int32).toInt = 127 from rfl]
  by_cases h : d.toNat / 256 ^ i % 256 < 128
  ·rw [if_neg (by simp only [decide_eq_true_eq]; omega)]
   exact hp8 _ (by rw [s8, if_pos h])
  ·rw [if_pos (by simp only [decide_eq_true_eq]; omega)]
   refine hp8 _ ?_
   rw [s8, if_neg h, Axt, Int32.ofInt_sub]; rfl
def tapsOf (p : List UInt8) : List Int32 := Ajv (Ac8 p) 8 ++ List.replicate 8 0
theorem Awv (p : List UInt8) : (tapsOf p).length = 16 := by simp [tapsOf, Ak4]
theorem Bbm (p : List UInt8) (hp : p.length ≤ 64) : Aky p = some (tapsOf p, 0) := by
 have h := Bjh (Ac8 p) 8 0 Az (by omega) (by have := Am; omega)
 have h2 : Bdr (Ac8 p) = some (tapsOf p) := h
 rw [Aky, if_neg (by rw [Ax, Ac]; simp; omega), Bgo p (by omega), Aa]
 simp only
 rw [if_neg (by rw [Ah]; simp), h2, Aa]
theorem Azz (p : List UInt8) (hp : p.length ≤ 64) : Hi p = some (tapsOf p, 0) := by
 have h := Bnk (Ac8 p) 8 0 Az (Ac8 p) (by omega) (by have := Am; omega) (by simp)
 have h2 : Afq (Ac8 p) = some (tapsOf p) := h
 rw [Hi, if_neg (by rw [Ax, Ac]; simp; omega), Adb, Abu, if_neg (by rw [Ax, Ac]; simp; omega), Beb p (by omega), Aa, Aa, Aa]
 simp only
 rw [h2, Aa]
end Go.Pl
set_option linter.unusedVariables false
set_option linter.unusedSimpArgs false
namespace Go.Pl
open Go Go.Lv
def u8 (z : Int) : UInt8 := UInt8.ofNat (z % 256).toNat
theorem Bda (z : Int) : u8 (z % 256) = u8 z := by rw [u8, u8]; congr 2; omega
def wB (bits : Int) : Nat := if bits = 8 then 1 else if bits = 16 then 2 else 3
theorem Bop {bits : Int} (h : Dp bits) : Df bits 8 = (wB bits : Int) := by obtain rfl | rfl | rfl := h <;> rfl
theorem Bjo (bits : Int) : 1 ≤ wB bits ∧ wB bits ≤ 3 := by
 unfold wB; split; · omega
 ·split <;> omega
def Adm (bits : Int) (x : Int) : List UInt8 := if bits = 8 then [u8 (x + 128)] else if bits = 16 then [u8 x, u8 (x / 256)] else [u8 x, u8 (x / 256), u8 (x / 65536)]
theorem Bfl (bits x : Int) : (Adm bits x).length ≤ 3 := by
 unfold Adm; split; · simp
 ·split <;> simp
theorem Bol (x : Int32) (k : Nat) (hk : k ≤ 32) : (Ad (Cy x k) : UInt8) = u8 (x.toInt.fdiv (2 ^ k)) := by
 have h := Abd x
 have e : Cy x k = Int32.ofInt (x.toInt.fdiv (2 ^ k)) := by
  show Int32.ofInt (x.toInt.fdiv (2 ^ min k 32)) = _
  rw [Nat.min_eq_left hk]
 have hb : -2147483648 ≤ x.toInt.fdiv (2 ^ k) ∧ x.toInt.fdiv (2 ^ k) < 2147483648 := by
  have hpos : (0 : Int) < 2 ^ k := Int.pow_pos (by omega)
  rw [Int.fdiv_eq_ediv_of_nonneg _ (by omega)]
  constructor
  ·refine (Int.le_ediv_iff_mul_le hpos).2 ?_
   have : (1 : Int) ≤ 2 ^ k := by omega
   have h2 : -2147483648 * (2 ^ k : Int) ≤ -2147483648 * 1 := Int.mul_le_mul_of_nonpos_left (by omega) this
   omega
  ·refine Int.ediv_lt_of_lt_mul hpos ?_
   have : (1 : Int) ≤ 2 ^ k := by omega
   have h2 : (2147483648 : Int) * 1 ≤ 2147483648 * 2 ^ k := Int.mul_le_mul_of_nonneg_left this (by omega)
   omega
 show UInt8.ofNat ((Cy x k).toInt % 256).toNat = _
 rw [e, Int32.toInt_ofInt, Int.bmod_eq_of_le (by show -(4294967296 / 2 : Int) ≤ _; omega) (by show _ < (4294967296 + 1) / 2; omega)]; rfl
section
variable (bk : Int → List UInt8 → Option (List UInt8 × Int)) (l : List Int32)
theorem Av6 {bits : Int} (h : Dp bits) (c : Int32) (x : Int) (i q : Nat) (acc : List UInt8) (hi : i < wB bits) (ha : acc.length ≤ 100000) :
  Hs bk bits l c x (q + 1) (i : Int) acc = Hs bk bits l c x q ((i + 1 : Nat) : Int) (acc ++ [u8 (c.toInt.fdiv (2 ^ (8 * i)))]) := by
 have hw := Bjo bits
 have e8 : Be (8 : Int) (i : Int) = ((8 * i : Nat) : Int) := by rw [Gu (by omega) (by omega)]; omega
 rw [Hs, Zb, Bop h, if_pos (by rw [Af]; simp; omega), e8, Dj (by rw [Dv]; simp; omega), Aa, show (GI.toZ (((8 * i : Nat) : Int))).toNat = 8 * i from rfl, Bol _ _ (by omega), Gt (by simp; omega), Aa, Ag (by omega) (by omega)]; rfl
theorem Bh0 {bits : Int} (h : Dp bits) (c : Int32) (x : Int) (q : Nat) (acc : List UInt8) : Hs bk bits l c x (q + 1) ((wB bits : Nat) : Int) acc = bk (Ae x 1) acc := by
 rw [Hs, Zb, Bop h, if_neg (by rw [Af]; simp), Afn, Anv]
theorem Bum {bits : Int} (h : Dp bits) (c : Int32) (x : Int) (acc : List UInt8) (ha : acc.length ≤ 90000) (hr : -(hB bits) ≤ c.toInt ∧ c.toInt < hB bits) :
  Jv bk bits l x acc (if bits = 8 then Ae c (128 : Int32) else c) = bk (Ae x 1) (acc ++ Adm bits c.toInt) := by
 have e : Az = (Az - 4) + 1 + 1 + 1 + 1 := by have := Am; omega
 have hc := Abd c
 rw [Jv, Afo, Aft, e]
 have g0 := fun (c : Int32) q acc ha => Av6 bk l h c x 0 q acc (by have := Bjo bits; omega) ha
 obtain rfl | rfl | rfl := h
 ·have hh : hB 8 = 128 := rfl
  rw [hh] at hr
  have e1 : (Ae c (128 : Int32)).toInt = c.toInt + 128 := by
   show (Int32.ofInt (c.toInt + (128 : Int32).toInt)).toInt = _
   rw [show (128 : Int32).toInt = 128 from rfl, Int32.toInt_ofInt, Int.bmod_eq_of_le (by show -(4294967296 / 2 : Int) ≤ _; omega) (by show _ < (4294967296 + 1) / 2; omega)]
  have g1 := Bh0 bk l (bits := 8) (.inl rfl) (Ae c (128 : Int32)) x (Az - 4 + 1 + 1)
  rw [if_pos rfl, show (0 : Int) = ((0 : Nat) : Int) from rfl, g0 _ _ _ (by omega)]
  refine Eq.trans (g1 _) ?_
  rw [e1, Adm, if_pos rfl]
  show bk _ (acc ++ [u8 ((c.toInt + 128).fdiv 1)]) = _
  rw [Int.fdiv_one]
 ·have g1 := fun q acc ha => Av6 bk l (bits := 16) (.inr (.inl rfl)) c x 1 q acc (by decide) ha
  have g2 := Bh0 bk l (bits := 16) (.inr (.inl rfl)) c x (Az - 4 + 1)
  rw [if_neg (by decide), show (0 : Int) = ((0 : Nat) : Int) from rfl, g0 _ _ _ (by omega), g1 _ _ (by simp; omega)]
  refine Eq.trans (g2 _) ?_
  rw [Adm, if_neg (by decide), if_pos rfl, List.append_assoc]
  show bk _ (acc ++ [u8 (c.toInt.fdiv 1), u8 (c.toInt.fdiv 256)]) = _
  rw [Int.fdiv_one, Int.fdiv_eq_ediv_of_nonneg _ (by omega)]
 ·have g1 := fun q acc ha => Av6 bk l (bits := 24) (.inr (.inr rfl)) c x 1 q acc (by decide) ha
  have g2 := fun q acc ha => Av6 bk l (bits := 24) (.inr (.inr rfl)) c x 2 q acc (by decide) ha
  have g3 := Bh0 bk l (bits := 24) (.inr (.inr rfl)) c x (Az - 4)
  rw [if_neg (by decide), show (0 : Int) = ((0 : Nat) : Int) from rfl, g0 _ _ _ (by omega), g1 _ _ (by simp; omega), g2 _ _ (by simp; omega)]
  refine Eq.trans (g3 _) ?_
  rw [Adm, if_neg (by decide), if_neg (by decide), List.append_assoc, List.append_assoc]
  show bk _ (acc ++ [u8 (c.toInt.fdiv 1), u8 (c.toInt.fdiv 256), u8 (c.toInt.fdiv 65536)]) = _
  rw [Int.fdiv_one, Int.fdiv_eq_ediv_of_nonneg _ (by omega), Int.fdiv_eq_ediv_of_nonneg _ (by omega)]
end
def bytesB (bits : Int) (l : List Int32) : List UInt8 := l.flatMap fun x => Adm bits x.toInt
theorem Amw (bits : Int) : ∀ l : List Int32, (bytesB bits l).length ≤ 3 * l.length
 | [] => by simp [bytesB]
 | x :: l => by
  have h1 := Amw bits l
  have h2 := Bfl bits x.toInt
  simp only [bytesB, List.flatMap_cons, List.length_append, List.length_cons] at *
  omega
def inR (bits : Int) (l : List Int32) : Prop := ∀ x ∈ l, -(hB bits) ≤ x.toInt ∧ x.toInt < hB bits
theorem Bkd {bits : Int} (h : Dp bits) (l : List Int32) (hl : l.length ≤ 4000) (hr : inR bits l) : ∀ (j i q : Nat), i + j = l.length → j < q → Ez bits l q (i : Int) (bytesB bits (l.take i)) = some (bytesB bits l, 0)
 | 0, i, q + 1, hi, _ => by
  rw [Ez, Yv, if_neg (by rw [Af, Ac]; simp; omega), List.take_of_length_le (by omega)]; rfl
 | j + 1, i, q + 1, hi, hq => by
  have hlt : i < l.length := by omega
  have ih := Bkd h l hl hr j (i + 1) q (by omega) (by omega)
  have hlen := Amw bits (l.take i)
  have hx := hr l[i] (List.getElem_mem _)
  have h1 := Bum (Ez bits l q) l h l[i] (i : Int) (bytesB bits (l.take i)) (by rw [List.length_take] at hlen; omega) hx
  rw [Ez, Yv, if_pos (by rw [Af, Ac]; simp; omega), Cp hlt, Aa]
  have e : (if (geq bits (8 : Int)) = true then Jv (Ez bits l q) bits l (i : Int) (bytesB bits (l.take i)) (Ae l[i] (128 : Int32)) else Jv (Ez bits l q) bits l (i : Int) (bytesB bits (l.take i)) l[i]) = Jv (Ez bits l q) bits l (i : Int) (bytesB bits (l.take i)) (if bits = 8 then Ae l[i] (128 : Int32) else l[i]) := by
   by_cases h8 : bits = 8
   ·rw [if_pos (by rw [Bg]; simpa using h8), if_pos h8]
   ·rw [if_neg (by rw [Bg]; simpa using h8), if_neg h8]
  rw [e, h1, Ag (by omega) (by omega)]
  rw [Akz hlt] at ih
  have e2 : bytesB bits (l.take i ++ [l[i]]) = bytesB bits (l.take i) ++ Adm bits l[i].toInt := by unfold bytesB; rw [List.flatMap_append, List.flatMap_singleton]
  rw [e2] at ih
  exact ih
theorem Auo {bits : Int} (h : Dp bits) {l : List Int32} (hl : l.length ≤ 4000) (hc : cadenzaref18_Check bits l = some 0) : inR bits l := by
 have hh := Axo bits
 have key : ∀ (j i q : Nat), i + j = l.length → j < q → Br l (hB bits) q (i : Int) = some 0 → ∀ k, i ≤ k → (hk : k < l.length) → -(hB bits) ≤ l[k].toInt ∧ l[k].toInt < hB bits := by
  intro j
  induction j with
  | zero => intro i q hi hq _ k h1 h2; omega
  | succ j ih =>
   intro i q hi hq hs k h1 h2
   obtain ⟨q, rfl⟩ : ∃ k, q = k + 1 := ⟨q - 1, by omega⟩
   rw [Br, Ei, if_pos (by rw [Af, Ac]; simp; omega), Cp (by omega), Aa, Aa, Em, Bie, Cc (by omega) (by omega), Ag (by omega) (by omega), Af, Dv] at hs
   by_cases g1 : l[i].toInt < 0 - hB bits
   ·rw [if_pos (by simpa using g1)] at hs; simp at hs
   ·rw [if_neg (by simpa using g1)] at hs
    by_cases g2 : hB bits ≤ l[i].toInt
    ·rw [if_pos (by simpa using g2)] at hs; simp at hs
    ·rw [if_neg (by simpa using g2)] at hs
     by_cases hk : k = i
     ·subst hk; omega
     ·exact ih (i + 1) q (by omega) (by omega) hs k (by omega) h2
 rw [cadenzaref18_Check, Hz, Bbh h, Aa, if_neg (by rw [Bg]; simp; omega), if_neg (by rw [Ax, Ac]; simp; omega)] at hc
 have := key l.length 0 Az (by omega) (by have := Am; omega) hc
 intro x hx
 obtain ⟨k, hk, rfl⟩ := List.getElem_of_mem hx
 exact this k (by omega) hk
theorem Az3 {bits : Int} (h : Dp bits) {l : List Int32} (hl : l.length ≤ 4000) (hc : cadenzaref18_Check bits l = some 0) : width_Bytes bits l = some (bytesB bits l, 0) := by
 have h1 := Bkd h l hl (Auo h hl hc) l.length 0 Az (by omega) (by have := Am; omega)
 rw [width_Bytes, Ahq, Azn h l hl, hc, Aa, if_neg (by rw [Ah]; simp)]
 exact h1
theorem Brn {bits : Int} (h : Dp bits) (x : Int32) (hr : -(hB bits) ≤ x.toInt ∧ x.toInt < hB bits) : Wx bits x = some (Adm bits x.toInt) := by
 have hx := Abd x
 have gu : ∀ z : Int, (Ad z : UInt8) = u8 z := fun z => rfl
 have hq : ∀ n : Int, 0 ≤ n → n ≤ 20000000 → Df n (256 : Int) = n / 256 ∧ Df n (65536 : Int) = n / 65536 := by
  intro n h1 h2
  constructor <;> (rw [Afp, Int.tdiv_eq_ediv_of_nonneg h1, Cc (by omega) (by omega)])
 have hm : ∀ n : Int, 0 ≤ n → Kf n (256 : Int) = n % 256 := fun n h1 => by rw [Kf, Int.tmod_eq_emod_of_nonneg h1]
 rw [Wx, Xv, Em]
 obtain rfl | rfl | rfl := h
 ·rw [if_pos (by rw [Bg]; rfl), Ag (by omega) (by omega), gu, Adm, if_pos rfl]
 ·have hh : hB 16 = 32768 := rfl
  rw [hh] at hr
  have hp : ∀ n : Int, 0 ≤ n → n ≤ 70000 → u8 n = u8 x.toInt → u8 (n / 256) = u8 (x.toInt / 256) → Hm 16 n = some (Adm 16 x.toInt) := by
   intro n h1 h2 h3 h4
   rw [Hm, Xz, if_neg (by rw [Bg]; decide), hm n h1, (hq n h1 (by omega)).1, hm _ (by omega), gu, gu, Bda, Bda, h3, h4, Adm, if_neg (by decide), if_pos rfl]
  rw [if_neg (by rw [Bg]; decide)]
  by_cases hn : x.toInt < 0
  ·rw [if_pos (by rw [Af]; simpa using hn), Bbh (.inr (.inl rfl)), Aa, hh, Gu (by omega) (by omega), Ag (by omega) (by omega)]
   refine hp _ (by omega) (by omega) ?_ ?_
   ·rw [u8, u8]; congr 2; omega
   ·rw [u8, u8]; congr 2; omega
  ·rw [if_neg (by rw [Af]; simpa using hn)]
   exact hp _ (by omega) (by omega) rfl rfl
 ·have hh : hB 24 = 8388608 := rfl
  rw [hh] at hr
  have hp : ∀ n : Int, 0 ≤ n → n ≤ 16777215 → u8 n = u8 x.toInt → u8 (n / 256) = u8 (x.toInt / 256) → u8 (n / 65536) = u8 (x.toInt / 65536) → Hm 24 n = some (Adm 24 x.toInt) := by
   intro n h1 h2 h3 h4 h5
   rw [Hm, Xz, if_pos (by rw [Bg]; rfl), hm n h1, (hq n h1 (by omega)).1, (hq n h1 (by omega)).2, hm _ (by omega), gu, gu, gu, Bda, Bda, h3, h4, h5, Gt (by simp), Aa, Adm, if_neg (by decide), if_neg (by decide)]; rfl
  rw [if_neg (by rw [Bg]; decide)]
  by_cases hn : x.toInt < 0
  ·rw [if_pos (by rw [Af]; simpa using hn), Bbh (.inr (.inr rfl)), Aa, hh, Gu (by omega) (by omega), Ag (by omega) (by omega)]
   refine hp _ (by omega) (by omega) ?_ ?_ ?_
   ·rw [u8, u8]; congr 2; omega
   ·rw [u8, u8]; congr 2; omega
   ·rw [u8, u8]; congr 2; omega
  ·rw [if_neg (by rw [Af]; simpa using hn)]
   exact hp _ (by omega) (by omega) rfl rfl rfl
theorem Bjc {bits : Int} (h : Dp bits) (l : List Int32) (hl : l.length ≤ 4000) (hr : inR bits l) : ∀ (j i q : Nat), i + j = l.length → j < q → Fv bits l q (i : Int) (bytesB bits (l.take i)) = some (bytesB bits l, 0)
 | 0, i, q + 1, hi, _ => by
  rw [Fv, Ls, if_neg (by rw [Af, Ac]; simp; omega), List.take_of_length_le (by omega)]; rfl
 | j + 1, i, q + 1, hi, hq => by
  have hlt : i < l.length := by omega
  have ih := Bjc h l hl hr j (i + 1) q (by omega) (by omega)
  have hlen := Amw bits (l.take i)
  have hol := Bfl bits l[i].toInt
  rw [List.length_take] at hlen
  have e2 : bytesB bits (l.take i ++ [l[i]]) = bytesB bits (l.take i) ++ Adm bits l[i].toInt := by unfold bytesB; rw [List.flatMap_append, List.flatMap_singleton]
  rw [Akz hlt, e2] at ih
  rw [Fv, Ls, if_pos (by rw [Af, Ac]; simp; omega), Cp hlt, Aa, Brn h _ (hr l[i] (List.getElem_mem _)), Aa, Gt (by omega), Aa, Ag (by omega) (by omega)]
  exact ih
theorem Baz {bits : Int} (h : Dp bits) {l : List Int32} (hl : l.length ≤ 4000) (hc : cadenzaref18_Check bits l = some 0) : Qz bits l = some (bytesB bits l, 0) := by
 have h1 := Bjc h l hl (Auo h hl hc) l.length 0 Az (by omega) (by have := Am; omega)
 rw [Qz, To, hc, Aa, if_neg (by rw [Ah]; simp)]
 exact h1
end Go.Pl
set_option linter.unusedVariables false
set_option linter.unusedSimpArgs false
namespace Go.Pl
open Go Go.Lv
def Ake : List UInt8 → Nat → Int × Int
 | [], n => ((n : Int), 0)
 | c :: r, n => if 128 ≤ c.toNat then (0, 12) else Ake r (128 * n + c.toNat)
theorem Bjs : ∀ (l : List UInt8) (n k : Nat), n < 128 ^ k → 0 ≤ (Ake l n).1 ∧ (Ake l n).1 < ((128 ^ (k + l.length) : Nat) : Int)
 | [], n, k, h => by simp [Ake]; exact_mod_cast h
 | c :: r, n, k, h => by
  rw [Ake]
  split
  ·have : 0 < 128 ^ (k + (c :: r).length) := Nat.pow_pos (by omega)
   exact ⟨Int.le_refl _, by simp only; exact_mod_cast this⟩
  ·have := Bjs r (128 * n + c.toNat) (k + 1) (by rw [Nat.pow_succ]; omega)
   rw [List.length_cons, show k + (r.length + 1) = k + 1 + r.length by omega]
   exact this
theorem or7 (n c : Nat) (hn : n < 268435456) (hc : c < 128) : gor (Fh (n : Int) (GI.toZ (7 : UInt64)).toNat) (c : Int) = ((128 * n + c : Nat) : Int) := by
 have e : (GI.toZ (7 : UInt64)).toNat = 7 := rfl
 have h1 : Fh (n : Int) 7 = ((2 ^ 7 * n : Nat) : Int) := by
  have : Fh (n : Int) 7 = wrap64 ((n : Int) * 2 ^ 7) := rfl
  rw [this, Cc (by omega) (by omega)]; omega
 rw [e, h1]
 have h2 : gor ((2 ^ 7 * n : Nat) : Int) (c : Int) = wrap64 ((BitVec.ofInt 64 ((2 ^ 7 * n : Nat) : Int) ||| BitVec.ofInt 64 (c : Int)).toNat : Int) := rfl
 rw [h2, BitVec.toNat_or, BitVec.toNat_ofInt, BitVec.toNat_ofInt]
 have h3 : (((2 ^ 7 * n : Nat) : Int) % ((2 ^ 64 : Nat) : Int)).toNat = 2 ^ 7 * n := by omega
 have h4 : ((c : Int) % ((2 ^ 64 : Nat) : Int)).toNat = c := by omega
 rw [h3, h4, ← Nat.two_pow_add_eq_or_of_lt (by simpa using hc), Cc (by omega) (by omega)]
theorem Bkb (b : List UInt8) (hb : b.length = 4) : ∀ (j i q n : Nat), i + j = 4 → j < q → n < 128 ^ i → Kt b q (n : Int) (i : Int) = some (Ake (b.drop i) n)
 | 0, i, q + 1, n, hi, _, _ => by
  rw [Kt, Xa, if_neg (by rw [Af, Ac]; simp; omega), show b.drop i = [] by simp; omega]; rfl
 | j + 1, i, q + 1, n, hi, hq, hn => by
  have hlt : i < b.length := by omega
  have hn2 : n < 268435456 := Nat.lt_of_lt_of_le hn (show 128 ^ i ≤ 128 ^ 4 from Nat.pow_le_pow_right (by omega) (by omega))
  rw [Kt, Xa, if_pos (by rw [Af, Ac]; simp; omega), Cp hlt, Aa, drop_cons hlt, Ake, Bo6]
  by_cases hc : 128 ≤ b[i].toNat
  ·rw [if_pos (by simp; omega), if_pos hc]
  ·rw [if_neg (by simp; omega), if_neg hc, Ag7, or7 n _ hn2 (by omega), Ag (by omega) (by omega)]
   exact Bkb b hb j (i + 1) q _ (by omega) (by omega) (by rw [Nat.pow_succ]; omega)
theorem Bm6 (b : List UInt8) (hb : b.length = 4) : ∀ (j i q n : Nat), i + j = 4 → j < q → n < 128 ^ i → Fu b q (n : Int) (i : Int) = some (Ake (b.drop i) n)
 | 0, i, q + 1, n, hi, _, _ => by
  rw [Fu, Mb, if_neg (by rw [Af]; simp; omega), show b.drop i = [] by simp; omega]; rfl
 | j + 1, i, q + 1, n, hi, hq, hn => by
  have hlt : i < b.length := by omega
  have hn2 : n < 268435456 := Nat.lt_of_lt_of_le hn (show 128 ^ i ≤ 128 ^ 4 from Nat.pow_le_pow_right (by omega) (by omega))
  rw [Fu, Mb, if_pos (by rw [Af]; simp; omega), Cp hlt, Aa, drop_cons hlt, Ake, Bmz]
  have h128 : (128 : UInt8).toNat = 128 := rfl
  by_cases hc : 128 ≤ b[i].toNat
  ·rw [if_pos (by simpa using hc), if_pos hc]
  ·have h3 := b[i].toNat_lt
   rw [if_neg (by simpa using hc), if_neg hc, Aa, Ag7, Gu (by omega) (by omega), Ag (by omega) (by omega), Ag (by omega) (by omega)]
   have := Bm6 b hb j (i + 1) q (128 * n + b[i].toNat) (by omega) (by omega) (by rw [Nat.pow_succ]; omega)
   rw [← this]; rfl
theorem Bhq (b : List UInt8) (hb : b.length = 4) : Aed b = some (Ake b 0) := by
 have h := Bkb b hb 4 0 Az 0 (by omega) (by have := Am; omega) (by simp)
 rw [Aed, Adf, if_neg (by rw [Ah, Ac]; simp; omega), Adk]; exact h
theorem Bmq (b : List UInt8) (hb : b.length = 4) : Se b = some (Ake b 0) := by
 have h := Bm6 b hb 4 0 Az 0 (by omega) (by have := Am; omega) (by simp)
 rw [Se, Tt, if_neg (by rw [Ah, Ac]; simp; omega), Ty]; exact h
theorem Bix {b : List UInt8} (hb : b.length = 4) : 0 ≤ (Ake b 0).1 ∧ (Ake b 0).1 < 268435456 := by
 have := Bjs b 0 0 (by simp)
 rw [hb] at this
 simpa using this
theorem Al6 (s p : List UInt8) : Jt s p = some (decide (p.length ≤ s.length ∧ s.take p.length = p)) := by
 rw [Jt]
 by_cases h : p.length ≤ s.length
 ·rw [if_pos (by rw [Dv, Ac, Ac]; simp; omega), show Ac p = (p.length : Int) from rfl, Jo (by omega) (by omega), Aa, Gj, Aa, Int.toNat_natCast]
  congr 1
  rw [Bool.eq_iff_iff]; simp [h]
 ·rw [if_neg (by rw [Dv, Ac, Ac]; simp; omega)]
  simp [h]
def Ak9 (b : List UInt8) (n : Int) : Int × Int :=
 if 4000 < n then (0, 4) else if (b.length : Int) < n then (0, 24) else
 if b.getD 5 0 = 16 ∧ (b.take n.toNat).drop (n - 10).toNat ≠ [51, 68, 73] ++ part b 3 7 then (0, 12) else (n, 0)
def Ax9 (b : List UInt8) (r : Int) : Int × Int := Ak9 b (r + 10 + (if b.getD 5 0 = 16 then 10 else 0))
def Yo (b : List UInt8) : Int × Int :=
 if ¬ (3 ≤ b.length ∧ b.take 3 = [73, 68, 51]) then (0, 6) else if b.length < 10 then (0, 24) else
 if (Ake (part b 6 4) 0).2 ≠ 0 ∨ b.getD 4 0 ≠ 0 ∨ ¬ ((b.getD 5 0 = 0 ∧ 2 ≤ (b.getD 3 0).toNat ∧ (b.getD 3 0).toNat ≤ 4) ∨ (b.getD 5 0 = 16 ∧ b.getD 3 0 = 4)) then (0, 12) else
 Ax9 b (Ake (part b 6 4) 0).1
theorem Arj {b : List UInt8} {i : Nat} (h : i < b.length) : getI b (i : Int) = some (b.getD i 0) := by
 rw [Cp h]; simp [List.getD_eq_getElem?_getD, h]
theorem My {b : List UInt8} (a w : Nat) (h : a + w ≤ b.length) : Bt b (a : Int) ((a + w : Nat) : Int) = some (part b a w) := by
 rw [Ps (by omega) (by omega) (by omega)]; rfl
theorem Br9 (b : List UInt8) (r : Int) (h10 : 10 ≤ b.length) (h0 : 0 ≤ r) (h1 : r < 268435456) : Mt b r = some (Ax9 b r) := by
 have g5 : getI b (5 : Int) = some (b.getD 5 0) := Arj (i := 5) (by omega)
 have key : ∀ n : Int, 10 ≤ n → n < 268435500 → Nv b n = some (Ak9 b n) := by
  intro n hn hn2
  rw [Nv, Aff, Ak9]
  by_cases c1 : 4000 < n
  ·rw [if_pos (by rw [Ax]; simpa using c1), if_pos c1]
  ·rw [if_neg (by rw [Ax]; simpa using c1), if_neg c1]
   by_cases c2 : (b.length : Int) < n
   ·rw [if_pos (by rw [Af, Ac]; simpa using c2), if_pos c2]
   ·have e3 : Bt b (3 : Int) (10 : Int) = some (part b 3 7) := My 3 7 (by omega)
    rw [if_neg (by rw [Af, Ac]; simpa using c2), if_neg c2, g5, Aa]
    by_cases c3 : b.getD 5 0 = 16
    ·rw [if_pos (by rw [Akk]; simpa using c3), Bi (by omega) (by omega), Ps (by omega) (by omega) (by omega), Aa, e3, Aa, Gt (by rw [Dn (by omega)]; simp), Aa]
     by_cases c4 : (b.take n.toNat).drop (n - 10).toNat = [51, 68, 73] ++ part b 3 7
     ·rw [if_neg (by simpa using c4), if_neg (by intro h; exact h.2 c4)]
     ·rw [if_pos (by simpa using c4), if_pos ⟨c3, c4⟩]
    ·rw [if_neg (by rw [Akk]; simpa using c3), if_neg (fun h => c3 h.1)]
 rw [Mt, Vl, g5, Aa, Ax9]
 by_cases c3 : b.getD 5 0 = 16
 ·rw [if_pos (by rw [Akk]; simpa using c3), Ag (by rw [Ag] <;> omega) (by rw [Ag] <;> omega), Ag (by omega) (by omega), key _ (by omega) (by omega), if_pos c3, show 10 + r + 10 = r + 10 + 10 by omega]
 ·rw [if_neg (by rw [Akk]; simpa using c3), Ag (by omega) (by omega), key _ (by omega) (by omega), if_neg c3, show 10 + r = r + 10 + 0 by omega]
theorem Bn8 (b : List UInt8) (hb : b.length < 4611686018427387904) : Vc b = some (Yo b) := by
 rw [Vc, Vy, Yo]
 by_cases h3 : 3 ≤ b.length
 ·rw [if_neg (by rw [Af, Ac]; simp; omega), Jo (by omega) (by omega), Aa]
  by_cases hp : b.take 3 = [73, 68, 51]
  ·rw [if_neg (by simpa using hp), if_neg (by simp [h3, hp]), Vw, Vn]
   by_cases h10 : b.length < 10
   ·rw [if_pos (by rw [Af, Ac]; simp; omega), if_pos h10]
   ·have e6 : Bt b (6 : Int) (10 : Int) = some (part b 6 4) := My 6 4 (by omega)
    have g3 : getI b (3 : Int) = some (b.getD 3 0) := Arj (i := 3) (by omega)
    have g4 : getI b (4 : Int) = some (b.getD 4 0) := Arj (i := 4) (by omega)
    have g5 : getI b (5 : Int) = some (b.getD 5 0) := Arj (i := 5) (by omega)
    obtain ⟨v1, v2⟩ := Bix (b := part b 6 4) (Dn (by omega))
    rw [if_neg (by rw [Af, Ac]; simp; omega), if_neg h10, e6, Aa, Bmq _ (Dn (by omega)), Aa]
    have ht := Br9 b (Ake (part b 6 4) 0).1 (by omega) v1 v2
    generalize Ake (part b 6 4) 0 = v at *
    obtain ⟨v, e⟩ := v
    simp only at ht v1 v2 ⊢
    simp only [Aa, g3, g4, g5, ht]
    generalize b.getD 3 0 = x at *
    generalize b.getD 4 0 = y at *
    generalize b.getD 5 0 = z at *
    simp only [Bh3, Bt5, Bo6, Ah]
    by_cases he : e = 0 <;> by_cases hy : y = 0 <;> by_cases hz : z = 0 <;> by_cases hz2 : z = 16 <;> by_cases hx : x = 4 <;> by_cases hx2 : x.toNat < 2 <;> by_cases hx4 : 4 < x.toNat <;> simp_all <;> (rw [if_neg (by omega), if_neg (by omega)])
  ·rw [if_pos (by simpa using hp), if_pos (by simp [hp])]
 ·rw [if_pos (by rw [Af, Ac]; simp; omega), if_pos (by simp [h3])]
theorem Ban (b : List UInt8) (n : Int) (h10 : 10 ≤ b.length) (hn : 10 ≤ n) (hn2 : n < 268435500) : Yu b (b.getD 5 0) n = some (Ak9 b n) := by
 rw [Yu, Anl]
 by_cases c1 : 4000 < n
 ·rw [if_pos (by rw [Ax]; simpa using c1), Ak9, if_pos c1]
 ·rw [if_neg (by rw [Ax]; simpa using c1)]
  by_cases c2 : (b.length : Int) < n
  ·rw [if_pos (by rw [Af, Ac]; simpa using c2), Ak9, if_neg c1, if_pos c2]
  ·have e3 : Bt b (3 : Int) (10 : Int) = some (part b 3 7) := My 3 7 (by omega)
   rw [if_neg (by rw [Af, Ac]; simpa using c2)]
   by_cases c3 : b.getD 5 0 = 16
   ·have hl : ((b.take n.toNat).drop (n - 10).toNat).length = 10 := by simp; omega
    have ht : Ak9 b n = if (b.take n.toNat).drop (n - 10).toNat ≠ [51, 68, 73] ++ part b 3 7 then (0, 12) else (n, 0) := by rw [Ak9, if_neg c1, if_neg c2]; simp only [c3, true_and]
    rw [if_pos (by rw [Akk]; simpa using c3), Bi (by omega) (by omega), Ps (by omega) (by omega) (by omega), Aa, ht]
    generalize (b.take n.toNat).drop (n - 10).toNat = f at *
    rw [Jo (by omega) (by omega), Aa, Gi (by omega) (by omega), Aa, e3, Aa, Gj, Aa]
    have hf : f = f.take 3 ++ f.drop 3 := (List.take_append_drop 3 f).symm
    by_cases c4 : f = [51, 68, 73] ++ part b 3 7
    ·subst c4
     simp
    ·by_cases c5 : f.take 3 = [51, 68, 73]
     ·have : f.drop 3 ≠ part b 3 7 := fun h => c4 (by rw [hf, c5, h])
      simp only [List.cons_append, List.nil_append] at c4
      simp [c4, c5, this]
     ·simp only [List.cons_append, List.nil_append] at c4
      simp [c4, c5]
   ·rw [if_neg (by rw [Akk]; simpa using c3), Ak9, if_neg c1, if_neg c2, if_neg (fun h => c3 h.1)]
theorem Bnd (b : List UInt8) (r : Int) (h10 : 10 ≤ b.length) (h0 : 0 ≤ r) (h1 : r < 268435456) : Yx b r (b.getD 5 0) = some (Ax9 b r) := by
 rw [Yx, Af8, Ax9]
 by_cases c3 : b.getD 5 0 = 16
 ·rw [if_pos (by rw [Akk]; simpa using c3), Ag (by rw [Ag] <;> omega) (by rw [Ag] <;> omega), Ag (by omega) (by omega), Ban b _ h10 (by omega) (by omega), if_pos c3]
 ·rw [if_neg (by rw [Akk]; simpa using c3), Ag (by omega) (by omega), Ban b _ h10 (by omega) (by omega), if_neg c3]; simp
theorem Bme (b : List UInt8) (hb : b.length < 4611686018427387904) : Agx b = some (Yo b) := by
 rw [Agx, Yy, Al6, Aa]
 by_cases hp : 3 ≤ b.length ∧ b.take 3 = [73, 68, 51]
 ·rw [if_neg (by simpa using hp)]
  by_cases h10 : b.length < 10
  ·rw [if_pos (by rw [Af, Ac]; simp; omega), Yo, if_neg (fun h => h hp), if_pos h10]
  ·have e6 : Bt b (6 : Int) (10 : Int) = some (part b 6 4) := My 6 4 (by omega)
   have g3 : getI b (3 : Int) = some (b.getD 3 0) := Arj (i := 3) (by omega)
   have g4 : getI b (4 : Int) = some (b.getD 4 0) := Arj (i := 4) (by omega)
   have g5 : getI b (5 : Int) = some (b.getD 5 0) := Arj (i := 5) (by omega)
   obtain ⟨v1, v2⟩ := Bix (b := part b 6 4) (Dn (by omega))
   have ht := Bnd b (Ake (part b 6 4) 0).1 (by omega) v1 v2
   rw [if_neg (by rw [Af, Ac]; simp; omega), g3, Aa, g5, Aa, Af4, Afs, e6, Aa, Bhq _ (Dn (by omega)), Aa, Yo, if_neg (fun h => h hp), if_neg h10]
   generalize Ake (part b 6 4) 0 = v at *
   obtain ⟨v, e⟩ := v
   simp only at ht v1 v2 ⊢
   simp only [Aa, g4, Af9, Af2]
   generalize b.getD 3 0 = x at *
   generalize b.getD 4 0 = y at *
   generalize b.getD 5 0 = z at *
   simp only [Bh3, Btw, Akk, Bmz, Ah]
   have e2 : (2 : UInt8).toNat = 2 := rfl
   have e4 : (4 : UInt8).toNat = 4 := rfl
   by_cases he : e = 0 <;> by_cases hy : y = 0 <;> by_cases hz : z = 0 <;> by_cases hz2 : z = 16 <;> by_cases hx : x = 4 <;> by_cases hx2 : 2 ≤ x.toNat <;> by_cases hx4 : x.toNat ≤ 4 <;> simp_all
 ·rw [if_pos (by rw [Bool.not_eq_true', decide_eq_false_iff_not]; exact hp), Yo, if_pos hp]
theorem Bfn {b : List UInt8} {n : Int} (h : Yo b = (n, 0)) : 10 ≤ n ∧ n ≤ b.length ∧ n ≤ 4000 := by
 unfold Yo at h
 split at h; · simp at h
 split at h; · simp at h
 split at h; · simp at h
 rename_i h10 _
 obtain ⟨v1, v2⟩ := Bix (b := part b 6 4) (Dn (by omega))
 unfold Ax9 at h
 generalize hm : (Ake (part b 6 4) 0).1 + 10 + (if b.getD 5 0 = 16 then 10 else 0) = m at h
 unfold Ak9 at h
 split at h; · simp at h
 split at h; · simp at h
 split at h; · simp at h
 simp only [Prod.mk.injEq, and_true] at h
 subst h
 refine ⟨?_, by omega, by omega⟩
 rw [← hm]
 split <;> omega
end Go.Pl
set_option linter.unusedVariables false
set_option linter.unusedSimpArgs false
namespace Go.Pl
open Go Go.Lv
def APE : List UInt8 := [65, 80, 69, 84, 65, 71, 69, 88]
def Mq (n m fl : Nat) : List UInt8 := APE ++ leB 2000 4 ++ leB (n + 32) 4 ++ leB m 4 ++ leB fl 4 ++ List.replicate 8 0
theorem Ajk {n : Nat} (h : n < 18446744073709551616) : (UInt64.ofNat n).toNat = n := by rw [UInt64.toNat_ofNat', Nat.mod_eq_of_lt h]
theorem Aqg (n m : Int) (fl : UInt64) (c : UInt64) (i q : Nat) (acc : List UInt8) (hi : i < 6) (hc : getI ([(2000 : UInt64), (Ad (Ae n (32 : Int)) : UInt64), (Ad m : UInt64), fl, (0 : UInt64), (0 : UInt64)] : List UInt64) (i : Int) = some c) (h : c.toNat < 4294967296) (ha : acc.length ≤ 1000000) :
  Ze n m fl (q + 1) (i : Int) acc = Ze n m fl q ((i + 1 : Nat) : Int) (acc ++ leB c.toNat 4) := by
 have hb := Bel c 4 (by omega) (by omega) (by simpa using h)
 rw [Ze, Am9, if_pos (by rw [Af, Ac]; simp; omega), hc, Aa, Aa, show ((4 : Int)) = ((4 : Nat) : Int) from rfl, hb, Aa]
 simp only
 rw [Gt (by rw [Nm]; omega), Aa, Ag (by omega) (by omega)]; rfl
theorem Ay5 (n m : Nat) (fl : UInt64) (hn : n ≤ 3000) (hm : m ≤ 1000) (hf : fl.toNat < 4294967296) : Aqe (n : Int) (m : Int) fl = some (Mq n m fl.toNat) := by
 have e1 : (Ad (Ae (n : Int) (32 : Int)) : UInt64).toNat = n + 32 := by rw [Ag (by omega) (by omega), show (n : Int) + 32 = ((n + 32 : Nat) : Int) by omega, Aaj, Ajk (by omega)]
 have e2 : (Ad (m : Int) : UInt64).toNat = m := by rw [Aaj, Ajk (by omega)]
 have hF : Az = (Az - 7) + 1 + 1 + 1 + 1 + 1 + 1 + 1 := by have := Am; omega
 rw [Aqe, Ark, Arm, hF]
 rw [show ((0 : Int)) = ((0 : Nat) : Int) from rfl, Aqg n m fl 2000 0 _ _ (by omega) rfl (by decide) (by simp), Aqg n m fl _ 1 _ _ (by omega) rfl (by rw [e1]; omega) (by simp [Nm]), Aqg n m fl _ 2 _ _ (by omega) rfl (by rw [e2]; omega) (by simp [Nm]),
  Aqg n m fl fl 3 _ _ (by omega) rfl hf (by simp [Nm]), Aqg n m fl 0 4 _ _ (by omega) rfl (by decide) (by simp [Nm]), Aqg n m fl 0 5 _ _ (by omega) rfl (by decide) (by simp [Nm]), e1, e2]
 rw [Ze, Am9, if_neg (by rw [Af, Ac]; simp), Ary, Axr, Mq]
 have z : leB (0 : UInt64).toNat 4 ++ leB (0 : UInt64).toNat 4 = List.replicate 8 0 := by decide
 have z2 : leB (2000 : UInt64).toNat 4 = leB 2000 4 := rfl
 rw [List.append_assoc _ (leB (0 : UInt64).toNat 4), z, z2]; rfl
theorem Asf (n m : Nat) (fl : UInt64) (hn : n ≤ 3000) (hm : m ≤ 1000) (hf : fl.toNat < 4294967296) : Kr (n : Int) (m : Int) fl = some (Mq n m fl.toNat) := by
 have e1 : (Ad (Ae (n : Int) (32 : Int)) : UInt64).toNat = n + 32 := by rw [Ag (by omega) (by omega), show (n : Int) + 32 = ((n + 32 : Nat) : Int) by omega, Aaj, Ajk (by omega)]
 have e2 : (Ad (m : Int) : UInt64).toNat = m := by rw [Aaj, Ajk (by omega)]
 have w : ∀ c : UInt64, Dg c 4 = some (leB c.toNat 4) := fun c => Axe c 4 (by omega)
 have z2 : leB (2000 : UInt64).toNat 4 = leB 2000 4 := rfl
 rw [Kr]
 simp only [w, e1, e2, Aa]
 rw [Gt (by simp [Nm]), Aa, Gt (by simp [Nm]), Aa, Gt (by simp [Nm]), Aa, Gt (by simp [Nm]), Aa, Aw5 (by omega) (by omega), Aa, Gt (by simp [Nm]), Aa, z2]; rfl
theorem Qs {b : List UInt8} {a w k : Nat} (h : a + w ≤ k) : part (b.take k) a w = part b a w := by rw [part, part, List.take_take, Nat.min_eq_left h]
def Aas (b : List UInt8) : Bool := decide (Ed (part b 12 4) < 32 ∨ 3032 < Ed (part b 12 4) ∨ 1000 < Ed (part b 16 4))
theorem Bnj (b : List UInt8) (h : 20 ≤ b.length) : (((Cu (leU (part b 12 4)) (32 : UInt64)) || (Gy (leU (part b 12 4)) (3032 : UInt64))) || (Gy (leU (part b 16 4)) (1000 : UInt64))) = Aas b := by
 rw [Av5, Aji, Aji, Ajw (by rw [Dn (by omega)]; omega), Ajw (by rw [Dn (by omega)]; omega), Aas]
 show ((decide (Ed (part b 12 4) < 32) || decide (3032 < Ed (part b 12 4))) || decide (1000 < Ed (part b 16 4))) = _
 simp [Bool.or_assoc]
theorem Ato (b : List UInt8) (h : 20 ≤ b.length) (hb : Aas b = false) : Al (Ad (leU (part b 12 4)) : Int) (32 : Int) = ((Ed (part b 12 4) - 32 : Nat) : Int) ∧ (Ad (leU (part b 16 4)) : Int) = ((Ed (part b 16 4) : Nat) : Int) ∧ Ed (part b 12 4) - 32 ≤ 3000 ∧ Ed (part b 16 4) ≤ 1000 := by
 simp only [Aas, decide_eq_false_iff_not] at hb
 refine ⟨?_, Aee (by rw [Dn (by omega)]; omega), by omega, by omega⟩
 rw [Aee (by rw [Dn (by omega)]; omega), Bi (by omega) (by omega)]; omega
theorem Amr (b : List UInt8) (fl : UInt64) (h : 20 ≤ b.length) (hl : b.length < 4611686018427387904) (hf : fl.toNat < 4294967296) :
  Ag4 b fl = some (if Aas b = true then (0, 0, false) else (((Ed (part b 12 4) - 32 : Nat) : Int), ((Ed (part b 16 4) : Nat) : Int), b == Mq (Ed (part b 12 4) - 32) (Ed (part b 16 4)) fl.toNat)) := by
 have a1 : Alp b 12 4 = some (leU (part b 12 4), 0) := Bao b 12 4 (by omega) (by omega) (by omega) hl
 have a2 : Alp b 16 4 = some (leU (part b 16 4), 0) := Bao b 16 4 (by omega) (by omega) (by omega) hl
 rw [Ag4, a1, Aa]
 simp only
 rw [a2, Aa]
 simp only
 rw [Bnj b h]
 cases hb : Aas b with
 | true => rfl
 | false =>
  obtain ⟨i1, i2, i3, i4⟩ := Ato b h hb
  rw [i1, i2, Ay5 _ _ _ i3 i4 hf]
  rfl
theorem Bgf (b : List UInt8) (h : 20 ≤ b.length) (hl : b.length < 4611686018427387904) :
  Jb b = some (if Aas b = true then (0, 0, false) else (((Ed (part b 12 4) - 32 : Nat) : Int), ((Ed (part b 16 4) : Nat) : Int), true)) := by
 have a1 : Bt b 12 16 = some (part b 12 4) := My 12 4 (by omega)
 have a2 : Bt b 16 20 = some (part b 16 4) := My 16 4 (by omega)
 rw [Jb, a1, Aa, Bge _ (by rw [Dn (by omega)]; omega), Aa, a2, Aa, Bge _ (by rw [Dn (by omega)]; omega), Aa, Bnj b h]
 cases hb : Aas b with
 | true => rfl
 | false =>
  obtain ⟨i1, i2, i3, i4⟩ := Ato b h hb
  rw [i1, i2]; rfl
def Ki (b : List UInt8) : Int × Int :=
 if ¬ (8 ≤ b.length ∧ b.take 8 = APE) then (0, 6) else if b.length < 32 then (0, 24) else
 if Aas b = true ∨ b.take 32 ≠ Mq (Ed (part b 12 4) - 32) (Ed (part b 16 4)) 2684354560 then (0, 12) else
 if b.length < Ed (part b 12 4) + 32 then (0, 24) else
 if (b.take (Ed (part b 12 4) + 32)).drop (Ed (part b 12 4)) ≠ Mq (Ed (part b 12 4) - 32) (Ed (part b 16 4)) 2147483648 then (0, 12) else (((Ed (part b 12 4) + 32 : Nat) : Int), 0)
theorem Bf6 (b : List UInt8) : Aas (b.take 32) = Aas b := by rw [Aas, Aas, Qs (by omega), Qs (by omega)]
section
variable {b : List UInt8}
theorem fa1 (h : ¬ (8 ≤ b.length ∧ b.take 8 = APE)) : Ki b = (0, 6) := by rw [Ki, if_pos h]
theorem fa2 (h : 8 ≤ b.length ∧ b.take 8 = APE) (h2 : b.length < 32) : Ki b = (0, 24) := by rw [Ki, if_neg (fun h' => h' h), if_pos h2]
variable (h : 8 ≤ b.length ∧ b.take 8 = APE) (h2 : ¬ b.length < 32)
include h h2
theorem fa3 (h3 : Aas b = true) : Ki b = (0, 12) := by rw [Ki, if_neg (fun h' => h' h), if_neg h2, if_pos (.inl h3)]
theorem fa4 (h4 : b.take 32 ≠ Mq (Ed (part b 12 4) - 32) (Ed (part b 16 4)) 2684354560) : Ki b = (0, 12) := by rw [Ki, if_neg (fun h' => h' h), if_neg h2, if_pos (.inr h4)]
variable (h3 : Aas b = false) (h4 : b.take 32 = Mq (Ed (part b 12 4) - 32) (Ed (part b 16 4)) 2684354560)
include h3 h4
theorem fa5 (h5 : b.length < Ed (part b 12 4) + 32) : Ki b = (0, 24) := by
 rw [Ki, if_neg (fun h' => h' h), if_neg h2, if_neg (fun h' => h'.elim (fun e => by rw [h3] at e; cases e) fun e => e h4), if_pos h5]
theorem fa6 (h5 : ¬ b.length < Ed (part b 12 4) + 32) (h6 : (b.take (Ed (part b 12 4) + 32)).drop (Ed (part b 12 4)) ≠ Mq (Ed (part b 12 4) - 32) (Ed (part b 16 4)) 2147483648) : Ki b = (0, 12) := by
 rw [Ki, if_neg (fun h' => h' h), if_neg h2, if_neg (fun h' => h'.elim (fun e => by rw [h3] at e; cases e) fun e => e h4), if_neg h5, if_pos h6]
theorem fa7 (h5 : ¬ b.length < Ed (part b 12 4) + 32) (h6 : (b.take (Ed (part b 12 4) + 32)).drop (Ed (part b 12 4)) = Mq (Ed (part b 12 4) - 32) (Ed (part b 16 4)) 2147483648) : Ki b = (((Ed (part b 12 4) + 32 : Nat) : Int), 0) := by
 rw [Ki, if_neg (fun h' => h' h), if_neg h2, if_neg (fun h' => h'.elim (fun e => by rw [h3] at e; cases e) fun e => e h4), if_neg h5, if_neg (fun h' => h' h6)]
end
theorem Bim (b : List UInt8) (hl : b.length < 4611686018427387904) : Aqh b = some (Ki b) := by
 rw [Aqh, Al6, Aa]
 by_cases hp : 8 ≤ b.length ∧ b.take 8 = APE
 ·rw [if_neg (by simpa [APE] using hp)]
  by_cases h32 : b.length < 32
  ·rw [if_pos (by rw [Af, Ac]; simp; omega), fa2 hp h32]
  ·have t := Amr (b.take 32) 2684354560 (by simp; omega) (by simp; omega) (by decide)
   rw [Bf6, Qs (by omega), Qs (by omega)] at t
   rw [if_neg (by rw [Af, Ac]; simp; omega), Jo (by omega) (by omega), Aa, show (32 : Int).toNat = 32 from rfl, t, Aa]
   cases hb : Aas b with
   | true => rw [fa3 hp h32 hb]; simp
   | false =>
    obtain ⟨i1, i2, i3, i4⟩ := Ato b (by omega) hb
    have i5 : 32 ≤ Ed (part b 12 4) := by simp only [Aas, decide_eq_false_iff_not] at hb; omega
    simp only [Bool.false_eq_true, if_false, false_or]
    by_cases c1 : b.take 32 = Mq (Ed (part b 12 4) - 32) (Ed (part b 16 4)) 2684354560
    ·have c1' : b.take 32 = Mq (Ed (part b 12 4) - 32) (Ed (part b 16 4)) (2684354560 : UInt64).toNat := c1
     rw [if_neg (by simpa using c1'), Ag (by omega) (by omega)]
     have e1 : ((Ed (part b 12 4) - 32 : Nat) : Int) + 64 = ((Ed (part b 12 4) + 32 : Nat) : Int) := by omega
     rw [e1]
     by_cases c2 : b.length < Ed (part b 12 4) + 32
     ·rw [if_pos (by rw [Af, Ac]; simp; omega), fa5 hp h32 hb c1 c2]
     ·rw [if_neg (by rw [Af, Ac]; simp; omega), Bi (by omega) (by omega), Ps (by omega) (by omega) (by omega), Aa, Ay5 _ _ _ i3 i4 (by decide), Aa, Gj, Aa]
      rw [show (((Ed (part b 12 4) + 32 : Nat) : Int)).toNat = Ed (part b 12 4) + 32 by omega, show (((Ed (part b 12 4) + 32 : Nat) : Int) - 32).toNat = Ed (part b 12 4) by omega]
      by_cases c3 : (b.take (Ed (part b 12 4) + 32)).drop (Ed (part b 12 4)) = Mq (Ed (part b 12 4) - 32) (Ed (part b 16 4)) 2147483648
      ·have c3' : (b.take (Ed (part b 12 4) + 32)).drop (Ed (part b 12 4)) = Mq (Ed (part b 12 4) - 32) (Ed (part b 16 4)) (2147483648 : UInt64).toNat := c3
       rw [if_neg (by simpa using c3'), fa7 hp h32 hb c1 c2 c3]
      ·have c3' : ¬ (b.take (Ed (part b 12 4) + 32)).drop (Ed (part b 12 4)) = Mq (Ed (part b 12 4) - 32) (Ed (part b 16 4)) (2147483648 : UInt64).toNat := c3
       rw [if_pos (by simpa using c3'), fa6 hp h32 hb c1 c2 c3]
    ·have c1' : ¬ b.take 32 = Mq (Ed (part b 12 4) - 32) (Ed (part b 16 4)) (2684354560 : UInt64).toNat := c1
     rw [if_pos (by simpa using c1'), fa4 hp h32 c1]
 ·rw [if_pos (by rw [Bool.not_eq_true', decide_eq_false_iff_not]; exact hp), fa1 hp]
theorem Bl5 (b : List UInt8) (hl : b.length < 4611686018427387904) : Re b = some (Ki b) := by
 rw [Re, Ul]
 by_cases h8 : 8 ≤ b.length
 ·rw [if_neg (by rw [Af, Ac]; simp; omega), Jo (by omega) (by omega), Aa, show (8 : Int).toNat = 8 from rfl]
  by_cases ha : b.take 8 = APE
  ·have hp := And.intro h8 ha
   rw [if_neg (by simpa [APE] using ha), Uj, Tw]
   by_cases h32 : b.length < 32
   ·rw [if_pos (by rw [Af, Ac]; simp; omega), fa2 hp h32]
   ·have t := Bgf (b.take 32) (by simp; omega) (by simp; omega)
    rw [Bf6, Qs (by omega), Qs (by omega)] at t
    rw [if_neg (by rw [Af, Ac]; simp; omega), Jo (by omega) (by omega), Aa, show (32 : Int).toNat = 32 from rfl, t, Aa]
    cases hb : Aas b with
    | true => rw [fa3 hp h32 hb]; simp
    | false =>
     obtain ⟨i1, i2, i3, i4⟩ := Ato b (by omega) hb
     have i5 : 32 ≤ Ed (part b 12 4) := by simp only [Aas, decide_eq_false_iff_not] at hb; omega
     simp only [Bool.false_eq_true, if_false, false_or, Aa, Bool.not_true]
     rw [Nn, Asf _ _ _ i3 i4 (by decide), Aa, Aa]
     by_cases c1 : b.take 32 = Mq (Ed (part b 12 4) - 32) (Ed (part b 16 4)) 2684354560
     ·have c1' : b.take 32 = Mq (Ed (part b 12 4) - 32) (Ed (part b 16 4)) (2684354560 : UInt64).toNat := c1
      rw [if_neg (by simpa using c1'), Uh, Acp, Ag (by omega) (by omega)]
      have e1 : 64 + ((Ed (part b 12 4) - 32 : Nat) : Int) = ((Ed (part b 12 4) + 32 : Nat) : Int) := by omega
      rw [e1]
      by_cases c2 : b.length < Ed (part b 12 4) + 32
      ·rw [if_pos (by rw [Af, Ac]; simp; omega), fa5 hp h32 hb c1 c2]
      ·rw [if_neg (by rw [Af, Ac]; simp; omega), Bi (by omega) (by omega), Ps (by omega) (by omega) (by omega), Aa, Dw, if_pos rfl, Asf _ _ _ i3 i4 (by decide), Aa, Aa]
       rw [show (((Ed (part b 12 4) + 32 : Nat) : Int)).toNat = Ed (part b 12 4) + 32 by omega, show (((Ed (part b 12 4) + 32 : Nat) : Int) - 32).toNat = Ed (part b 12 4) by omega]
       by_cases c3 : (b.take (Ed (part b 12 4) + 32)).drop (Ed (part b 12 4)) = Mq (Ed (part b 12 4) - 32) (Ed (part b 16 4)) 2147483648
       ·have c3' : (b.take (Ed (part b 12 4) + 32)).drop (Ed (part b 12 4)) = Mq (Ed (part b 12 4) - 32) (Ed (part b 16 4)) (2147483648 : UInt64).toNat := c3
        rw [if_neg (by simpa using c3'), fa7 hp h32 hb c1 c2 c3]
       ·have c3' : ¬ (b.take (Ed (part b 12 4) + 32)).drop (Ed (part b 12 4)) = Mq (Ed (part b 12 4) - 32) (Ed (part b 16 4)) (2147483648 : UInt64).toNat := c3
        rw [if_pos (by simpa using c3'), fa6 hp h32 hb c1 c2 c3]
     ·have c1' : ¬ b.take 32 = Mq (Ed (part b 12 4) - 32) (Ed (part b 16 4)) (2684354560 : UInt64).toNat := c1
      rw [if_pos (by simpa using c1'), fa4 hp h32 c1]
  ·rw [if_pos (by simpa [APE] using ha), fa1 (fun h => ha h.2)]
 ·rw [if_pos (by rw [Af, Ac]; simp; omega), fa1 (fun h => h8 h.1)]
theorem Aue {b : List UInt8} {n : Int} (h : Ki b = (n, 0)) : 64 ≤ n ∧ n ≤ b.length := by
 unfold Ki at h
 split at h; · simp at h
 split at h; · simp at h
 split at h; · simp at h
 rename_i hb
 split at h; · simp at h
 split at h; · simp at h
 simp only [Prod.mk.injEq, and_true] at h
 have hb' : ¬ Aas b = true := fun e => hb (.inl e)
 simp only [Aas, decide_eq_true_eq] at hb'
 omega
end Go.Pl
set_option linter.unusedVariables false
set_option linter.unusedSimpArgs false
namespace Go.Pl
open Go Go.Lv
def Dd (b : List UInt8) : Int × Int := if (Yo b).2 ≠ 6 then Yo b else Ki b
theorem size_eq (b : List UInt8) (hl : b.length < 4611686018427387904) : Vu b = some (Dd b) := by
 rw [Vu, Bme b hl, Aa, Bim b hl]
 by_cases h : (Yo b).2 = 6
 ·simp [Dd, h, Ah]
 ·simp [Dd, h, Ah]
theorem Ao0 {b : List UInt8} {n : Int} (h : Dd b = (n, 0)) : 10 ≤ n ∧ n ≤ b.length := by
 unfold Dd at h
 split at h
 ·have := Bfn h; omega
 ·have := Aue h; omega
def Bv (b : List UInt8) : Nat → Nat → List Int × Int
 | 0, _ => ([], 6)
 | j + 1, p => if (Dd (b.drop p)).2 = 6 then ([], 0) else if (Dd (b.drop p)).2 ≠ 0 then ([], (Dd (b.drop p)).2) else
  if 4000 < (p : Int) + (Dd (b.drop p)).1 then ([], 4) else
  if (Bv b j (p + (Dd (b.drop p)).1.toNat)).2 = 0 then ((Dd (b.drop p)).1 :: (Bv b j (p + (Dd (b.drop p)).1.toNat)).1, 0) else ([], (Bv b j (p + (Dd (b.drop p)).1.toNat)).2)
theorem Ala (b : List UInt8) : ∀ (j p : Nat), p ≤ b.length → p ≤ 4000 → (Bv b j p).2 = 0 → (∀ x ∈ (Bv b j p).1, 10 ≤ x) ∧ (p : Int) + (Bv b j p).1.sum ≤ b.length ∧ (p : Int) + (Bv b j p).1.sum ≤ 4000
 | 0, p, _, _, h => by simp [Bv] at h
 | j + 1, p, hp, hq, h => by
  rw [Bv] at h ⊢
  split at h
  ·rename_i h6; rw [if_pos h6]; simp; omega
  ·rename_i h6
   split at h
   ·rename_i h0; exact absurd h h0
   ·rename_i h0
    rw [if_neg h6, if_neg h0]
    have hz : Dd (b.drop p) = ((Dd (b.drop p)).1, 0) := by rw [Prod.ext_iff]; exact ⟨rfl, Classical.not_not.1 h0⟩
    have hs := Ao0 hz
    rw [List.length_drop] at hs
    split at h
    ·simp at h
    ·rename_i h4
     rw [if_neg h4]
     split at h
     ·rename_i h00
      rw [if_pos h00]
      obtain ⟨i1, i2, i3⟩ := Ala b j _ (by omega) (by omega) h00
      refine ⟨fun x hx => ?_, ?_, ?_⟩
      ·rcases List.mem_cons.1 hx with rfl | hx
       ·exact hs.1
       ·exact i1 x hx
      ·simp only [List.sum_cons]; omega
      ·simp only [List.sum_cons]; omega
     ·rename_i h00; exact absurd h h00
def Bip (b : List UInt8) (j p : Nat) : Int × Int := if (Bv b j p).2 = 0 then ((p : Int) + (Bv b j p).1.sum, 0) else (0, (Bv b j p).2)
theorem Axs (b : List UInt8) (hl : b.length < 4611686018427387904) : ∀ (j p q : Nat), p ≤ b.length → p ≤ 4000 → b.length - p < j → j ≤ q → Tf b q (p : Int) = some (Bip b j p)
 | 0, p, q, _, _, h, _ => by omega
 | j + 1, p, q, hp, hp4, hj, hq => by
  obtain ⟨q, rfl⟩ : ∃ k, q = k + 1 := ⟨q - 1, by omega⟩
  rw [Tf, Gi (by omega) (by omega), Aa, Int.toNat_natCast, size_eq _ (by simp; omega), Aa, Bg, Bg, Ah, Bip]
  by_cases h6 : (Dd (b.drop p)).2 = 6
  ·rw [if_pos (by simpa using h6)]
   have : Bv b (j + 1) p = ([], 0) := by rw [Bv, if_pos h6]
   rw [this]; simp
  ·rw [if_neg (by simpa using h6)]
   by_cases h0 : (Dd (b.drop p)).2 = 0
   ·have hz : Dd (b.drop p) = ((Dd (b.drop p)).1, 0) := by rw [Prod.ext_iff]; exact ⟨rfl, h0⟩
    have hs := Ao0 hz
    rw [List.length_drop] at hs
    rw [Ag (by omega) (by omega), Ax]
    by_cases h4 : 4000 < (p : Int) + (Dd (b.drop p)).1
    ·rw [if_pos (by simp [h0]; omega)]
     have : Bv b (j + 1) p = ([], 4) := by rw [Bv, if_neg h6, if_neg (fun h => h h0), if_pos h4]
     rw [this]; simp
    ·rw [if_neg (by simp [h0]; omega), if_neg (by simpa using h0)]
     have ih := Axs b hl j (p + (Dd (b.drop p)).1.toNat) q (by omega) (by omega) (by omega) (by omega)
     rw [show (p : Int) + (Dd (b.drop p)).1 = ((p + (Dd (b.drop p)).1.toNat : Nat) : Int) by omega, ih, Bip]
     have : Bv b (j + 1) p = if (Bv b j (p + (Dd (b.drop p)).1.toNat)).2 = 0 then ((Dd (b.drop p)).1 :: (Bv b j (p + (Dd (b.drop p)).1.toNat)).1, 0) else ([], (Bv b j (p + (Dd (b.drop p)).1.toNat)).2) := by
      rw [Bv, if_neg h6, if_neg (fun h => h h0), if_neg h4]
     rw [this]
     by_cases hr : (Bv b j (p + (Dd (b.drop p)).1.toNat)).2 = 0
     ·simp only [hr, if_true, List.sum_cons]; congr 2; omega
     ·simp only [hr, if_false]
   ·rw [if_neg (by simp [h0]), if_pos (by simpa using h0)]
    have : Bv b (j + 1) p = ([], (Dd (b.drop p)).2) := by rw [Bv, if_neg h6, if_pos h0]
    rw [this]; simp [h0]
def Bow (b : List UInt8) (j p : Nat) (xs : List Int) : List Int × Int := if (Bv b j p).2 = 0 then (xs ++ (Bv b j p).1, 0) else ([], (Bv b j p).2)
theorem Bnp (bk : Int → List Int → Option (List Int × Int)) (b : List UInt8) (p : Nat) (hp : p ≤ b.length) (xs : List Int) (hx : xs.length ≤ 4000) (hl : b.length < 4611686018427387904) : Lu (Ia bk b) b (p : Int) xs = Ia bk b (p : Int) xs (Dd (b.drop p)).1 (Dd (b.drop p)).2 := by
 have hf := Bl5 (b.drop p) (by simp; omega)
 rw [Lu, Gi (by omega) (by omega), Aa, Int.toNat_natCast, Bn8 _ (by simp; omega), Aa]
 by_cases h : (Yo (b.drop p)).2 = 6
 ·simp [Dd, h, Bg, hf]
 ·simp [Dd, h, Bg]
theorem Baw (b : List UInt8) (hl : b.length < 4611686018427387904) : ∀ (j p q : Nat) (xs : List Int), p ≤ b.length → p ≤ 4000 → b.length - p < j → j ≤ q → xs.length ≤ p → Hw b q (p : Int) xs = some (Bow b j p xs)
 | 0, p, q, _, _, _, h, _, _ => by omega
 | j + 1, p, q, xs, hp, hp4, hj, hq, hx => by
  obtain ⟨q, rfl⟩ : ∃ k, q = k + 1 := ⟨q - 1, by omega⟩
  rw [Hw, Bnp _ b p hp xs (by omega) hl, Ia, Acy, Bg, Ah, Bow]
  by_cases h6 : (Dd (b.drop p)).2 = 6
  ·rw [if_pos (by simpa using h6)]
   have : Bv b (j + 1) p = ([], 0) := by rw [Bv, if_pos h6]
   rw [this]; simp
  ·rw [if_neg (by simpa using h6)]
   by_cases h0 : (Dd (b.drop p)).2 = 0
   ·have hz : Dd (b.drop p) = ((Dd (b.drop p)).1, 0) := by rw [Prod.ext_iff]; exact ⟨rfl, h0⟩
    have hs := Ao0 hz
    rw [List.length_drop] at hs
    rw [if_neg (by simpa using h0), Ag (by omega) (by omega), Ax]
    by_cases h4 : 4000 < (p : Int) + (Dd (b.drop p)).1
    ·rw [if_pos (by simp; omega)]
     have : Bv b (j + 1) p = ([], 4) := by rw [Bv, if_neg h6, if_neg (fun h => h h0), if_pos h4]
     rw [this]; simp
    ·rw [if_neg (by simp; omega), Gt (by simp; omega), Aa]
     have ih := Baw b hl j (p + (Dd (b.drop p)).1.toNat) q (xs ++ [(Dd (b.drop p)).1]) (by omega) (by omega) (by omega) (by omega) (by simp; omega)
     rw [show (p : Int) + (Dd (b.drop p)).1 = ((p + (Dd (b.drop p)).1.toNat : Nat) : Int) by omega, ih, Bow]
     have : Bv b (j + 1) p = if (Bv b j (p + (Dd (b.drop p)).1.toNat)).2 = 0 then ((Dd (b.drop p)).1 :: (Bv b j (p + (Dd (b.drop p)).1.toNat)).1, 0) else ([], (Bv b j (p + (Dd (b.drop p)).1.toNat)).2) := by
      rw [Bv, if_neg h6, if_neg (fun h => h h0), if_neg h4]
     rw [this]
     by_cases hr : (Bv b j (p + (Dd (b.drop p)).1.toNat)).2 = 0
     ·simp only [hr, if_true]; simp
     ·simp only [hr, if_false]
   ·rw [if_pos (by simpa using h0)]
    have : Bv b (j + 1) p = ([], (Dd (b.drop p)).2) := by rw [Bv, if_neg h6, if_pos h0]
    rw [this]; simp [h0]
theorem Aqo : ∀ {l : List Int}, (∀ x ∈ l, 10 ≤ x) → 0 ≤ l.sum ∧ (l.length : Int) ≤ l.sum
 | [], _ => by simp
 | x :: l, h => by
  have h1 := h x List.mem_cons_self
  have h2 := Aqo (l := l) fun y hy => h y (List.mem_cons_of_mem _ hy)
  simp only [List.sum_cons, List.length_cons]; omega
theorem Aw8 (r : Int) (l : List Int) (hl : l.length ≤ 4000) (hx : ∀ x ∈ l, 10 ≤ x) : ∀ (j i q : Nat) (n : Int), i + j = l.length → j < q → 0 ≤ n → n + (l.drop i).sum ≤ 4000 → Fp r l q n (i : Int) = some (n + (l.drop i).sum, r)
 | 0, i, q + 1, n, hi, _, _, _ => by
  rw [Fp, Lp, if_neg (by rw [Af, Ac]; simp; omega), show i = l.length by omega, List.drop_length]
  simp [Tl, Acq]
 | j + 1, i, q + 1, n, hi, hq, hn, hs => by
  have hlt : i < l.length := by omega
  rw [drop_cons hlt, List.sum_cons] at hs ⊢
  have h1 := hx l[i] (List.getElem_mem hlt)
  have h2 := Aqo (l := l.drop (i + 1)) fun y hy => hx y (List.mem_of_mem_drop hy)
  rw [Fp, Lp, if_pos (by rw [Af, Ac]; simp; omega), Cp hlt, Aa, Aa, Ag (by omega) (by omega), Ag (by omega) (by omega)]
  have ih := Aw8 r l hl hx j (i + 1) q (n + l[i]) (by omega) (by omega) (by omega) (by omega)
  rw [show ((i : Int) + 1) = ((i + 1 : Nat) : Int) by omega, ih]
  congr 2; omega
def frontS (b : List UInt8) : Int × Int := Bip b (b.length + 1) 0
theorem Wr (b : List UInt8) (hl : b.length < 4611686018427387904) : Qx b = some (frontS b) := by
 have := Axs b hl (b.length + 1) 0 Az (by omega) (by omega) (by omega) (by have := Am; omega)
 exact this
theorem Xd (b : List UInt8) (hl : b.length < 4611686018427387904) : Ij b = some (frontS b) := by
 have h := Baw b hl (b.length + 1) 0 Az [] (by omega) (by omega) (by omega) (by have := Am; omega) (by simp)
 have h' : Zd b = some (Bow b (b.length + 1) 0 []) := h
 rw [Ij, Tn, h', Aa, frontS, Bip, Bow]
 have ho := Ala b (b.length + 1) 0 (by omega) (by omega)
 by_cases h0 : (Bv b (b.length + 1) 0).2 = 0
 ·obtain ⟨i1, i2, i3⟩ := ho h0
  have hp := Aqo i1
  simp only [h0, if_true, List.nil_append]
  have := Aw8 0 (Bv b (b.length + 1) 0).1 (by omega) i1 (Bv b (b.length + 1) 0).1.length 0 Az 0 (by omega) (by have := Am; omega) (by omega) (by simpa using i3)
  simpa [Lq] using this
 ·simp only [h0, if_false]
  have := Aw8 (Bv b (b.length + 1) 0).2 [] (by simp) (by simp) 0 0 Az 0 (by simp) (by have := Am; omega) (by omega) (by simp)
  simpa [Lq] using this
theorem Akw {b : List UInt8} (h : (frontS b).2 = 0) : 0 ≤ (frontS b).1 ∧ (frontS b).1 ≤ b.length ∧ (frontS b).1 ≤ 4000 := by
 unfold frontS Bip at h ⊢
 split at h
 ·rename_i h0
  rw [if_pos h0]
  obtain ⟨i1, i2, i3⟩ := Ala b (b.length + 1) 0 (by omega) (by omega) h0
  have hp := Aqo i1
  exact ⟨by simp; omega, i2, i3⟩
 ·rename_i h0; exact absurd h h0
end Go.Pl
set_option linter.unusedVariables false
set_option linter.unusedSimpArgs false
namespace Go.Pl
open Go Go.Lv
def longN (r : Nat) : Nat := max 1 (256 * r / 245)
theorem Ag5 (r : Nat) : 1 ≤ longN r := Nat.le_max_left _ _
theorem Ax8 {r : Nat} (h : r ≤ 1048576) : longN r ≤ 1100000 := by unfold longN; omega
theorem Bfb {r : Nat} (h : r ≤ 1048576) : Aqs (1 : Int) (Df (Be (256 : Int) (r : Int)) (245 : Int)) = (longN r : Int) := by
 rw [Gu (by omega) (by omega), Afp, Int.tdiv_eq_ediv_of_nonneg (by omega), Cc (by omega) (by omega), Bib, longN]; omega
def framesL (g n : Nat) : List Int := List.replicate ((n - 1) / g) (g : Int) ++ [((n - (n - 1) / g * g : Nat) : Int)]
theorem Avn (g n : Nat) : (framesL g n).length = (n - 1) / g + 1 := by simp [framesL]
theorem Az9 {g n : Nat} (h : n ≤ g) (h1 : 1 ≤ n) : framesL g n = [(n : Int)] := by
 rw [framesL, Nat.div_eq_of_lt (by omega)]; simp
theorem Bes {g n : Nat} (hg : 1 ≤ g) (h : g < n) : framesL g n = (g : Int) :: framesL g (n - g) := by
 have e : (n - 1) / g = (n - g - 1) / g + 1 := by rw [← Nat.add_div_right _ (by omega)]; congr 1; omega
 rw [framesL, framesL, e, List.replicate_succ, List.cons_append]
 congr 4
 have := Nat.div_mul_le_self (n - g - 1) g
 rw [Nat.add_mul, Nat.one_mul]; omega
theorem Ass {g n : Nat} (hg : 1 ≤ g) (h1 : 1 ≤ n) : (n + g - 1) / g = (n - 1) / g + 1 := by
 rw [← Nat.add_div_right _ (by omega)]; congr 1; omega
theorem Ba0 {r : Nat} (h1 : 1 ≤ r) (h : r ≤ 1048576) : Ab2 (r : Int) = some ((longN r : Int), 0) := by
 rw [Ab2, if_neg (by simp [Af, Ax]; omega), Bfb h]
theorem Bpp {r : Nat} (h : r ≤ 1048576) : Oa (r : Int) = some (longN r : Int) := by rw [Oa, Bfb h]
theorem Ayf {r n : Nat} (h1 : 1 ≤ r) (h : r ≤ 1048576) (n1 : 1 ≤ n) (n2 : n ≤ 4000) : Yk (r : Int) (n : Int) = some (if 1000 < (n - 1) / longN r + 1 then (0, 4) else ((((n - 1) / longN r + 1 : Nat) : Int), 0)) := by
 have hp := Ag5 r
 have hl := Ax8 h
 have e : Df (Al (Ae (n : Int) (longN r : Int)) (1 : Int)) (longN r : Int) = (((n - 1) / longN r + 1 : Nat) : Int) := by
  have : (n + longN r - 1) / longN r ≤ n + longN r - 1 := Nat.div_le_self _ _
  rw [Ag (by omega) (by omega), Bi (by omega) (by omega), Afp, Int.tdiv_eq_ediv_of_nonneg (by omega), show (n : Int) + (longN r : Int) - 1 = ((n + longN r - 1 : Nat) : Int) by omega, ← Int.natCast_ediv, Ass hp n1]
  rw [Ass hp n1] at this
  generalize (n - 1) / longN r = k at *
  exact Cc (by omega) (by omega)
 rw [Yk, Ba0 h1 h, Aa]
 simp only
 rw [if_neg (by rw [Ah]; simp), if_neg (by simp [Af, Ax]; omega), Dj (by rw [Ah]; simp; omega), Aa, e]
 by_cases hk : 1000 < (n - 1) / longN r + 1
 ·rw [if_pos (by rw [Ax]; simp; omega), if_pos hk]
 ·rw [if_neg (by rw [Ax]; simp; omega), if_neg hk]
theorem Ax5 {r : Nat} (h : r ≤ 1048576) : ∀ (j n q : Nat) (acc : List Int), n ≤ 4000 → n ≤ j → j < q → acc.length + n ≤ 10000 → Dq (r : Int) q (n : Int) acc = some (acc ++ (if n = 0 then [] else framesL (longN r) n))
 | 0, n, q + 1, acc, hn, hj, hq, ha => by
  obtain rfl : n = 0 := by omega
  rw [Dq, Ft, if_neg (by rw [Ax]; simp)]
  simp [Hx, Ln]
 | j + 1, n, q + 1, acc, hn, hj, hq, ha => by
  have hp := Ag5 r
  have hl := Ax8 h
  by_cases h0 : n = 0
  ·subst h0
   rw [Dq, Ft, if_neg (by rw [Ax]; simp)]
   simp [Hx, Ln]
  ·rw [Dq, Ft, if_pos (by rw [Ax]; simp; omega), Bpp h, Aa, Gt (by simp; omega), Aa, Aa, Bi (by omega) (by omega), Ahd]
   by_cases hs : n ≤ longN r
   ·rw [show min (n : Int) (longN r : Int) = (n : Int) by omega, if_neg h0, Az9 hs (by omega)]
    have hz : ∃ k, q = k + 1 := ⟨q - 1, by omega⟩
    obtain ⟨q, rfl⟩ := hz
    rw [Dq, Ft, if_neg (by rw [Ax]; simp; omega)]
    simp [Hx, Ln]
   ·rw [show min (n : Int) (longN r : Int) = (longN r : Int) by omega, show (n : Int) - (longN r : Int) = ((n - longN r : Nat) : Int) by omega, Ax5 h j (n - longN r) q _ (by omega) (by omega) (by omega) (by simp; omega), if_neg (by omega), if_neg h0, Bes hp (show longN r < n by omega)]
    simp
theorem Ah1 {r n : Nat} (h : r ≤ 1048576) (n1 : 1 ≤ n) (n2 : n ≤ 4000) : Bw (r : Int) (n : Int) = some (framesL (longN r) n) := by
 have := Ax5 h n n Az [] n2 (Nat.le_refl _) (by have := Am; omega) (by simp; omega)
 rw [Bw, Tq, Tm, this, if_neg (by omega)]; rfl
theorem mul_one (m : Nat) (h : m ≤ 100000) : Ad7 (1 : UInt64) (UInt64.ofNat m) = some (0, UInt64.ofNat m) := by
 have y1 : (UInt64.ofNat m).toNat = m := Ajk (by omega)
 have s1 : Cy (1 : UInt64) (GI.toZ (32 : UInt64)).toNat = 0 := by decide
 have s2 : Cy (UInt64.ofNat m) (GI.toZ (32 : UInt64)).toNat = 0 := by
  apply UInt64.toNat_inj.1
  rw [Afh, y1]
  exact Nat.div_eq_of_lt (Nat.lt_of_le_of_lt h (by decide))
 have s0 : Cy (0 : UInt64) (GI.toZ (32 : UInt64)).toNat = 0 := by decide
 have a1 : Il (1 : UInt64) (4294967295 : UInt64) = 1 := by decide
 have a0 : Il (0 : UInt64) (4294967295 : UInt64) = 0 := by decide
 have a2 : Il (UInt64.ofNat m) (4294967295 : UInt64) = UInt64.ofNat m := by
  apply UInt64.toNat_inj.1
  rw [Azr, UInt64.toNat_and, y1]
  show m &&& (2 ^ 32 - 1) = m
  rw [Nat.and_two_pow_sub_one_eq_mod, Nat.mod_eq_of_lt (by omega)]
 have m1 : ∀ x : UInt64, Be 1 x = x := fun x => by rw [Ae9, UInt64.one_mul]
 have m0 : ∀ x : UInt64, Be 0 x = 0 := fun x => by rw [Ae9, UInt64.zero_mul]
 have p0 : ∀ x : UInt64, Ae 0 x = x := fun x => by rw [Afk, UInt64.zero_add]
 have p1 : ∀ x : UInt64, Ae x 0 = x := fun x => by rw [Afk, UInt64.add_zero]
 rw [Ad7, Af1]
 simp only [s1, s2, a1, a2, m1, m0, p0, p1, s0, a0, Aa]
theorem Avd (v : Int) (m : Nat) (hm : m ≤ 100000) : ∀ (j n q : Nat), 1 ≤ n → n ≤ m → m - n ≤ j → j < q → Ee q (n : Int) (List.replicate n v ++ List.replicate (m - n) 0) = some (List.replicate m v)
 | j, n, q + 1, hn, hnm, hj, hq => by
  have hlen : Ac (List.replicate n v ++ List.replicate (m - n) 0) = (m : Int) := by simp [Ac]; omega
  rw [Ee, Fx, hlen]
  by_cases h : n < m
  ·obtain ⟨j, rfl⟩ : ∃ k, j = k + 1 := ⟨j - 1, by omega⟩
   rw [if_pos (by rw [Af]; simp; omega)]
   have v1 : vwI (m : Int) (n : Int) (m : Int) = some () := by rw [vwI, Dj]; simp; omega
   have v2 : vwI (m : Int) (0 : Int) (n : Int) = some () := by rw [vwI, Dj]; simp; omega
   have e1 : Alh (List.replicate n v ++ List.replicate (m - n) 0) (0 : Int) ((n : Int) - 0) = List.replicate n v := by
    simp [Alh]
   rw [v1, Aa, v2, Aa, e1]
   have e2 : Aie ((m : Int) - (n : Int)) (List.replicate n v).length = ((min n (m - n) : Nat) : Int) := by
    rw [Aie, List.length_replicate]; split <;> omega
   have e3 : Ue (List.replicate n v ++ List.replicate (m - n) 0) (n : Int) ((m : Int) - (n : Int)) (List.replicate n v) = List.replicate (n + min n (m - n)) v ++ List.replicate (m - (n + min n (m - n))) 0 := by
    have t1 : ((m : Int) - (n : Int)).toNat = m - n := by omega
    have t2 : (List.replicate n v ++ List.replicate (m - n) (0 : Int)).take n = List.replicate n v := by simp
    rw [Ue, t1, Int.toNat_natCast, t2, List.take_replicate, List.length_replicate, ← List.append_assoc, List.replicate_append_replicate, List.drop_append, List.length_replicate, Nat.min_comm (m - n) n]
    simp only [List.drop_replicate]
    rw [show n - (n + min n (m - n)) = 0 by omega, List.replicate_zero, List.nil_append, show m - n - (n + min n (m - n) - n) = m - (n + min n (m - n)) by omega]
   rw [e2, e3, Ag (by omega) (by omega), show (n : Int) + ((min n (m - n) : Nat) : Int) = ((n + min n (m - n) : Nat) : Int) by omega]
   exact Avd v m hm j (n + min n (m - n)) q (by omega) (by omega) (by omega) (by omega)
  ·rw [if_neg (by rw [Af]; simp; omega)]
   obtain rfl : n = m := by omega
   simp [Hu, Mh]
theorem Bmk (v : Int) (m : Nat) (hm : m ≤ 100000) : Ma [v] (m : Int) = some (List.replicate m v) := by
 have y1 : (UInt64.ofNat m).toNat = m := Ajk (by omega)
 have c1 : (Ad (Ac [v]) : UInt64) = 1 := by rfl
 have c2 : (Ad (m : Int) : UInt64) = UInt64.ofNat m := Aaj m
 have c3 : (Ad (UInt64.ofNat m) : Int) = (m : Int) := by rw [Atq (by omega), y1]
 rw [Ma, Oj, if_neg (by rw [Af]; simp), Ou, Oh, c1, c2, mul_one m hm, Aa]
 simp only
 rw [if_neg (by rw [Aji, Aji, y1]; simp; show m ≤ 9223372036854775807; omega), Ok, Of, c3, Aw5 (by omega) (by omega), Aa, Dj (by rw [Bg]; simp), Aa, Oq, Int.toNat_natCast]
 by_cases h0 : m = 0
 ·subst h0
  have hF : Az = (Az - 1) + 1 := by have := Am; omega
  rw [hF, Ee, Fx]
  simp [Ac, Ayb, Aie, Af, Hu, Mh]
 ·have := Avd v m hm m 1 Az (by omega) (by omega) (by omega) (by have := Am; omega)
  have e1 : Aie (Ac (List.replicate m (0 : Int))) [v].length = ((1 : Nat) : Int) := by simp [Aie, Ac]; omega
  have e2 : Ayb (List.replicate m (0 : Int)) [v] = List.replicate 1 v ++ List.replicate (m - 1) 0 := by
   obtain ⟨k, rfl⟩ : ∃ k, m = k + 1 := ⟨m - 1, by omega⟩
   simp [Ayb]
  rw [e1, e2, this]
theorem Bly (l m : List Int) (h : l.length + m.length ≤ 1000000) : Mg [l, m] = some (l ++ m) := by
 have hF : Az = (Az - 3) + 1 + 1 + 1 := by have := Am; omega
 rw [Mg, Om, Og]
 have g0 : getI [l, m] (0 : Int) = some l := rfl
 have g1 : getI [l, m] (1 : Int) = some m := rfl
 have l2 : Ac [l, m] = 2 := rfl
 have h3 : Hv [l, m] [] = some (l ++ m) := by
  rw [Hv, Mj, Ml, hF, Ea, Ff, l2, if_pos (by decide), g0, Aa, Gt (by simp; omega), Aa, List.nil_append, show Ae (0 : Int) 1 = 1 by decide,
   Ea, Ff, l2, if_pos (by decide), g1, Aa, Gt (by omega), Aa, show Ae (1 : Int) 1 = 2 by decide, Ea, Ff, l2, if_neg (by decide)]
  rfl
 rw [hF, Ef, Fy, l2, if_pos (by decide), g0, Aa, Ag (by unfold Ac; omega) (by unfold Ac; omega), if_neg (by rw [Af, Ac]; simp), show Ae (0 : Int) 1 = 1 by decide,
  Ef, Fy, l2, if_pos (by decide), g1, Aa, Ag (by unfold Ac; omega) (by unfold Ac; omega), if_neg (by rw [Af, Ac, Ac]; simp; omega), show Ae (1 : Int) 1 = 2 by decide,
  Ef, Fy, l2, if_neg (by decide), Mk, Mn, if_neg (by rw [Af, Ac, Ac]; simp; omega), Mi, Mo]
 have z : Al (0 : Int) 0 = 0 := by decide
 have n0 : (0 : Int) + Ac l + Ac m = ((l.length + m.length : Nat) : Int) := by simp [Ac]
 rw [z, n0, Bi (by omega) (by omega), Int.sub_zero]
 by_cases hp : 0 < l.length + m.length
 ·rw [if_pos (by rw [Ax]; simp; omega), show vwI (0 : Int) 0 0 = some () from rfl, Aa, Aw5 (by omega) (by omega), Aa, Gt (by simp; omega), Aa]
  rw [show vwI (Ac ([] ++ List.replicate ((l.length + m.length : Nat) : Int).toNat (0 : Int))) 0 0 = some () by rw [vwI, Dj]; simp [Ac]; omega, Aa]
  simp only [Alh, Int.sub_self, Int.toNat_zero, List.take_zero]
  exact h3
 ·rw [if_neg (by rw [Ax]; simp; omega)]; exact h3
theorem Bon {r n : Nat} (h1 : 1 ≤ r) (h : r ≤ 1048576) (n1 : 1 ≤ n) (n2 : n ≤ 4000) (hk : (n - 1) / longN r + 1 ≤ 1000) : Ajy (r : Int) (n : Int) = some (framesL (longN r) n, 0) := by
 have hp := Ag5 r
 have hl := Ax8 h
 have hd := Nat.div_mul_le_self (n - 1) (longN r)
 rw [Ajy, Ayf h1 h n1 n2, if_neg (by omega), Aa]
 simp only
 rw [if_neg (by rw [Ah]; simp), Ba0 h1 h, Aa]
 simp only
 rw [framesL]
 generalize (n - 1) / longN r = k at *
 have e1 : Al ((k + 1 : Nat) : Int) 1 = (k : Int) := by rw [Bi (by omega) (by omega)]; omega
 have e2 : (k : Int) * (longN r : Int) = ((k * longN r : Nat) : Int) := by simp
 rw [e1, Bmk _ _ (by omega), Aa, Gu (by rw [e2]; omega) (by rw [e2]; omega), e2, Bi (by omega) (by omega), Aid, Bly _ _ (by simp; omega), Aa, Aa, show (n : Int) - ((k * longN r : Nat) : Int) = ((n - k * longN r : Nat) : Int) by omega]
end Go.Pl
set_option linter.unusedVariables false
set_option linter.unusedSimpArgs false
namespace Go.Pl
open Go Go.Lv
def shapeB (f c w r n : Nat) : Bool := decide ((f = 1 ∨ f = 2) ∧ (1 ≤ c ∧ c ≤ 6) ∧ (w = 8 ∨ w = 16 ∨ w = 24) ∧ (1 ≤ r ∧ r ≤ 1048576) ∧ 1 ≤ n)
def fitB (c r n : Nat) : Bool := decide (n ≤ 4000 / c ∧ (n - 1) / longN r + 1 ≤ 1000)
theorem Au3 (f c w r n : Nat) : Yi (f : Int) (c : Int) (w : Int) (r : Int) (n : Int) = some (shapeB f c w r n) := by
 have e2 : Xg (f : Int) (c : Int) (w : Int) (r : Int) (n : Int) = some (decide ((f = 1 ∨ f = 2) ∧ (1 ≤ c ∧ c ≤ 6) ∧ (1 ≤ r ∧ r ≤ 1048576) ∧ 1 ≤ n)) := by
  rw [Xg, Alx]
  congr 1
  rw [Bool.eq_iff_iff]
  simp only [Bg, Ax, Bbo, Bool.and_eq_true, Bool.or_eq_true, beq_iff_eq, decide_eq_true_eq]
  omega
 have g : ∀ k : Nat, geq (w : Int) (k : Int) = decide (w = k) := fun k => by rw [Bg, Bool.eq_iff_iff]; simp; omega
 have g8 : geq (w : Int) (8 : Int) = decide (w = 8) := g 8
 have g16 : geq (w : Int) (16 : Int) = decide (w = 16) := g 16
 have g24 : geq (w : Int) (24 : Int) = decide (w = 24) := g 24
 rw [Yi, Ado, e2, g8, g16, g24, shapeB]
 by_cases h8 : w = 8
 ·subst h8; simp
 ·by_cases h16 : w = 16
  ·subst h16; simp
  ·by_cases h24 : w = 24
   ·subst h24; simp
   ·simp [h8, h16, h24]
theorem Biu (f c w r n : Nat) : Pd (f : Int) (c : Int) (w : Int) (r : Int) (n : Int) = some (shapeB f c w r n) := by
 rw [Pd, shapeB]
 simp only [Bg, Dv, Bbo, Bool.and_eq_true, Bool.or_eq_true, beq_iff_eq, decide_eq_true_eq, Bool.false_and]
 split
 ·rename_i h
  congr 1
  rw [Bool.eq_iff_iff]
  simp only [Bool.and_eq_true, Bool.or_eq_true, beq_iff_eq, decide_eq_true_eq]
  omega
 ·rename_i h
  congr 1
  symm
  rw [decide_eq_false_iff_not]
  omega
theorem Bsz {c : Nat} (h : 1 ≤ c) : Df (4000 : Int) (c : Int) = ((4000 / c : Nat) : Int) := by
 have : 4000 / c ≤ 4000 := Nat.div_le_self _ _
 rw [Afp, Int.tdiv_eq_ediv_of_nonneg (by omega), show (4000 : Int) = ((4000 : Nat) : Int) from rfl, ← Int.natCast_ediv]
 generalize 4000 / c = k at *
 exact Cc (by omega) (by omega)
theorem Ba3 {f c w r n : Nat} (h : shapeB f c w r n = true) : Afi (f : Int) (c : Int) (w : Int) (r : Int) (n : Int) = some (fitB c r n) := by
 simp only [shapeB, decide_eq_true_eq] at h
 have hd : 4000 / c ≤ 4000 := Nat.div_le_self _ _
 rw [Afi, Dj (by rw [Ah]; simp; omega), Aa, Bsz (by omega), fitB]
 generalize 4000 / c = m at *
 by_cases h1 : n ≤ m
 ·rw [if_neg (by rw [Ax]; simp; omega), Ayf (by omega) (by omega) (by omega) (by omega), Aa]
  generalize (n - 1) / longN r + 1 = k
  by_cases h2 : 1000 < k
  ·rw [if_pos h2]
   simp [Bg, Bbo]
   omega
  ·rw [if_neg h2]
   simp [Bg, Bbo, h1]
   omega
 ·rw [if_pos (by rw [Ax]; simp; omega)]
  simp [h1]
theorem Bnn {f c w r n : Nat} (h : shapeB f c w r n = true) : Jh (f : Int) (c : Int) (w : Int) (r : Int) (n : Int) = some (!fitB c r n) := by
 simp only [shapeB, decide_eq_true_eq] at h
 have hd : 4000 / c ≤ 4000 := Nat.div_le_self _ _
 rw [Jh, Dj (by rw [Ah]; simp; omega), Aa, Bsz (by omega), fitB]
 generalize 4000 / c = m at *
 by_cases h1 : n ≤ m
 ·rw [if_neg (by rw [Ax]; simp; omega), Ah1 (by omega) (by omega) (by omega), Aa, Ac, Avn]
  generalize (n - 1) / longN r + 1 = k
  congr 1
  rw [Ax, Bool.eq_iff_iff]
  simp only [decide_eq_true_eq, Bool.not_eq_true', decide_eq_false_iff_not]
  omega
 ·rw [if_pos (by rw [Ax]; simp; omega)]
  simp [h1]
def An9 : List UInt8 := [84, 84, 65, 49]
def f0 (b : List UInt8) : Nat := Ed (part b 4 2)
def f1 (b : List UInt8) : Nat := Ed (part b 6 2)
def f2 (b : List UInt8) : Nat := Ed (part b 8 2)
def f3 (b : List UInt8) : Nat := Ed (part b 10 4)
def f4 (b : List UInt8) : Nat := Ed (part b 14 4)
abbrev H6 := Int × Int × Int × Int × Int × Int
def readS (b : List UInt8) : H6 :=
 if b.take (min 4 b.length) ≠ An9.take (min 4 b.length) then (0, 0, 0, 0, 0, 12) else if b.length < 22 then (0, 0, 0, 0, 0, 24) else
 if (Hf (b.take 18)).toNat ≠ Ed (part b 18 4) then (0, 0, 0, 0, 0, 22) else
 if shapeB (f0 b) (f1 b) (f2 b) (f3 b) (f4 b) = false then (0, 0, 0, 0, 0, 12) else
 if fitB (f1 b) (f3 b) (f4 b) = false then (0, 0, 0, 0, 0, 4) else ((f0 b : Int), (f1 b : Int), (f2 b : Int), (f3 b : Int), (f4 b : Int), 0)
section
variable {b : List UInt8}
theorem rs1 (h : b.take (min 4 b.length) ≠ An9.take (min 4 b.length)) : readS b = (0, 0, 0, 0, 0, 12) := by rw [readS, if_pos h]
variable (h : b.take (min 4 b.length) = An9.take (min 4 b.length))
include h
theorem rs2 (h2 : b.length < 22) : readS b = (0, 0, 0, 0, 0, 24) := by rw [readS, if_neg (fun e => e h), if_pos h2]
variable (h2 : ¬ b.length < 22)
include h2
theorem rs3 (h3 : (Hf (b.take 18)).toNat ≠ Ed (part b 18 4)) : readS b = (0, 0, 0, 0, 0, 22) := by rw [readS, if_neg (fun e => e h), if_neg h2, if_pos h3]
variable (h3 : (Hf (b.take 18)).toNat = Ed (part b 18 4))
include h3
theorem rs4 (h4 : shapeB (f0 b) (f1 b) (f2 b) (f3 b) (f4 b) = false) : readS b = (0, 0, 0, 0, 0, 12) := by rw [readS, if_neg (fun e => e h), if_neg h2, if_neg (fun e => e h3), if_pos h4]
variable (h4 : shapeB (f0 b) (f1 b) (f2 b) (f3 b) (f4 b) = true)
include h4
theorem rs5 (h5 : fitB (f1 b) (f3 b) (f4 b) = false) : readS b = (0, 0, 0, 0, 0, 4) := by rw [readS, if_neg (fun e => e h), if_neg h2, if_neg (fun e => e h3), if_neg (by rw [h4]; simp), if_pos h5]
theorem rs6 (h5 : fitB (f1 b) (f3 b) (f4 b) = true) : readS b = ((f0 b : Int), (f1 b : Int), (f2 b : Int), (f3 b : Int), (f4 b : Int), 0) := by rw [readS, if_neg (fun e => e h), if_neg h2, if_neg (fun e => e h3), if_neg (by rw [h4]; simp), if_neg (by rw [h5]; simp)]
end
theorem Bpf (b : List UInt8) (h2 : ¬ b.length < 22) : Ck (Ad (Hf (b.take 18)) : UInt64) (leU (part b 18 4)) = decide ((Hf (b.take 18)).toNat ≠ Ed (part b 18 4)) := by
 rw [Agz, Hq, Bool.eq_iff_iff]
 simp only [bne_iff_ne, ne_eq, decide_eq_true_eq]
 rw [← UInt64.toNat_inj, Ajk (by have := (Hf (b.take 18)).toNat_lt; omega), Ajw (by rw [Dn (by omega)]; omega)]
theorem Ao3 (b : List UInt8) (a w : Nat) (i q : Nat) (l : List Int) (hi : i < 5) (hl : l.length = 5) (hw : getI ([2, 2, 2, 4, 4] : List Int) (i : Int) = some (w : Int)) (h1 : 1 ≤ w) (h4 : w ≤ 4) (ha : a + w ≤ b.length) (hb : b.length < 4611686018427387904) :
  Lb b (q + 1) (a : Int) (i : Int) l = Lb b q ((a + w : Nat) : Int) ((i + 1 : Nat) : Int) (l.set i (Ed (part b a w) : Int)) := by
 rw [Lb, Acd, if_pos (by rw [Af]; simp; omega), hw, Aa, Bao b a w h1 (by omega) ha hb, Aa]
 simp only
 rw [Cp (by omega), Aa, Xr _ (by omega), Aa, Aee (by rw [Dn ha]; omega), Ag (by omega) (by omega), Ag (by omega) (by omega)]
 rfl
theorem Boz (b : List UInt8) (h22 : ¬ b.length < 22) (hb : b.length < 4611686018427387904) : Ace b 4 0 (List.replicate 5 0) = Abo [(f0 b : Int), (f1 b : Int), (f2 b : Int), (f3 b : Int), (f4 b : Int)] := by
 have hF : Az = (Az - 6) + 1 + 1 + 1 + 1 + 1 + 1 := by have := Am; omega
 rw [Ace, hF, show (4 : Int) = ((4 : Nat) : Int) from rfl, show (0 : Int) = ((0 : Nat) : Int) from rfl]
 rw [Ao3 b 4 2 0 _ _ (by omega) (by simp) rfl (by omega) (by omega) (by omega) hb, Ao3 b 6 2 1 _ _ (by omega) (by simp) rfl (by omega) (by omega) (by omega) hb, Ao3 b 8 2 2 _ _ (by omega) (by simp) rfl (by omega) (by omega) (by omega) hb,
  Ao3 b 10 4 3 _ _ (by omega) (by simp) rfl (by omega) (by omega) (by omega) hb, Ao3 b 14 4 4 _ _ (by omega) (by simp) rfl (by omega) (by omega) (by omega) hb, Lb, Acd, if_neg (by rw [Af]; simp)]
 rfl
theorem Bwk (b : List UInt8) : Ut [84, 84, 65, 49] (b.take (min 4 b.length)) = some (decide (b.take (min 4 b.length) = An9.take (min 4 b.length))) := by
 have hl : (b.take (min 4 b.length)).length = min 4 b.length := by rw [List.length_take]; omega
 rw [Ut, Ih, if_pos (by rw [Dv, Ac, Ac, hl]; simp; omega), Ac, hl, Jo (by omega) (by simp; omega), Aa, Aa, Int.toNat_natCast]
 congr 1
 rw [Bool.eq_iff_iff]
 rw [decide_eq_true_eq, beq_iff_eq]
 exact eq_comm
theorem Bve (b : List UInt8) : Gd (4 : Int) (Ac b) = ((min 4 b.length : Nat) : Int) := by rw [Ahd, Ac]; omega
theorem Al1 (b : List UInt8) (hb : b.length < 4611686018427387904) : Zs b = some (readS b) := by
 rw [Zs, Aic, Bve, Jo (by omega) (by omega), Aa, Int.toNat_natCast, Bwk, Aa]
 by_cases h : b.take (min 4 b.length) = An9.take (min 4 b.length)
 ·rw [if_neg (by simpa using h)]
  by_cases h2 : b.length < 22
  ·rw [if_pos (by rw [Af, Ac]; simp; omega), rs2 h h2]
  ·have a1 : Alp b 18 4 = some (leU (part b 18 4), 0) := Bao b 18 4 (by omega) (by omega) (by omega) hb
   rw [if_neg (by rw [Af, Ac]; simp; omega), a1, Aa]
   simp only
   rw [Jo (by omega) (by omega), Aa, show (18 : Int).toNat = 18 from rfl, Bij _ (by simp; omega), Aa]
   simp only
   rw [Bpf b h2]
   by_cases h3 : (Hf (b.take 18)).toNat = Ed (part b 18 4)
   ·rw [if_neg (by simpa using h3), Boz b h2 hb, Abo, Aok]
    rw [show getI [(f0 b : Int), (f1 b : Int), (f2 b : Int), (f3 b : Int), (f4 b : Int)] 0 = some (f0 b : Int) from rfl, show getI [(f0 b : Int), (f1 b : Int), (f2 b : Int), (f3 b : Int), (f4 b : Int)] 1 = some (f1 b : Int) from rfl, show getI [(f0 b : Int), (f1 b : Int), (f2 b : Int), (f3 b : Int), (f4 b : Int)] 2 = some (f2 b : Int) from rfl,
     show getI [(f0 b : Int), (f1 b : Int), (f2 b : Int), (f3 b : Int), (f4 b : Int)] 3 = some (f3 b : Int) from rfl, show getI [(f0 b : Int), (f1 b : Int), (f2 b : Int), (f3 b : Int), (f4 b : Int)] 4 = some (f4 b : Int) from rfl]
    simp only [Aa, Au3]
    cases h4 : shapeB (f0 b) (f1 b) (f2 b) (f3 b) (f4 b) with
    | false => rw [rs4 h h2 h3 h4]; rfl
    | true =>
     rw [Ba3 h4, if_neg (by simp), Aa]
     cases h5 : fitB (f1 b) (f3 b) (f4 b) with
     | false => rw [rs5 h h2 h3 h4 h5]; rfl
     | true => rw [rs6 h h2 h3 h4 h5]; rfl
   ·rw [if_pos (by simpa using h3), rs3 h h2 h3]
 ·rw [if_pos (by simpa using h), rs1 h]
theorem Al0 (b : List UInt8) (hb : b.length < 4611686018427387904) : Iz b = some (readS b) := by
 rw [Iz, Wo, Bve, Jo (by omega) (by omega), Aa, Int.toNat_natCast, Jo (by omega) (by simp; omega), Aa, Int.toNat_natCast]
 by_cases h : b.take (min 4 b.length) = An9.take (min 4 b.length)
 ·rw [if_neg (by rw [h]; simp [An9]), Wf, Vj]
  by_cases h2 : b.length < 22
  ·rw [if_pos (by rw [Af, Ac]; simp; omega), rs2 h h2]
  ·have a1 : Bt b 18 22 = some (part b 18 4) := My 18 4 (by omega)
   have c1 : Bt b 4 6 = some (part b 4 2) := My 4 2 (by omega)
   have c2 : Bt b 6 8 = some (part b 6 2) := My 6 2 (by omega)
   have c3 : Bt b 8 10 = some (part b 8 2) := My 8 2 (by omega)
   have c4 : Bt b 10 14 = some (part b 10 4) := My 10 4 (by omega)
   have c5 : Bt b 14 18 = some (part b 14 4) := My 14 4 (by omega)
   have hs : Ck (leU (part b 18 4)) (Ad (Hf (b.take 18)) : UInt64) = decide ((Hf (b.take 18)).toNat ≠ Ed (part b 18 4)) := by
    rw [← Bpf b h2, Agz, Agz, Bool.eq_iff_iff]; simp only [bne_iff_ne, ne_eq]; exact not_congr eq_comm
   have lp : ∀ a w, a + w ≤ b.length → Ak (part b a w) = some (leU (part b a w)) := fun a w h => Bge _ (by rw [Dn h]; omega)
   rw [if_neg (by rw [Af, Ac]; simp; omega), a1, Aa, Jo (by omega) (by omega), Aa, show (18 : Int).toNat = 18 from rfl, lp _ _ (by omega), Aa, Bn1 _ (by simp; omega), Aa, hs]
   by_cases h3 : (Hf (b.take 18)).toNat = Ed (part b 18 4)
   ·rw [if_neg (by simpa using h3), Ws, Nq, c1, Aa, c2, Aa, c3, Aa, c4, Aa, c5, Aa, lp _ _ (by omega), Aa, lp _ _ (by omega), Aa, lp _ _ (by omega), Aa, lp _ _ (by omega), Aa, lp _ _ (by omega), Aa,
     We, Afj, Aee (by rw [Dn (by omega)]; omega), Aee (by rw [Dn (by omega)]; omega), Aee (by rw [Dn (by omega)]; omega), Aee (by rw [Dn (by omega)]; omega), Aee (by rw [Dn (by omega)]; omega)]
    rw [show Ed (part b 4 2) = f0 b from rfl, show Ed (part b 6 2) = f1 b from rfl, show Ed (part b 8 2) = f2 b from rfl, show Ed (part b 10 4) = f3 b from rfl, show Ed (part b 14 4) = f4 b from rfl, Biu, Aa]
    cases h4 : shapeB (f0 b) (f1 b) (f2 b) (f3 b) (f4 b) with
    | false => rw [rs4 h h2 h3 h4]; rfl
    | true =>
     rw [Bnn h4, if_neg (by simp), Aa]
     cases h5 : fitB (f1 b) (f3 b) (f4 b) with
     | false => rw [rs5 h h2 h3 h4 h5]; rfl
     | true => rw [rs6 h h2 h3 h4 h5]; rfl
   ·rw [if_pos (by simpa using h3), rs3 h h2 h3]
 ·rw [if_pos (by simpa [An9] using h), rs1 h]
theorem Ahn {b : List UInt8} (h : (readS b).2.2.2.2.2 = 0) : readS b = ((f0 b : Int), (f1 b : Int), (f2 b : Int), (f3 b : Int), (f4 b : Int), 0) ∧ 22 ≤ b.length ∧ shapeB (f0 b) (f1 b) (f2 b) (f3 b) (f4 b) = true ∧ fitB (f1 b) (f3 b) (f4 b) = true := by
 unfold readS at h ⊢
 split at h; · simp at h
 rename_i c1; rw [if_neg c1]
 split at h; · simp at h
 rename_i c2; rw [if_neg c2]
 split at h; · simp at h
 rename_i c3; rw [if_neg c3]
 split at h; · simp at h
 rename_i c4; rw [if_neg c4]
 split at h; · simp at h
 rename_i c5; rw [if_neg c5]
 exact ⟨rfl, by omega, by simpa using c4, by simpa using c5⟩
theorem Aei {f c w r n : Nat} (h : shapeB f c w r n = true) (h2 : fitB c r n = true) : Oo (f : Int) (c : Int) (w : Int) (r : Int) (n : Int) = some (framesL (longN r) n, 0) := by
 have hc : Agr (f : Int) (c : Int) (w : Int) (r : Int) (n : Int) = some 0 := by
  rw [Agr, Au3, Aa, h, if_neg (by simp), Ba3 h, Aa, h2]; rfl
 have hd : 4000 / c ≤ 4000 := Nat.div_le_self _ _
 simp only [shapeB, decide_eq_true_eq] at h
 simp only [fitB, decide_eq_true_eq] at h2
 rw [Oo, hc, Aa, if_neg (by rw [Ah]; simp), Bon (by omega) (by omega) (by omega) (by omega) h2.2]
 rfl
end Go.Pl
