/- A part of the proof of a statement of this seat (see the text that ends in Proof): LwBase, LwBitB, LwLe, LwBits, LwRef02, LwCut, LwUn, LwRice, LwDual, LwVal, LwI32, LwFil, LwUnm, LwSam, LwCrc, LwFrm, LwC64, LwWby, LwId, LwApe, LwStrip, LwLen, LwHead. No conditions of its own. -/
import Derived.Test.YthchpoekjnapnaaGreatDoorPbBA
import Derived.Test.YthchpoekjnapnaaGreatDoorPbPA
set_option linter.unusedVariables false
set_option linter.unusedSimpArgs false
namespace Go.Lv
theorem Ag {a b : Int} (h : -9223372036854775808 ≤ a + b) (h' : a + b ≤ 9223372036854775807) : Ae a b = a + b := by rw [Bqu, Bw h h']
theorem Bl {a b : Int} (h : -9223372036854775808 ≤ a - b) (h' : a - b ≤ 9223372036854775807) : Al a b = a - b := by rw [Bqf, Bw h h']
theorem Hc {a b : Int} (h : -9223372036854775808 ≤ a * b) (h' : a * b ≤ 9223372036854775807) : Bi a b = a * b := by rw [Blf, Bw h h']
theorem Abj (c : UInt8) : (Ad c : Int) = (c.toNat : Int) := by rw [Blp, Bw] <;> have := c.toNat_lt <;> omega
theorem Bd6 (c : UInt32) : (Ad c : Int) = (c.toNat : Int) := by rw [Biq, Bw] <;> have := c.toNat_lt <;> omega
theorem Aol (c : UInt8) : (Ad c : UInt64) = UInt64.ofNat c.toNat := by simp only [Ad, Xd, Gb]
theorem Gy (c : UInt32) : (Ad c : UInt64) = UInt64.ofNat c.toNat := by simp only [Ad, Va, Gb]
theorem Aji (c : UInt64) : (Ad c : UInt8) = UInt8.ofNat c.toNat := by simp only [Ad, Hf, Kq]
theorem Aoi (c : UInt32) : (Ad c : UInt8) = UInt8.ofNat c.toNat := by simp only [Ad, Va, Kq]
theorem Yb (n : Nat) : (Ad (n : Int) : UInt64) = UInt64.ofNat n := by simp only [Ad]; exact Gb n
theorem Axe (n : Nat) : (Ad (n : Int) : UInt32) = UInt32.ofNat n := by simp only [Ad]; exact Ea n
theorem Blq (n : Nat) : (Ad (n : Int) : UInt8) = UInt8.ofNat n := by simp only [Ad]; exact Kq n
theorem Aqh {c : UInt64} (h : c.toNat < 9223372036854775808) : (Ad c : Int) = (c.toNat : Int) := by rw [Biu, Bw] <;> omega
theorem Bgn : LIM = 17179869184 := by decide
theorem Aq : 36893488147419103231 < Ba := by decide
theorem Df {α : Type} {l : List α} {n : Nat} (h : n < l.length) : getI l (n : Int) = some l[n] := by simp [getI, h]
theorem Vp {α : Type} {l : List α} {n : Nat} (x : α) (h : n < l.length) : Pm l (n : Int) x = some (l.set n x) := by simp [Pm, h]
theorem Ady {α : Type} {l : List α} {a b : Int} (h : 0 ≤ a) (h1 : a ≤ b) (h2 : b ≤ l.length) : Db l a b = some ((l.take b.toNat).drop a.toNat) := by rw [Db, if_pos ⟨h, h1, h2⟩]
theorem Abo {α : Type} {l : List α} {a : Int} (h : 0 ≤ a) (h1 : a ≤ l.length) : Db l a (Ac l) = some (l.drop a.toNat) := by
 unfold Ac; rw [Ady h h1 (Int.le_refl _), Int.toNat_natCast, List.take_length]
theorem Mb {α : Type} {l : List α} {b : Int} (h : 0 ≤ b) (h1 : b ≤ l.length) : Db l 0 b = some (l.take b.toNat) := by rw [Ady (Int.le_refl _) h h1]; rfl
theorem Dp {α : Type} {l m : List α} (h : l.length + m.length ≤ 17179869184) : Gk l m = some (l ++ m) := by rw [Gk, Bgn, if_pos h]
theorem Avf {α : Type} {n : Int} {z : α} (h : 0 ≤ n) (h' : n ≤ 17179869184) : mkI n z = some (List.replicate n.toNat z) := by rw [mkI, Bgn, if_pos ⟨h, h'⟩]
theorem Bz {b : Bool} (h : b = true) : Pn b = some () := by rw [h]; rfl
theorem Aa {α β : Type} (a : α) (f : α → Option β) : Option.bind (some a) f = f a := rfl
theorem drop_cons {α : Type} {l : List α} {n : Nat} (h : n < l.length) : l.drop n = l[n] :: l.drop (n + 1) := List.drop_eq_getElem_cons h
theorem Aij {α : Type} {l : List α} {n : Nat} (h : n < l.length) : l.take (n + 1) = l.take n ++ [l[n]] := by rw [List.take_add_one, List.getElem?_eq_getElem h]; rfl
def Eg : List UInt8 → Nat
 | [] => 0
 | x :: r => x.toNat + 256 * Eg r
theorem Ay3 : ∀ l : List UInt8, Eg l < 256 ^ l.length
 | [] => by simp [Eg]
 | x :: r => by
  have h := Ay3 r
  have := x.toNat_lt
  simp only [Eg, List.length_cons, Nat.pow_succ]
  omega
theorem Av9 : ∀ l m : List UInt8, Eg (l ++ m) = Eg l + 256 ^ l.length * Eg m
 | [], m => by simp [Eg]
 | x :: r, m => by
  simp only [Eg, List.cons_append, Av9 r m, List.length_cons, Nat.pow_succ, Nat.mul_add]
  rw [Nat.mul_comm (256 ^ r.length) 256, Nat.mul_assoc]; omega
def leU (l : List UInt8) : UInt64 := UInt64.ofNat (Eg l)
theorem Bmn {l : List UInt8} (h : l.length ≤ 8) : Eg l < 18446744073709551616 := by
 have h1 := Ay3 l
 have h2 : 256 ^ l.length ≤ 256 ^ 8 := Nat.pow_le_pow_right (by omega) h
 exact Nat.lt_of_lt_of_le h1 (by simpa using h2)
theorem Bgv {l : List UInt8} (h : l.length ≤ 4) : Eg l < 4294967296 := by
 have h1 := Ay3 l
 have h2 : 256 ^ l.length ≤ 256 ^ 4 := Nat.pow_le_pow_right (by omega) h
 exact Nat.lt_of_lt_of_le h1 (by simpa using h2)
theorem Ag7 {l : List UInt8} (h : l.length ≤ 8) : (leU l).toNat = Eg l := by
 rw [leU, UInt64.toNat_ofNat', Nat.mod_eq_of_lt (Bmn h)]
theorem Acl {l : List UInt8} (h : l.length ≤ 4) : (Ad (leU l) : Int) = (Eg l : Int) := by
 have := Bgv h
 rw [Aqh] <;> rw [Ag7 (by omega)]; omega
def leB (n : Nat) : Nat → List UInt8
 | 0 => []
 | w + 1 => UInt8.ofNat n :: leB (n / 256) w
theorem Nt : ∀ (w n : Nat), (leB n w).length = w
 | 0, _ => rfl
 | w + 1, n => by simp [leB, Nt w]
theorem Bb0 : ∀ (w n : Nat), leB n (w + 1) = leB n w ++ [UInt8.ofNat (n / 256 ^ w)]
 | 0, n => by simp [leB]
 | w + 1, n => by
  rw [leB, Bb0 w (n / 256), leB]
  simp [Nat.div_div_eq_div_mul, Nat.pow_succ, Nat.mul_comm]
end Go.Lv
set_option linter.unusedVariables false
set_option linter.unusedSimpArgs false
namespace Go.Lv
def It (p : List UInt8) (i : Nat) : Nat := (p.getD (i / 8) 0).toNat / 2 ^ (i % 8) % 2
theorem Wh (p : List UInt8) (i : Nat) : It p i < 2 := Nat.mod_lt _ (by omega)
def Bv (p : List UInt8) : Nat → Nat → Nat
 | _, 0 => 0
 | a, n + 1 => It p a + 2 * Bv p (a + 1) n
theorem Py (p : List UInt8) : ∀ (n a : Nat), Bv p a n < 2 ^ n
 | 0, _ => by simp [Bv]
 | n + 1, a => by
  have := Py p n (a + 1)
  have := Wh p a
  rw [Bv, Nat.pow_succ]; omega
theorem Afs (p : List UInt8) : ∀ (m n a : Nat), Bv p a (m + n) = Bv p a m + 2 ^ m * Bv p (a + m) n
 | 0, n, a => by simp [Bv]
 | m + 1, n, a => by
  rw [show m + 1 + n = (m + n) + 1 by omega, Bv, Bv, Afs p m n (a + 1), show a + 1 + m = a + (m + 1) by omega, Nat.pow_succ, Nat.mul_add, Nat.mul_comm (2 ^ m) 2, Nat.mul_assoc]; omega
theorem Baj (p : List UInt8) (a : Nat) : Bv p a 1 = It p a := by simp [Bv]
theorem Ayc (p : List UInt8) (a n : Nat) : Bv p a (n + 1) = Bv p a n + 2 ^ n * It p (a + n) := by rw [Afs p n 1 a, Baj]
theorem Aqk (p : List UInt8) (a : Nat) : ∀ t : Nat, a % 8 + t ≤ 8 → Bv p a t = (p.getD (a / 8) 0).toNat / 2 ^ (a % 8) % 2 ^ t
 | 0, _ => by simp [Bv, Nat.mod_one]
 | t + 1, h => by
  have h1 : (a + t) / 8 = a / 8 := by omega
  have h2 : (a + t) % 8 = a % 8 + t := by omega
  rw [Ayc, Aqk p a t (by omega), It, h1, h2, Nat.mod_pow_succ, Nat.pow_add, Nat.div_div_eq_div_mul]
theorem Ayf {p : List UInt8} : ∀ (n a : Nat), (∀ k, k < n → It p (a + k) = 0) → Bv p a n = 0
 | 0, _, _ => rfl
 | n + 1, a, h => by
  have h0 := h 0 (by omega)
  rw [Bv, Ayf n (a + 1) fun k hk => by have := h (k + 1) (by omega); rwa [show a + 1 + k = a + (k + 1) by omega]]
  rw [Nat.add_zero] at h0; omega
def okB (p : List UInt8) (n : Nat) : Prop := n ≤ 330000 ∧ p.length = (n + 7) / 8 ∧ ∀ k, n ≤ k → k < 8 * p.length → It p k = 0
def Ab6 (p : List UInt8) (a n : Nat) : List UInt8 := (List.range ((n + 7) / 8)).map fun j => UInt8.ofNat (Bv p (a + 8 * j) (min 8 (n - 8 * j)))
theorem Mp (p : List UInt8) (a n : Nat) : (Ab6 p a n).length = (n + 7) / 8 := by simp [Ab6]
theorem Bby (p : List UInt8) : ∀ (n a k : Nat), k < n → Bv p a n / 2 ^ k % 2 = It p (a + k)
 | n + 1, a, 0, _ => by have := Wh p a; rw [Bv]; simp; omega
 | n + 1, a, k + 1, h => by
  have hb := Wh p a
  have e : (It p a + 2 * Bv p (a + 1) n) / 2 = Bv p (a + 1) n := by omega
  rw [Bv, Nat.pow_succ, Nat.mul_comm (2 ^ k) 2, ← Nat.div_div_eq_div_mul, e, Bby p n (a + 1) k (by omega), show a + 1 + k = a + (k + 1) by omega]
theorem Biz (p : List UInt8) (n a k : Nat) (h : n ≤ k) : Bv p a n / 2 ^ k % 2 = 0 := by
 have := Py p n a
 rw [Nat.div_eq_of_lt (Nat.lt_of_lt_of_le this (Nat.pow_le_pow_right (by omega) h))]
theorem Bk5 (p : List UInt8) (a n k : Nat) : It (Ab6 p a n) k = if k < n then It p (a + k) else 0 := by
 rw [It]
 by_cases hj : k / 8 < (n + 7) / 8
 ·have e : (Ab6 p a n).getD (k / 8) 0 = UInt8.ofNat (Bv p (a + 8 * (k / 8)) (min 8 (n - 8 * (k / 8)))) := by
   rw [List.getD_eq_getElem?_getD, List.getElem?_eq_getElem (by rw [Mp]; exact hj)]; simp [Ab6]
  have hlt : Bv p (a + 8 * (k / 8)) (min 8 (n - 8 * (k / 8))) < 256 := by
   have := Py p (min 8 (n - 8 * (k / 8))) (a + 8 * (k / 8))
   have h2 : 2 ^ (min 8 (n - 8 * (k / 8))) ≤ 2 ^ 8 := Nat.pow_le_pow_right (by omega) (by omega)
   omega
  have hu : (UInt8.ofNat (Bv p (a + 8 * (k / 8)) (min 8 (n - 8 * (k / 8))))).toNat = Bv p (a + 8 * (k / 8)) (min 8 (n - 8 * (k / 8))) := by
   rw [UInt8.toNat_ofNat']; exact Nat.mod_eq_of_lt hlt
  rw [e, hu]
  by_cases hk : k < n
  ·rw [if_pos hk, Bby p _ _ _ (by omega), show a + 8 * (k / 8) + k % 8 = a + k by omega]
  ·rw [if_neg hk, Biz p _ _ _ (by omega)]
 ·have e : (Ab6 p a n).getD (k / 8) 0 = 0 := by
   rw [List.getD_eq_getElem?_getD, List.getElem?_eq_none (by rw [Mp]; omega)]; rfl
  rw [e, if_neg (by omega)]; simp
theorem Bgd (p : List UInt8) (a n : Nat) (h : n ≤ 330000) : okB (Ab6 p a n) n := ⟨h, Mp p a n, fun k hk _ => by rw [Bk5, if_neg (by omega)]⟩
end Go.Lv
set_option linter.unusedVariables false
set_option linter.unusedSimpArgs false
namespace Go.Pl
open Go Go.Lv
theorem Bmi (b : List UInt8) (hb : b.length < 4611686018427387904) : ∀ (j q : Nat), j ≤ b.length → j < q → Ht b q (leU (b.drop j)) ((j : Int) - 1) = some (leU b)
 | 0, q + 1, _, _ => by
  rw [Ht, Qk, if_neg (by rw [Dl]; simp)]
  simp [Xa, Ago]
 | j + 1, q + 1, hj, hq => by
  rw [Ht, Qk, if_pos (by rw [Dl]; simp), show ((j + 1 : Nat) : Int) - 1 = (j : Int) by omega, Df (by omega), Aa, Bl (by omega) (by omega)]
  have h : Ae (Bi (256 : UInt64) (leU (b.drop (j + 1)))) (Ad b[j] : UInt64) = leU (b.drop j) := by
   rw [Adc, Ac5, Aol, drop_cons (n := j) (by omega), leU, leU, Eg, UInt64.ofNat_add, UInt64.ofNat_mul]
   exact UInt64.add_comm _ _
  rw [h]
  exact Bmi b hb j q (by omega) (by omega)
theorem Bbs (b : List UInt8) (hb : b.length < 4611686018427387904) : Aj b = some (leU b) := by
 have h := Bmi b hb b.length Ba (Nat.le_refl _) (by have := Aq; omega)
 rw [Aj, Xn, Xl]
 have e : Al (Ac b) 1 = (b.length : Int) - 1 := Bl (by unfold Ac; omega) (by unfold Ac; omega)
 rw [e, ← h, List.drop_length]; rfl
theorem Bkw {n c : UInt64} {i : Nat} (hn : n.toNat < 2 ^ i) (hc : c.toNat * 2 ^ i < 18446744073709551616) : gor n (Dx c i) = UInt64.ofNat (n.toNat + c.toNat * 2 ^ i) := by
 rw [Bow]; apply UInt64.toNat_inj.1
 rw [UInt64.toNat_or, Ai1, Nat.mod_eq_of_lt hc, Nat.mul_comm, Nat.or_comm, ← Nat.two_pow_add_eq_or_of_lt hn, UInt64.toNat_ofNat', Nat.mod_eq_of_lt, Nat.add_comm, Nat.mul_comm]
 have h := Nat.two_pow_add_eq_or_of_lt hn c.toNat
 have h2 : 2 ^ i * c.toNat + n.toNat < 2 ^ 64 := by
  rw [h]
  exact Nat.or_lt_two_pow (by rw [Nat.mul_comm]; simpa using hc) n.toNat_lt
 rw [Nat.add_comm]; first | exact h2 | (rw [Nat.mul_comm]; exact h2)
theorem Aw9 (b : List UInt8) (hb : b.length ≤ 8) : ∀ (j i q : Nat), i + j = b.length → j < q → Yc b q (leU (b.take i)) (i : Int) = some (leU b, 0)
 | 0, i, q + 1, hi, _ => by
  rw [Yc, Ag1, if_neg (by rw [Af, Ac]; simp; omega), show i = b.length by omega, List.take_length]; rfl
 | j + 1, i, q + 1, hi, hq => by
  have hlt : i < b.length := by omega
  rw [Yc, Ag1, if_pos (by rw [Af, Ac]; simp; omega), Df hlt, Aa, Hc (by omega) (by omega), Bz (by rw [Dl]; simp; omega), Aa, Ag (by omega) (by omega)]
  have h : gor (leU (b.take i)) (Dx (Ad b[i] : UInt64) (GI.toZ ((8 : Int) * (i : Int))).toNat) = leU (b.take (i + 1)) := by
   have e : (GI.toZ ((8 : Int) * (i : Int))).toNat = 8 * i := by show ((8 : Int) * (i : Int)).toNat = _; omega
   have e2 : (2 : Nat) ^ (8 * i) = 256 ^ i := by rw [Nat.pow_mul]
   have h1 := Ay3 (b.take i)
   rw [List.length_take, Nat.min_eq_left (by omega)] at h1
   have h3 := b[i].toNat_lt
   have hle : (256 : Nat) ^ (i + 1) ≤ 256 ^ 8 := Nat.pow_le_pow_right (by omega) (by omega)
   rw [Nat.pow_succ] at hle
   have h4 : (Ad b[i] : UInt64).toNat = b[i].toNat := by rw [Aol, UInt64.toNat_ofNat']; omega
   have h5 : b[i].toNat * 256 ^ i < 18446744073709551616 := by
    have : b[i].toNat * 256 ^ i < 256 * 256 ^ i := Nat.mul_lt_mul_of_pos_right (by simpa using h3) (Nat.pow_pos (by omega))
    simp at hle; omega
   rw [e, Bkw (by rw [Ag7 (by simp; omega), e2]; exact h1) (by rw [h4, e2]; exact h5), Ag7 (by simp; omega), h4, e2, Aij hlt]
   rw [leU, Av9]
   simp only [Eg, List.length_take, Nat.min_eq_left (Nat.le_of_lt hlt), Nat.mul_zero, Nat.add_zero]
   rw [Nat.mul_comm]
  rw [h]
  exact Aw9 b hb j (i + 1) q (by omega) (by omega)
theorem Bb6 (b : List UInt8) (h1 : 1 ≤ b.length) (h2 : b.length ≤ 8) : Al8 b = some (leU b, 0) := by
 have h := Aw9 b h2 b.length 0 Ba (by omega) (by have := Aq; omega)
 rw [Al8, Al4, if_neg (by simp [Af, Bc, Ac]; omega), Amb]
 exact h
def part (b : List UInt8) (at' w : Nat) : List UInt8 := (b.take (at' + w)).drop at'
theorem Dd {b : List UInt8} {a w : Nat} (h : a + w ≤ b.length) : (part b a w).length = w := by simp [part]; omega
theorem Ayk (b : List UInt8) (a w : Nat) (h1 : 1 ≤ w) (h2 : w ≤ 8) (h3 : a + w ≤ b.length) (hb : b.length < 4611686018427387904) : Aif b (a : Int) (w : Int) = some (leU (part b a w), 0) := by
 rw [Aif, if_neg (by simp [Af, Bc]; omega), if_neg (by rw [Bc, Bl (by unfold Ac; omega) (by unfold Ac; omega), Ac]; simp; omega), Ag (by omega) (by omega), Ady (by omega) (by omega) (by omega), Aa]
 rw [show ((a : Int) + (w : Int)).toNat = a + w by omega, show (a : Int).toNat = a by omega]
 rw [Bb6 _ (by rw [show ((b.take (a + w)).drop a).length = _ from Dd h3]; exact h1) (by rw [show ((b.take (a + w)).drop a).length = _ from Dd h3]; exact h2), Aa]; rfl
theorem Arf (w : Nat) (hw : w ≤ 1000) : ∀ (j i q : Nat) (n : UInt64) (acc : List UInt8), i + j = w → j < q → acc.length + j ≤ 1000000 → En (w : Int) q n (i : Int) acc = some (acc ++ leB n.toNat j)
 | 0, i, q + 1, n, acc, hi, _, _ => by
  rw [En, Iu, if_neg (by rw [Af]; simp; omega)]
  simp [Pd, Xr, leB]
 | j + 1, i, q + 1, n, acc, hi, hq, ha => by
  rw [En, Iu, if_pos (by rw [Af]; simp; omega)]
  have e : (Ad (Yp n (256 : UInt64)) : UInt8) = UInt8.ofNat n.toNat := by
   rw [Aji, Bcs]; apply UInt8.toNat_inj.1
   rw [UInt8.toNat_ofNat', UInt8.toNat_ofNat', UInt64.toNat_mod]
   show n.toNat % 256 % 256 = _
   omega
  have e2 : (Bo n (256 : UInt64)).toNat = n.toNat / 256 := by rw [Ap5, UInt64.toNat_div]; rfl
  rw [Dp (by simp; omega), Aa, Ag (by omega) (by omega), e]
  have h := Arf w hw j (i + 1) q (Bo n 256) (acc ++ [UInt8.ofNat n.toNat]) (by omega) (by omega) (by simp; omega)
  rw [e2] at h
  rw [show ((i : Int) + 1) = ((i + 1 : Nat) : Int) by omega, h, leB]; simp
theorem Avv (n : UInt64) (w : Nat) (hw : w ≤ 1000) : Cv n (w : Int) = some (leB n.toNat w) := by
 rw [Cv, Oj, Ph]
 have h := Arf w hw w 0 Ba n [] (by omega) (by have := Aq; omega) (by simp; omega)
 simpa using h
theorem Am3 {α : Type} {l m : List α} {x y : α} {i : Nat} (h : l.length = i) : (l ++ x :: m).set i y = l ++ y :: m := by subst h; simp
theorem Ayg (n : UInt64) (l4 : List UInt8) (w : Nat) (hl : l4.length = w) (hw : w ≤ 8) : ∀ (j i q : Nat), i + j = w → j < q → Xs n l4 q (i : Int) (leB n.toNat i ++ List.replicate j 0) = some (leB n.toNat w, 0)
 | 0, i, q + 1, hi, _ => by
  rw [Xs, Ag8, if_neg (by rw [Af, Ac]; simp; omega)]
  obtain rfl : i = w := by omega
  simp [Alr, Ar8]
 | j + 1, i, q + 1, hi, hq => by
  have hlen : (leB n.toNat i ++ List.replicate (j + 1) 0).length = i + (j + 1) := by simp [Nt]
  rw [Xs, Ag8, if_pos (by rw [Af, Ac]; simp; omega), Hc (by omega) (by omega), Bz (by rw [Dl]; simp; omega), Aa, Df (by rw [hlen]; omega), Aa, Vp _ (by rw [hlen]; omega), Aa, Ag (by omega) (by omega)]
  have e : (Ad (Cq n (GI.toZ ((8 : Int) * (i : Int))).toNat) : UInt8) = UInt8.ofNat (n.toNat / 256 ^ i) := by
   have e : (GI.toZ ((8 : Int) * (i : Int))).toNat = 8 * i := by show ((8 : Int) * (i : Int)).toNat = _; omega
   rw [e, Aji, Ada, Nat.pow_mul]
  rw [e, List.replicate_succ, Am3 (Nt _ _)]
  have h := Ayg n l4 w hl hw j (i + 1) q (by omega) (by omega)
  rw [Bb0] at h
  simpa using h
theorem Bo5 (n : UInt64) (w : Nat) (h1 : 1 ≤ w) (h2 : w ≤ 8) (h : n.toNat < 256 ^ w) : As4 n (w : Int) = some true := by
 rw [As4]
 by_cases h8 : w = 8
 ·subst h8; rw [if_pos (by rw [Ca]; rfl)]
 ·rw [if_neg (by rw [Ca]; simp; omega), Hc (by omega) (by omega), Bz (by rw [Dl]; simp; omega), Aa]
  have e : (GI.toZ ((8 : Int) * (w : Int))).toNat = 8 * w := by show ((8 : Int) * (w : Int)).toNat = _; omega
  rw [e, As3]
  have : Cq n (8 * w) = 0 := by
   apply UInt64.toNat_inj.1
   rw [Ada, Nat.pow_mul]
   exact Nat.div_eq_of_lt h
  rw [this]; rfl
theorem Bdg (n : UInt64) (w : Nat) (h1 : 1 ≤ w) (h2 : w ≤ 8) (h : n.toNat < 256 ^ w) : Alb n (w : Int) = some (leB n.toNat w, 0) := by
 rw [Alb, Ama, if_neg (by simp [Af, Bc]; omega), Bo5 n w h1 h2 h, Aa, if_neg (by simp), Avf (by omega) (by omega), Aa, Bz (by rw [Ca]; simp), Aa, Al7]
 have h := Ayg n (List.replicate (w : Int).toNat 0) w (by simp) h2 w 0 Ba (by omega) (by have := Aq; omega)
 simpa [leB] using h
end Go.Pl
set_option linter.unusedVariables false
set_option linter.unusedSimpArgs false
namespace Go.Pl
open Go Go.Lv
theorem Bbt (n : Nat) (h : n < 4611686018427387904) : Hr (n : Int) (7 : Int) = ((n % 8 : Nat) : Int) := by
 have e : Hr (n : Int) (7 : Int) = wrap64 ((BitVec.ofInt 64 (n : Int) &&& BitVec.ofInt 64 7).toNat : Int) := rfl
 rw [e, BitVec.toNat_and, BitVec.toNat_ofInt, BitVec.toNat_ofInt]
 have h1 : ((n : Int) % ((2 ^ 64 : Nat) : Int)).toNat = n := by omega
 have h2 : ((7 : Int) % ((2 ^ 64 : Nat) : Int)).toNat = 2 ^ 3 - 1 := by decide
 rw [h1, h2, Nat.and_two_pow_sub_one_eq_mod, Bw (by omega) (by omega)]
theorem Br6 (n : Nat) : Azt (n : Int) (GI.toZ (3 : UInt64)).toNat = ((n / 8 : Nat) : Int) := by
 have e : Azt (n : Int) (GI.toZ (3 : UInt64)).toNat = (n : Int).fdiv 8 := rfl
 rw [e, Int.fdiv_eq_ediv_of_nonneg _ (by omega)]; omega
theorem Bsd {t : Nat} (h : t ≤ 8) : Al (Dx (1 : UInt8) t) (1 : UInt8) = UInt8.ofNat (2 ^ t - 1) := by
 have : t = 0 ∨ t = 1 ∨ t = 2 ∨ t = 3 ∨ t = 4 ∨ t = 5 ∨ t = 6 ∨ t = 7 ∨ t = 8 := by omega
 rcases this with rfl | rfl | rfl | rfl | rfl | rfl | rfl | rfl | rfl <;> decide
theorem bitsOf (c : UInt8) (off t : Nat) (h : t ≤ 8) : (Hr (Cq c off) (Al (Dx (1 : UInt8) t) (1 : UInt8))).toNat = c.toNat / 2 ^ off % 2 ^ t := by
 have hp : 2 ^ t ≤ 2 ^ 8 := Nat.pow_le_pow_right (by omega) h
 rw [Bsd h, Bmr, UInt8.toNat_and, Bgg, UInt8.toNat_ofNat', Nat.mod_eq_of_lt (by have := Nat.pow_pos (n := t) (show 0 < 2 by omega); omega), Nat.and_two_pow_sub_one_eq_mod]
theorem Atx {p : List UInt8} {k : Nat} (h : k < p.length) : getI p (k : Int) = some (p.getD k 0) := by
 rw [Df h]; simp [List.getD_eq_getElem?_getD, h]
def Ud (p : List UInt8) (a n : Nat) : UInt64 := UInt64.ofNat (Bv p a n)
theorem Aam (p : List UInt8) (a n : Nat) (h : n ≤ 64) : (Ud p a n).toNat = Bv p a n := by
 have h1 := Py p n a
 have h2 : 2 ^ n ≤ 2 ^ 64 := Nat.pow_le_pow_right (by omega) h
 rw [Ud, UInt64.toNat_ofNat', Nat.mod_eq_of_lt (by omega)]
theorem Bcf (p : List UInt8) (N : Int) (a n : Nat) (hn : n ≤ 64) (ha : a + n ≤ 8 * p.length) (hp : p.length ≤ 1000000) : ∀ (j h q : Nat), h + j = n → j < q → Adj (a : Int) (n : Int) p N q (Ud p a h) (h : Int) = some (Ud p a n)
 | j, h, q + 1, hj, hq => by
  rw [Adj, Al0]
  by_cases hlt : h < n
  ·have e1 : Ae (a : Int) (h : Int) = ((a + h : Nat) : Int) := by rw [Ag (by omega) (by omega)]; omega
   have e2 : Gg (Al (n : Int) (h : Int)) (Al (8 : Int) (((a + h) % 8 : Nat) : Int)) = ((min (n - h) (8 - (a + h) % 8) : Nat) : Int) := by
    rw [Ahg, Bl (by omega) (by omega), Bl (by omega) (by omega)]; omega
   have hm : (a + h) / 8 < p.length := by omega
   rw [if_pos (by rw [Af]; simp; omega), e1, Br6, Atx hm, Aa, Bbt _ (by omega), Bz (by rw [Dl]; simp; omega), Aa, e2, Bz (by rw [Dl]; simp), Aa, Bz (by rw [Dl]; simp), Aa]
   generalize hT : min (n - h) (8 - (a + h) % 8) = T
   have hT8 : T ≤ 8 := by omega
   have hT1 : 1 ≤ T := by omega
   have hb : (a + h) % 8 + T ≤ 8 := by omega
   have hv := Aqk p (a + h) T hb
   have z1 : (GI.toZ (((a + h) % 8 : Nat) : Int)).toNat = (a + h) % 8 := rfl
   have z2 : (GI.toZ ((T : Nat) : Int)).toNat = T := rfl
   have z3 : (GI.toZ ((h : Nat) : Int)).toNat = h := rfl
   rw [z1, z2, z3]
   have hx : (Ad (Hr (Cq (p.getD ((a + h) / 8) 0) ((a + h) % 8)) (Al (Dx (1 : UInt8) T) (1 : UInt8))) : UInt64).toNat = Bv p (a + h) T := by
    rw [Aol, UInt64.toNat_ofNat', bitsOf _ _ _ hT8, ← hv]
    have := Py p T (a + h)
    have h2 : 2 ^ T ≤ 2 ^ 8 := Nat.pow_le_pow_right (by omega) hT8
    omega
   have hlt2 := Py p (h + T) a
   rw [Afs] at hlt2
   have h64 : 2 ^ (h + T) ≤ 2 ^ 64 := Nat.pow_le_pow_right (by omega) (by omega)
   have hor : gor (Ud p a h) (Dx (Ad (Hr (Cq (p.getD ((a + h) / 8) 0) ((a + h) % 8)) (Al (Dx (1 : UInt8) T) (1 : UInt8))) : UInt64) h) = Ud p a (h + T) := by
    rw [Bkw (by rw [Aam p a h (by omega)]; exact Py p h a) (by rw [hx, Nat.mul_comm]; omega), hx, Aam p a h (by omega), Ud, Afs, Nat.mul_comm (2 ^ h)]
   rw [hor, Ag (by omega) (by omega), show (h : Int) + ((T : Nat) : Int) = ((h + T : Nat) : Int) by omega]
   exact Bcf p N a n hn ha hp (j - T) (h + T) q (by omega) (by omega)
  ·rw [if_neg (by rw [Af]; simp; omega), show h = n by omega]; rfl
theorem get_eq (p : List UInt8) (N : Int) (a n : Nat) (hn : n ≤ 64) (ha : a + n ≤ 8 * p.length) (hp : p.length ≤ 1000000) : Apv p N (a : Int) (n : Int) = some (Ud p a n) := by
 have := Bcf p N a n hn ha hp n 0 Ba (by omega) (by have := Aq; omega)
 exact this
theorem Ae2 {p : List UInt8} {n : Nat} (h : okB p n) : Qg p (n : Int) = some 0 := by
 obtain ⟨h1, h2, h3⟩ := h
 have e7 : Ae (n : Int) 7 = ((n + 7 : Nat) : Int) := by rw [Ag (by omega) (by omega)]; omega
 rw [Qg, e7, Br6, if_neg (by simp [Af, Bc, Am, Ac, h2]; omega), Bbt _ (by omega)]
 by_cases hz : n % 8 = 0
 ·rw [if_neg (by rw [Bc]; simp; omega)]
 ·have el : Al (Ac p) 1 = ((p.length - 1 : Nat) : Int) := by rw [Ac, Bl (by omega) (by omega)]; omega
  rw [if_pos (by rw [Bc]; simp; omega), el, Atx (by omega), Aa, Bz (by rw [Dl]; simp; omega), Aa]
  have z : (GI.toZ ((n % 8 : Nat) : Int)).toNat = n % 8 := rfl
  have hs : Cq (p.getD (p.length - 1) 0) (n % 8) = 0 := by
   apply UInt8.toNat_inj.1
   rw [Bgg]
   have hv := Aqk p n (8 - n % 8) (by omega)
   have h0 : Bv p n (8 - n % 8) = 0 := Ayf _ _ fun k hk => h3 _ (by omega) (by omega)
   rw [h0, show n / 8 = p.length - 1 by omega] at hv
   have hlt : (p.getD (p.length - 1) 0).toNat / 2 ^ (n % 8) < 2 ^ (8 - n % 8) := by
    have := (p.getD (p.length - 1) 0).toNat_lt
    rw [Nat.div_lt_iff_lt_mul (Nat.pow_pos (by omega)), ← Nat.pow_add, show 8 - n % 8 + n % 8 = 8 by omega]; simpa using this
   rw [Nat.mod_eq_of_lt hlt] at hv
   exact hv.symm
  rw [z, hs, if_neg (by rw [Bdt]; simp)]
theorem Arb {p : List UInt8} {N : Nat} (h : okB p N) (a n : Nat) (hn : n ≤ 64) : Aar p (N : Int) (a : Int) (n : Int) = some (if N < a + n then (0, 24) else (Ud p a n, 0)) := by
 obtain ⟨h1, h2, h3⟩ := h
 rw [Aar, Ae2 ⟨h1, h2, h3⟩, Aa, if_neg (by rw [Am]; simp), if_neg (by simp [Af, Bc]; omega), Bl (by omega) (by omega)]
 by_cases hl : N < a + n
 ·rw [if_pos (by rw [Bc]; simp; omega), if_pos hl]
 ·rw [if_neg (by rw [Bc]; simp; omega), get_eq p N a n hn (by omega) (by omega), Aa, if_neg hl]
end Go.Pl
set_option linter.unusedVariables false
set_option linter.unusedSimpArgs false
namespace Go.Pl
open Go Go.Lv
theorem Bsk (c : Nat) (h : c < 4611686018427387904) : Bo (c : Int) (2 : Int) = ((c / 2 : Nat) : Int) := by
 rw [Adr, Int.tdiv_eq_ediv_of_nonneg (by omega), Bw (by omega) (by omega)]; omega
theorem Brq (c : Nat) (h : c < 4611686018427387904) : Bo (c : Int) (8 : Int) = ((c / 8 : Nat) : Int) := by
 rw [Adr, Int.tdiv_eq_ediv_of_nonneg (by omega), Bw (by omega) (by omega)]; omega
theorem Bjf (c : Nat) : Hz (c : Int) (8 : Int) = ((c % 8 : Nat) : Int) := by rw [Hz, Int.tmod_eq_emod_of_nonneg (by omega)]; omega
theorem Bsp (c : Nat) : Hz (c : Int) (2 : Int) = ((c % 2 : Nat) : Int) := by rw [Hz, Int.tmod_eq_emod_of_nonneg (by omega)]; omega
theorem Bfw (i c : Nat) (hc : c < 256) : ∀ (j k q : Nat), k + j = i % 8 → j < q → Hp (i : Int) q ((c / 2 ^ k : Nat) : Int) (k : Int) = some (((c / 2 ^ (i % 8) % 2 : Nat) : Int))
 | 0, k, q + 1, hk, _ => by
  rw [Hp, Qf, Bjf, if_neg (by rw [Af]; simp; omega), Xo, Afa, Bsp, show k = i % 8 by omega]
 | j + 1, k, q + 1, hk, hq => by
  have hle : c / 2 ^ k ≤ c := Nat.div_le_self _ _
  rw [Hp, Qf, Bjf, if_pos (by rw [Af]; simp; omega), Bsk _ (by omega), Ag (by omega) (by omega), Nat.div_div_eq_div_mul, ← Nat.pow_succ]
  exact Bfw i c hc j (k + 1) q (by omega) (by omega)
theorem Aq9 (p : List UInt8) (N : Int) (i : Nat) (h : i / 8 < p.length) (hi : i < 4611686018427387904) : Gz p N (i : Int) = some ((It p i : Nat) : Int) := by
 have hc := (p.getD (i / 8) 0).toNat_lt
 have := Bfw i (p.getD (i / 8) 0).toNat (by simpa using hc) (i % 8) 0 Ba (by omega) (by have := Aq; omega)
 rw [Gz, Xb, Brq _ hi, Atx h, Aa, Abj, Xf]
 simpa [It] using this
theorem Aue (p : List UInt8) (N : Int) (a n : Nat) (ha : a + n ≤ 8 * p.length) (hp : p.length ≤ 1000000) : ∀ (j q : Nat), j ≤ n → j < q → Fl (a : Int) p N q (Ud p (a + j) (n - j)) ((j : Int) - 1) = some (Ud p a n)
 | 0, q + 1, _, _ => by
  rw [Fl, Lh, if_neg (by rw [Dl]; simp)]; rfl
 | j + 1, q + 1, hj, hq => by
  have hb := Wh p (a + j)
  rw [Fl, Lh, show ((j + 1 : Nat) : Int) - 1 = (j : Int) by omega, if_pos (by rw [Dl]; simp), Ag (a := (a : Int)) (by omega) (by omega), show (a : Int) + (j : Int) = ((a + j : Nat) : Int) by omega, Aq9 p N (a + j) (by omega) (by omega), Aa, Bl (by omega) (by omega)]
  have e : Ae (Bi (2 : UInt64) (Ud p (a + (j + 1)) (n - (j + 1)))) (Ad ((It p (a + j) : Nat) : Int) : UInt64) = Ud p (a + j) (n - j) := by
   rw [Adc, Ac5, Yb, Ud, Ud, show n - j = (n - (j + 1)) + 1 by omega, Bv, show a + j + 1 = a + (j + 1) by omega, UInt64.ofNat_add, UInt64.ofNat_mul]
   exact UInt64.add_comm _ _
  rw [e]
  exact Aue p N a n ha hp j q (by omega) (by omega)
theorem Aob (p : List UInt8) (N : Int) (a n : Nat) (ha : a + n ≤ 8 * p.length) (hp : p.length ≤ 1000000) : Ks p N (a : Int) (n : Int) = some (Ud p a n) := by
 have := Aue p N a n ha hp n Ba (Nat.le_refl _) (by have := Aq; omega)
 have hz : Ud p (a + n) (n - n) = 0 := by rw [Nat.sub_self]; rfl
 rw [hz] at this
 rw [Ks, Sm, Rr, Bl (by omega) (by omega)]
 exact this
theorem Bfi (bit : Int) (N : Nat) (l : List UInt8) : ∀ (j k q : Nat), k + j = N % 8 → j < q → Gw bit (N : Int) l q ((2 ^ k : Nat) : Int) (k : Int) = Nq bit ((2 ^ (N % 8) : Nat) : Int) (N : Int) l
 | 0, k, q + 1, hk, _ => by
  rw [Gw, Nx, Bjf, if_neg (by rw [Af]; simp; omega), show k = N % 8 by omega]
 | j + 1, k, q + 1, hk, hq => by
  have hp : 2 ^ k ≤ 2 ^ 8 := Nat.pow_le_pow_right (by omega) (by omega)
  have e : Bi ((2 ^ k : Nat) : Int) 2 = ((2 ^ (k + 1) : Nat) : Int) := by
   rw [Nat.pow_succ]
   generalize 2 ^ k = K at *
   rw [Hc (by omega) (by omega)]; omega
  rw [Gw, Nx, Bjf, if_pos (by rw [Af]; simp; omega), e, Ag (by omega) (by omega)]
  exact Bfi bit N l j (k + 1) q (by omega) (by omega)
theorem Avu (p : List UInt8) (a n j : Nat) (h : j < (n + 7) / 8) : (Ab6 p a n)[j]'(by rw [Mp]; exact h) = UInt8.ofNat (Bv p (a + 8 * j) (min 8 (n - 8 * j))) := by simp [Ab6]
theorem Bcx (p : List UInt8) (a t : Nat) (h : t ≤ 8) : Bv p a t < 256 := by
 have h1 := Py p t a
 have h2 : 2 ^ t ≤ 2 ^ 8 := Nat.pow_le_pow_right (by omega) h
 omega
def room (p : List UInt8) (a n : Nat) : List UInt8 := if n % 8 = 0 then Ab6 p a n ++ [0] else Ab6 p a n
theorem Ws (p : List UInt8) (a n : Nat) : (room p a n).length = n / 8 + 1 := by
 rw [room]; split <;> simp [Mp] <;> omega
theorem Ba7 (p : List UInt8) (a n j : Nat) (h : j < n / 8 + 1) : (room p a n)[j]'(by rw [Ws]; exact h) = UInt8.ofNat (Bv p (a + 8 * j) (min 8 (n - 8 * j))) := by
 have h0 : (room p a n)[j]? = some (UInt8.ofNat (Bv p (a + 8 * j) (min 8 (n - 8 * j)))) := by
  rw [room]
  split
  ·by_cases hj : j < (n + 7) / 8
   ·rw [List.getElem?_append_left (by rw [Mp]; exact hj), List.getElem?_eq_getElem (by rw [Mp]; exact hj), Avu p a n j hj]
   ·rw [List.getElem?_append_right (by rw [Mp]; omega), Mp, show j - (n + 7) / 8 = 0 by omega, show n - 8 * j = 0 by omega]; rfl
  ·rw [List.getElem?_eq_getElem (by rw [Mp]; omega), Avu p a n j (by omega)]
 rw [List.getElem?_eq_getElem (by rw [Ws]; exact h)] at h0
 exact Option.some.inj h0
theorem Baz (p : List UInt8) (a n T : Nat) (h1 : 1 ≤ T) (h : n % 8 + T ≤ 8) : (room p a n).set (n / 8) (UInt8.ofNat (Bv p (a + 8 * (n / 8)) (n % 8 + T))) = Ab6 p a (n + T) := by
 apply List.ext_getElem (by rw [List.length_set, Ws, Mp]; omega)
 intro j g1 g2
 rw [List.length_set, Ws] at g1
 rw [List.getElem_set, Avu p a (n + T) j (by rw [Mp] at g2; exact g2)]
 split
 ·rename_i e; subst e; rw [show min 8 (n + T - 8 * (n / 8)) = n % 8 + T by omega]
 ·rw [Ba7 p a n j g1, show min 8 (n - 8 * j) = 8 by omega, show min 8 (n + T - 8 * j) = 8 by omega]
theorem Aw5 (p : List UInt8) (a n : Nat) : (room p a n)[n / 8]'(by rw [Ws]; omega) = UInt8.ofNat (Bv p (a + 8 * (n / 8)) (n % 8)) := by
 rw [Ba7 p a n _ (by omega), show min 8 (n - 8 * (n / 8)) = n % 8 by omega]
theorem Bl2 (p : List UInt8) (a n : Nat) (hn : n ≤ 400000) : Ou (Ab6 p a n) (n : Int) ((It p (a + n) : Nat) : Int) = some (Ab6 p a (n + 1), ((n + 1 : Nat) : Int)) := by
 have hb := Wh p (a + n)
 have hp : 2 ^ (n % 8) ≤ 2 ^ 7 := Nat.pow_le_pow_right (by omega) (by omega)
 have hroom : Ou (Ab6 p a n) (n : Int) ((It p (a + n) : Nat) : Int) = Nz ((It p (a + n) : Nat) : Int) (n : Int) (room p a n) := by
  rw [Ou, Vw, Bjf, room]
  by_cases h0 : n % 8 = 0
  ·rw [if_pos (by rw [Ca, h0]; rfl), Dp (by rw [Mp]; simp; omega), Aa, if_pos h0]
  ·rw [if_neg (by rw [Ca]; simp; omega), if_neg h0]
 have hl := Bfi ((It p (a + n) : Nat) : Int) n (room p a n) (n % 8) 0 Ba (by omega) (by have := Aq; omega)
 rw [hroom, Nz, Vn, Vv]
 refine Eq.trans hl ?_
 have hg : getI (room p a n) ((n / 8 : Nat) : Int) = some (UInt8.ofNat (Bv p (a + 8 * (n / 8)) (n % 8))) := by
  rw [Df (by rw [Ws]; omega), Aw5]
 have hlt := Bcx p (a + 8 * (n / 8)) (n % 8 + 1) (by omega)
 have hsn := Ayc p (a + 8 * (n / 8)) (n % 8)
 rw [show a + 8 * (n / 8) + n % 8 = a + n by omega] at hsn
 have hm : Bi ((It p (a + n) : Nat) : Int) ((2 ^ (n % 8) : Nat) : Int) = ((2 ^ (n % 8) * It p (a + n) : Nat) : Int) := by
  have hle : 2 ^ (n % 8) * It p (a + n) ≤ 2 ^ 7 * 1 := Nat.mul_le_mul hp (by omega)
  rw [Blf, ← Int.natCast_mul, Bw (by omega) (by rw [Nat.mul_comm]; omega), Nat.mul_comm]
 have hx : Ae (UInt8.ofNat (Bv p (a + 8 * (n / 8)) (n % 8))) (Ad (((2 ^ (n % 8) * It p (a + n) : Nat) : Int)) : UInt8) = UInt8.ofNat (Bv p (a + 8 * (n / 8)) (n % 8 + 1)) := by
  rw [Bns, Blq, hsn, UInt8.ofNat_add]
 rw [Nq, Aeb, Brq _ (by omega), hg, Aa, Aa, Aa, hm, hx, Vp _ (by rw [Ws]; omega), Aa, Baz p a n 1 (by omega) (by omega), Ag (by omega) (by omega)]; rfl
theorem Apb (p : List UInt8) (N : Int) (a n : Nat) (ha : a + n ≤ 8 * p.length) (hp : p.length ≤ 1000000) (hn : n ≤ 300000) : ∀ (j m q : Nat), m + j = n → j < q → Ek ((a + n : Nat) : Int) p N q ((a + m : Nat) : Int) (m : Int) (Ab6 p a m) = some (Ab6 p a n, (n : Int))
 | 0, m, q + 1, hm, _ => by
  rw [Ek, Is, if_neg (by rw [Af]; simp; omega), show m = n by omega]; rfl
 | j + 1, m, q + 1, hm, hq => by
  rw [Ek, Is, if_pos (by rw [Af]; simp; omega), Aq9 p N (a + m) (by omega) (by omega), Aa, Bl2 p a m (by omega), Aa]
  simp only
  rw [Ag (by omega) (by omega)]
  exact Apb p N a n ha hp hn j (m + 1) q (by omega) (by omega)
theorem Bcw (p : List UInt8) (N : Int) (a n : Nat) (ha : a + n ≤ 8 * p.length) (hp : p.length ≤ 1000000) (hn : n ≤ 300000) : Ul p N (a : Int) ((a + n : Nat) : Int) = some (Ab6 p a n, (n : Int)) := by
 have := Apb p N a n ha hp hn n 0 Ba (by omega) (by have := Aq; omega)
 exact this
end Go.Pl
set_option linter.unusedVariables false
set_option linter.unusedSimpArgs false
namespace Go.Pl
open Go Go.Lv
theorem Bqq {t : Nat} (h : t ≤ 8) : Al (Dx (1 : UInt64) t) (1 : UInt64) = UInt64.ofNat (2 ^ t - 1) := by
 have : t = 0 ∨ t = 1 ∨ t = 2 ∨ t = 3 ∨ t = 4 ∨ t = 5 ∨ t = 6 ∨ t = 7 ∨ t = 8 := by omega
 rcases this with rfl | rfl | rfl | rfl | rfl | rfl | rfl | rfl | rfl <;> decide
theorem Bso (v : UInt64) {t : Nat} (h : t ≤ 8) : (Hr v (Al (Dx (1 : UInt64) t) (1 : UInt64))).toNat = v.toNat % 2 ^ t := by
 have hp : 2 ^ t ≤ 2 ^ 8 := Nat.pow_le_pow_right (by omega) h
 rw [Bqq h, Atb, UInt64.toNat_and, UInt64.toNat_ofNat', Nat.mod_eq_of_lt (by have := Nat.pow_pos (n := t) (show 0 < 2 by omega); omega), Nat.and_two_pow_sub_one_eq_mod]
theorem or8 {v w i : Nat} (hv : v < 2 ^ i) (hw : w * 2 ^ i < 256) (hi : i < 8) : gor (UInt8.ofNat v) (Dx (UInt8.ofNat w) i) = UInt8.ofNat (v + w * 2 ^ i) := by
 have hp : 2 ^ i ≤ 2 ^ 8 := Nat.pow_le_pow_right (by omega) (by omega)
 have hpos : 0 < 2 ^ i := Nat.pow_pos (by omega)
 have hw2 : w < 256 := Nat.lt_of_le_of_lt (Nat.le_mul_of_pos_right w hpos) hw
 rw [Bpy]; apply UInt8.toNat_inj.1
 have e1 : (UInt8.ofNat v).toNat = v := by rw [UInt8.toNat_ofNat', Nat.mod_eq_of_lt (by omega)]
 have e2 : (UInt8.ofNat w).toNat = w := by rw [UInt8.toNat_ofNat', Nat.mod_eq_of_lt (by omega)]
 rw [UInt8.toNat_or, Boa, e1, e2, Nat.mod_eq_of_lt hw, Nat.mul_comm w, Nat.or_comm, ← Nat.two_pow_add_eq_or_of_lt hv, UInt8.toNat_ofNat', Nat.add_comm v]
 rw [Nat.mul_comm] at hw
 have hb : 2 ^ i * w + v < 256 := by
  rw [Nat.two_pow_add_eq_or_of_lt hv]
  exact Nat.or_lt_two_pow (n := 8) hw (by omega)
 rw [Nat.mod_eq_of_lt hb]
theorem Bje (p : List UInt8) (a n T : Nat) (h : T ≤ n) (hn : n ≤ 64) : Cq (Ud p a n) T = Ud p (a + T) (n - T) := by
 apply UInt64.toNat_inj.1
 rw [Ada, Aam p a n hn, Aam p (a + T) (n - T) (by omega)]
 have := Py p T a
 conv => lhs; rw [show n = T + (n - T) by omega, Afs, Nat.add_mul_div_left _ _ (Nat.pow_pos (by omega)), Nat.div_eq_of_lt this, Nat.zero_add]
theorem Bkj (p : List UInt8) (a n T : Nat) (h : T ≤ n) (hn : n ≤ 64) : (Ud p a n).toNat % 2 ^ T = Bv p a T := by
 have := Py p T a
 rw [Aam p a n hn]
 conv => lhs; rw [show n = T + (n - T) by omega, Afs, Nat.add_mul_mod_self_left, Nat.mod_eq_of_lt this]
theorem Auj (bk : Int → Int → List UInt8 → Option (List UInt8 × Int × Int)) (to' : Int) (p : List UInt8) (N fr : Int) (r6 : UInt64) (a : Nat) : ∀ (j m q : Nat), m + j ≤ 300000 → j ≤ 64 → j < q →
  Ly bk to' p N fr r6 q (Ud p (a + m) j) (j : Int) (m : Int) (Ab6 p a m) = Aem bk to' p N fr ((m + j : Nat) : Int) (Ab6 p a (m + j))
 | 0, m, q + 1, _, _, _ => by
  rw [Ly, Aev, if_neg (by rw [Bc]; simp)]; rfl
 | j + 1, m, q + 1, hm, hj, hq => by
  have hroom : Ly bk to' p N fr r6 (q + 1) (Ud p (a + m) (j + 1)) ((j + 1 : Nat) : Int) (m : Int) (Ab6 p a m) = Aeu (Ly bk to' p N fr r6 q) to' fr p N r6 (Ud p (a + m) (j + 1)) ((j + 1 : Nat) : Int) (m : Int) (room p a m) := by
   rw [Ly, Aev, if_pos (by rw [Bc]; simp), Bbt m (by omega), room]
   by_cases h0 : m % 8 = 0
   ·rw [if_pos (by rw [Ca, h0]; rfl), Dp (by rw [Mp]; simp; omega), Aa, if_pos h0]
   ·rw [if_neg (by rw [Ca]; simp; omega), if_neg h0]
  have hl : Al (Ac (room p a m)) 1 = ((m / 8 : Nat) : Int) := by
   rw [Ac, Ws, Bl (by omega) (by omega)]; omega
  have e2 : Gg ((j + 1 : Nat) : Int) (Al (8 : Int) ((m % 8 : Nat) : Int)) = ((min (j + 1) (8 - m % 8) : Nat) : Int) := by
   rw [Ahg, Bl (by omega) (by omega)]; omega
  rw [hroom, Aeu, Aki, Bbt m (by omega), e2, hl]
  generalize hT : min (j + 1) (8 - m % 8) = T
  have hT1 : 1 ≤ T := by omega
  have hT8 : m % 8 + T ≤ 8 := by omega
  have hg : getI (room p a m) ((m / 8 : Nat) : Int) = some (UInt8.ofNat (Bv p (a + 8 * (m / 8)) (m % 8))) := by
   rw [Df (by rw [Ws]; omega), Aw5]
  have z1 : (GI.toZ ((m % 8 : Nat) : Int)).toNat = m % 8 := rfl
  have z2 : (GI.toZ ((T : Nat) : Int)).toNat = T := rfl
  have hlt := Bcx p (a + 8 * (m / 8)) (m % 8 + T) (by omega)
  have hadd := Afs p (m % 8) T (a + 8 * (m / 8))
  rw [show a + 8 * (m / 8) + m % 8 = a + m by omega] at hadd
  have hbyte : (Ad (Hr (Ud p (a + m) (j + 1)) (Al (Dx (1 : UInt64) T) (1 : UInt64))) : UInt8) = UInt8.ofNat (Bv p (a + m) T) := by
   rw [Aji, Bso _ (by omega), Bkj p (a + m) (j + 1) T (by omega) hj]
  have hnew : gor (UInt8.ofNat (Bv p (a + 8 * (m / 8)) (m % 8))) (Dx (UInt8.ofNat (Bv p (a + m) T)) (m % 8)) = UInt8.ofNat (Bv p (a + 8 * (m / 8)) (m % 8 + T)) := by
   rw [or8 (Py _ _ _) (by rw [Nat.mul_comm]; omega) (by omega), hadd, Nat.mul_comm (2 ^ (m % 8))]
  rw [hg, z1, z2, hbyte]
  simp only [Aa]
  rw [Bz (by rw [Dl]; simp), Aa, Bz (by rw [Dl]; simp; omega), Aa, hnew, Vp _ (by rw [Ws]; omega), Aa, Baz p a m T hT1 hT8, Akf, Ap0, Bbt m (by omega), e2, hT, Bz (by rw [Dl]; simp), Aa, z2, Bje p (a + m) (j + 1) T (by omega) hj, Bl (by omega) (by omega), Ag (by omega) (by omega)]
  have ih := Auj bk to' p N fr r6 a (j + 1 - T) (m + T) q (by omega) (by omega) (by omega)
  rw [show m + T + (j + 1 - T) = m + (j + 1) by omega] at ih
  rw [← ih, show a + m + T = a + (m + T) by omega, show ((j + 1 : Nat) : Int) - ((T : Nat) : Int) = ((j + 1 - T : Nat) : Int) by omega, show (m : Int) + ((T : Nat) : Int) = ((m + T : Nat) : Int) by omega]
theorem Bbe (p : List UInt8) (N : Int) (a n : Nat) (ha : a + n ≤ 8 * p.length) (hp : p.length ≤ 1000000) (hn : n ≤ 300000) : ∀ (j m f q : Nat), (f = m ∨ n ≤ f ∧ m = n) → m + j = n → f ≤ n + 64 → j < q → Ve ((a + n : Nat) : Int) p N q ((a + f : Nat) : Int) (m : Int) (Ab6 p a m) = some (Ab6 p a n, (n : Int), 0)
 | j, m, f, q + 1, hf, hm, hf2, hq => by
  rw [Ve, Aj7]
  by_cases hlt : f < n
  ·obtain rfl : f = m := by omega
   have e1 : Gg (64 : Int) (Al ((a + n : Nat) : Int) ((a + f : Nat) : Int)) = ((min 64 (n - f) : Nat) : Int) := by
    rw [Ahg, Bl (by omega) (by omega)]; omega
   rw [if_pos (by rw [Af]; simp; omega), e1, get_eq p N (a + f) _ (by omega) (by omega) hp, Aa, Aj4]
   have h1 := Auj (Ve ((a + n : Nat) : Int) p N q) ((a + n : Nat) : Int) p N ((a + f : Nat) : Int) (Ud p (a + f) (min 64 (n - f))) a (min 64 (n - f)) f Ba (by omega) (by omega) (by have := Aq; omega)
   refine Eq.trans h1 ?_
   rw [Aem, Ap1, Ag (by omega) (by omega), show ((a + f : Nat) : Int) + 64 = ((a + (f + 64) : Nat) : Int) by omega]
   exact Bbe p N a n ha hp hn (j - min 64 (n - f)) (f + min 64 (n - f)) (f + 64) q (by omega) (by omega) (by omega) (by omega)
  ·rw [if_neg (by rw [Af]; simp; omega), Ajg, Aqf, show m = n by omega]
theorem Bqh {p : List UInt8} {N : Nat} (h : okB p N) (a n : Nat) (ha : a + n ≤ N) (hn : n ≤ 300000) : Amf p (N : Int) (a : Int) ((a + n : Nat) : Int) = some (Ab6 p a n, (n : Int), 0) := by
 obtain ⟨h1, h2, h3⟩ := h
 have := Bbe p N a n (by omega) (by omega) hn n 0 0 Ba (by omega) (by omega) (by omega) (by have := Aq; omega)
 rw [Amf, Al5, Ae2 ⟨h1, h2, h3⟩, Aa, if_neg (by rw [Am]; simp), if_neg (by simp [Af, Bc]; omega), Aje]
 exact this
end Go.Pl
set_option linter.unusedVariables false
set_option linter.unusedSimpArgs false
namespace Go.Pl
open Go Go.Lv
def Fg (p : List UInt8) : Nat → Nat → Nat
 | _, 0 => 0
 | a, m + 1 => if It p a = 1 then 1 + Fg p (a + 1) m else 0
theorem Ahc (p : List UInt8) : ∀ (m a : Nat), Fg p a m ≤ m
 | 0, _ => Nat.le_refl _
 | m + 1, a => by rw [Fg]; split <;> have := Ahc p m (a + 1) <;> omega
theorem Bbq (p : List UInt8) : ∀ (m a : Nat), ∃ s, Bv p a m + 1 = 2 ^ (Fg p a m + 1) * s + 2 ^ Fg p a m ∧ (Fg p a m = m → s = 0)
 | 0, a => ⟨0, by simp [Bv, Fg], fun _ => rfl⟩
 | m + 1, a => by
  have hb := Wh p a
  obtain ⟨s, h1, h2⟩ := Bbq p m (a + 1)
  by_cases h : It p a = 1
  ·refine ⟨s, ?_, fun e => h2 ?_⟩
   ·rw [Fg, if_pos h, Bv, h, show 1 + Fg p (a + 1) m + 1 = (Fg p (a + 1) m + 1) + 1 by omega, show 1 + Fg p (a + 1) m = Fg p (a + 1) m + 1 by omega, Nat.pow_succ, Nat.pow_succ (n := 2) (m := Fg p (a + 1) m)]
    rw [Nat.pow_succ] at h1
    generalize Bv p (a + 1) m = V at *
    generalize 2 ^ Fg p (a + 1) m = W at *
    have e1 : W * 2 * 2 * s = 2 * (W * 2 * s) := by rw [Nat.mul_right_comm (W * 2) 2 s, Nat.mul_comm]
    omega
   ·rw [Fg, if_pos h] at e; omega
  ·refine ⟨Bv p (a + 1) m, ?_, fun e => ?_⟩
   ·rw [Fg, if_neg h, Bv]; simp; omega
   ·rw [Fg, if_neg h] at e; omega
theorem Bn3 {n t s : Nat} (h : 2 ^ (t + 1) * s + 2 ^ t ≤ 2 ^ n) (ht : t < n) (x : Nat) (hx : x = 2 ^ n - (2 ^ (t + 1) * s + 2 ^ t)) : x &&& (2 ^ (t + 1) * s + 2 ^ t) = 2 ^ t := by
 have hpos : 0 < 2 ^ t := Nat.pow_pos (by omega)
 have hlt : 2 ^ t < 2 ^ (t + 1) := by rw [Nat.pow_succ]; omega
 have e : x = 2 ^ n - ((2 ^ (t + 1) * s + (2 ^ t - 1)) + 1) := by rw [hx]; congr 1; omega
 apply Nat.eq_of_testBit_eq
 intro i
 rw [Nat.testBit_and, e, Nat.testBit_two_pow_sub_succ (by omega), Nat.testBit_two_pow_mul_add _ (by omega), Nat.testBit_two_pow_mul_add _ hlt]
 by_cases hi : i < t + 1
 ·rw [if_pos hi, if_pos hi, Nat.testBit_two_pow_sub_one, Nat.testBit_two_pow]
  by_cases hit : t = i
  ·subst hit; simp; exact ht
  ·have : ¬ i = t := fun e => hit e.symm
   simp [hit]
 ·rw [if_neg hi, if_neg hi, Nat.testBit_two_pow]
  have : ¬ t = i := by omega
  simp [this]
theorem Bjh (a : UInt64) : (Avq a).toNat = 18446744073709551615 - a.toNat := by
 have h := a.toNat_lt
 have e : Avq a = UInt64.ofNat (BitVec.ofInt 64 18446744073709551615 ^^^ BitVec.ofInt 64 (a.toNat : Int)).toNat := Gb _
 have h1 : BitVec.ofInt 64 (a.toNat : Int) = a.toBitVec := Ay8 a
 have h2 : (BitVec.ofInt 64 18446744073709551615 : BitVec 64) = BitVec.allOnes 64 := by decide
 rw [e, UInt64.toNat_ofNat', h1, h2, BitVec.allOnes_xor, BitVec.toNat_not]
 show (18446744073709551616 - 1 - a.toNat) % 18446744073709551616 = 18446744073709551615 - a.toNat
 omega
theorem Bkb (a : UInt64) : (Ap4 a).toNat = (18446744073709551616 - a.toNat) % 18446744073709551616 := by
 have h := a.toNat_lt
 have e : Ap4 a = UInt64.ofNat ((0 - (a.toNat : Int)) % 18446744073709551616).toNat := Azg _
 rw [e, UInt64.toNat_ofNat']
 show ((0 - (a.toNat : Int)) % 18446744073709551616).toNat % 18446744073709551616 = _
 omega
def Bri : List UInt8 := [0, 1, 56, 2, 57, 49, 28, 3, 61, 58, 42, 50, 38, 29, 17, 4, 62, 47, 59, 36, 45, 43, 51, 22, 53, 39, 33, 30, 24, 18, 12, 5, 63, 55, 48, 27, 60, 41, 37, 16, 46, 35, 44, 21, 52, 32, 23, 11, 54, 26, 40, 15, 34, 20, 31, 10, 25, 14, 19, 9, 13, 8, 7, 6]
theorem Bhl : ∀ t : Fin 64, getI Bri (GI.toZ (Cq (Bi (UInt64.ofNat (2 ^ t.val)) (285870213051353865 : UInt64)) (GI.toZ (58 : UInt64)).toNat)) = some (UInt8.ofNat t.val) := by decide +kernel
theorem Br3 (x : UInt64) (t s : Nat) (ht : t < 64) (h : x.toNat + (2 ^ (t + 1) * s + 2 ^ t) = 18446744073709551616) : Fc x = some (t : Int) := by
 have hpos : 0 < 2 ^ t := Nat.pow_pos (by omega)
 have hx : x.toNat = 2 ^ 64 - (2 ^ (t + 1) * s + 2 ^ t) := by show x.toNat = 18446744073709551616 - _; omega
 have hle : 2 ^ t ≤ 2 ^ 63 := Nat.pow_le_pow_right (by omega) (by omega)
 have hne : x ≠ 0 := by
  intro e
  rw [e] at h
  have h' : 2 ^ t * (2 * s + 1) = 2 ^ 64 := by
   rw [Nat.mul_add, Nat.mul_one, ← Nat.mul_assoc, ← Nat.pow_succ]
   show _ = 18446744073709551616
   simpa using h
  have h2 : 2 ^ 64 = 2 ^ t * 2 ^ (64 - t) := by rw [← Nat.pow_add]; congr 1; omega
  rw [h2] at h'
  have h3 := Nat.eq_of_mul_eq_mul_left hpos h'
  rw [show 64 - t = (63 - t) + 1 by omega, Nat.pow_succ] at h3
  omega
 have hx0 : x.toNat ≠ 0 := fun e => hne (UInt64.toNat_inj.1 e)
 have hl : Hr x (Ap4 x) = UInt64.ofNat (2 ^ t) := by
  apply UInt64.toNat_inj.1
  rw [Atb, UInt64.toNat_and, Bkb, show (18446744073709551616 - x.toNat) % 18446744073709551616 = 2 ^ (t + 1) * s + 2 ^ t by omega, Bn3 (n := 64) (by show _ ≤ 18446744073709551616; omega) ht _ hx, UInt64.toNat_ofNat', Nat.mod_eq_of_lt]
  exact Nat.lt_of_le_of_lt hle (by decide)
 have hb := Bhl ⟨t, ht⟩
 rw [Fc, if_neg (by rw [As3]; simpa using hne), hl]
 refine Eq.trans (congrArg (fun o => Option.bind o fun c => some (Ad c : Int)) hb) ?_
 rw [Aa, Abj, UInt8.toNat_ofNat', Nat.mod_eq_of_lt (by show t < 256; omega)]
theorem Bnh (p : List UInt8) (a m : Nat) (hm : m ≤ 48) : Fc (Avq (Ud p a m)) = some ((Fg p a m : Nat) : Int) := by
 obtain ⟨s, h1, h2⟩ := Bbq p m a
 have hle := Ahc p m a
 have hlt := Py p m a
 have h48 : 2 ^ m ≤ 2 ^ 48 := Nat.pow_le_pow_right (by omega) hm
 have hn : (Avq (Ud p a m)).toNat = 18446744073709551615 - Bv p a m := by rw [Bjh, Aam p a m (by omega)]
 have h3 : (281474976710656 : Nat) = 2 ^ 48 := rfl
 refine Br3 _ (Fg p a m) s (by omega) ?_
 rw [hn]; omega
def unS (p : List UInt8) (N a : Nat) : Int × Int × Int :=
 if Fg p a (min 48 (N - a)) < min 48 (N - a) then ((Fg p a (min 48 (N - a)) : Nat), ((a + Fg p a (min 48 (N - a)) + 1 : Nat) : Int), 0) else
 if Fg p a (min 48 (N - a)) = 48 then (48, ((a + 48 : Nat) : Int), 0) else (0, 0, 24)
theorem Bmf {p : List UInt8} {N : Nat} (h : okB p N) (a : Nat) (ha : a < N) : Ab1 p (N : Int) (a : Int) = some (unS p N a) := by
 have hN := h.1
 have e1 : Gg (48 : Int) (Al (N : Int) (a : Int)) = ((min 48 (N - a) : Nat) : Int) := by rw [Ahg, Bl (by omega) (by omega)]; omega
 have hle := Ahc p (min 48 (N - a)) a
 rw [Ab1, Wk, Ae2 h, Aa, if_neg (by rw [Am]; simp), if_neg (by rw [Af]; simp), if_neg (by rw [Dl]; simp; omega), e1, Arb h a _ (by omega), if_neg (by omega), Aa]
 simp only
 rw [Ahn, Ahm, if_neg (by rw [Am]; simp), Bnh p a _ (by omega), Aa, Ahl, Ah5, e1, unS]
 by_cases h1 : Fg p a (min 48 (N - a)) < min 48 (N - a)
 ·rw [if_pos (by rw [Af]; simp; omega), if_pos h1, Ag (a := (a : Int)) (by omega) (by omega), show Ae (0 : Int) 1 = 1 by decide, Ag (by omega) (by omega)]
  congr 3; omega
 ·rw [if_neg (by rw [Af]; simp; omega), if_neg h1, Ahw, Ahi]
  by_cases h2 : Fg p a (min 48 (N - a)) = 48
  ·rw [if_pos (by rw [Ca, h2]; rfl), if_pos h2, h2, Ag (a := (a : Int)) (by omega) (by omega), Ag (by omega) (by omega)]
   congr 3; omega
  ·rw [if_neg (by rw [Ca]; simp; omega), if_neg h2]; rfl
theorem Axd (p : List UInt8) : ∀ (m a : Nat), Fg p a m < m → It p (a + Fg p a m) ≠ 1
 | 0, _, h => by simp [Fg] at h
 | m + 1, a, h => by
  by_cases hb : It p a = 1
  ·rw [Fg, if_pos hb] at h ⊢
   have := Axd p m (a + 1) (by omega)
   rwa [show a + (1 + Fg p (a + 1) m) = a + 1 + Fg p (a + 1) m by omega]
  ·rw [Fg, if_neg hb]; exact hb
theorem Ax8 (p : List UInt8) : ∀ (m a k : Nat), k < Fg p a m → It p (a + k) = 1
 | 0, a, k, h => by simp [Fg] at h
 | m + 1, a, k, h => by
  by_cases hb : It p a = 1
  ·rw [Fg, if_pos hb] at h
   cases k with
   | zero => exact hb
   | succ k =>
    have := Ax8 p m (a + 1) k (by omega)
    rwa [show a + (k + 1) = a + 1 + k by omega]
  ·rw [Fg, if_neg hb] at h; omega
def unR (p : List UInt8) (N a : Nat) : Int × Int := if (unS p N a).2.2 = 0 then ((unS p N a).1, (unS p N a).2.1) else (-1, 0)
theorem Avl {p : List UInt8} {N : Nat} (h : okB p N) (a : Nat) (ha : a < N) : ∀ (j k q : Nat), k + j = Fg p a (min 48 (N - a)) → j < q → Gu (a : Int) p (N : Int) q (k : Int) = some (unR p N a)
 | 0, k, q + 1, hk, _ => by
  obtain ⟨hN, hl, hz⟩ := h
  have hle := Ahc p (min 48 (N - a)) a
  have hk' : k = Fg p a (min 48 (N - a)) := by omega
  have e1 : Ae (a : Int) (k : Int) = ((a + k : Nat) : Int) := by rw [Ag (by omega) (by omega)]; omega
  have hend : Nr (a : Int) (k : Int) p (N : Int) = some (unR p N a) := by
   rw [Nr, Ad6, e1]
   by_cases h48 : k = 48
   ·have hu : unS p N a = (48, ((a + 48 : Nat) : Int), 0) := by rw [unS, ← hk', if_neg (by omega), if_pos h48]
    rw [if_pos (by rw [Ca, h48]; rfl), unR, hu, h48]; rfl
   ·rw [if_neg (by rw [Ca]; simp; omega)]
    by_cases hN2 : N ≤ a + k
    ·have hu : unS p N a = (0, 0, 24) := by rw [unS, ← hk', if_neg (by omega), if_neg h48]
     rw [if_pos (by rw [Dl]; simp; omega), unR, hu]; rfl
    ·have hu : unS p N a = (((k : Nat) : Int), ((a + k + 1 : Nat) : Int), 0) := by rw [unS, ← hk', if_pos (by omega)]
     rw [if_neg (by rw [Dl]; simp; omega), unR, hu, Ag (by omega) (by omega)]; rfl
  rw [Gu, Nk, e1]
  by_cases hc : a + k < N ∧ k < 48
  ·have hb := Wh p (a + k)
   have hs := Axd p (min 48 (N - a)) a (by omega)
   rw [← hk'] at hs
   rw [if_pos (by simp [Af]; omega), Aq9 p _ (a + k) (by omega) (by omega), Aa, if_neg (by rw [Ca]; simp; omega), hend]
  ·rw [if_neg (by simp [Af]; omega), hend]
 | j + 1, k, q + 1, hk, hq => by
  obtain ⟨hN, hl, hz⟩ := h
  have hle := Ahc p (min 48 (N - a)) a
  have hb := Ax8 p (min 48 (N - a)) a k (by omega)
  have e1 : Ae (a : Int) (k : Int) = ((a + k : Nat) : Int) := by rw [Ag (by omega) (by omega)]; omega
  rw [Gu, Nk, e1, if_pos (by simp [Af]; omega), Aq9 p _ (a + k) (by omega) (by omega), Aa, hb, if_pos (by decide), Ag (by omega) (by omega)]
  exact Avl ⟨hN, hl, hz⟩ a ha j (k + 1) q (by omega) (by omega)
theorem Bkq {p : List UInt8} {N : Nat} (h : okB p N) (a : Nat) (ha : a < N) : Abq p (N : Int) (a : Int) = some (unR p N a) := by
 have hle := Ahc p (min 48 (N - a)) a
 have := Avl h a ha (Fg p a (min 48 (N - a))) 0 Ba (by omega) (by have := Aq; omega)
 exact this
end Go.Pl
set_option linter.unusedVariables false
set_option linter.unusedSimpArgs false
namespace Go.Pl
open Go Go.Lv
theorem Bl9 {p : List UInt8} {N a : Nat} (h : Fg p a (min 48 (N - a)) < min 48 (N - a)) : unS p N a = (((Fg p a (min 48 (N - a)) : Nat) : Int), ((a + Fg p a (min 48 (N - a)) + 1 : Nat) : Int), 0) := by rw [unS, if_pos h]
theorem Bkc {p : List UInt8} {N a : Nat} (h : ¬ Fg p a (min 48 (N - a)) < min 48 (N - a)) (h2 : Fg p a (min 48 (N - a)) = 48) : unS p N a = (48, ((a + 48 : Nat) : Int), 0) := by rw [unS, if_neg h, if_pos h2]
theorem Bjk {p : List UInt8} {N a : Nat} (h : ¬ Fg p a (min 48 (N - a)) < min 48 (N - a)) (h2 : ¬ Fg p a (min 48 (N - a)) = 48) : unS p N a = (0, 0, 24) := by rw [unS, if_neg h, if_neg h2]
theorem Bia {p : List UInt8} {N : Nat} (h : okB p N) (a : Nat) (ha : N ≤ a) : Ab1 p (N : Int) (a : Int) = some (0, 0, 24) := by
 rw [Ab1, Wk, Ae2 h, Aa, if_neg (by rw [Am]; simp), if_neg (by rw [Af]; simp), if_pos (by rw [Dl]; simp; omega)]
def rcS (p : List UInt8) (N a k : Nat) : UInt32 × Int × Int :=
 if N ≤ a then (0, 0, 24) else
 if Fg p a (min 48 (N - a)) < min 48 (N - a) then
  (if N < a + Fg p a (min 48 (N - a)) + 1 + k then (0, 0, 24) else (UInt32.ofNat (Fg p a (min 48 (N - a)) * 2 ^ k + Bv p (a + Fg p a (min 48 (N - a)) + 1) k), ((a + Fg p a (min 48 (N - a)) + 1 + k : Nat) : Int), 0))
 else if Fg p a (min 48 (N - a)) = 48 then
  (if N < a + 48 + 32 then (0, 0, 24) else if Bv p (a + 48) 32 / 2 ^ k < 48 then (0, 0, 12) else (UInt32.ofNat (Bv p (a + 48) 32), ((a + 48 + 32 : Nat) : Int), 0))
 else (0, 0, 24)
theorem Aqe {p : List UInt8} {a n : Nat} (h : n ≤ 32) : (Ad (Ud p a n) : UInt32) = UInt32.ofNat (Bv p a n) := by
 have e : (Ad (Ud p a n) : UInt32) = UInt32.ofNat (Ud p a n).toNat := by simp only [Ad, Hf, Ea]
 rw [e, Aam p a n (by omega)]
theorem Akk {n : Nat} (h : n < 4294967296) : (UInt32.ofNat n).toNat = n := by rw [UInt32.toNat_ofNat']; exact Nat.mod_eq_of_lt h
theorem Bbl (p : List UInt8) (a : Nat) {n : Nat} (h : n ≤ 32) : Bv p a n < 4294967296 := by
 have h1 := Py p n a
 have h2 : 2 ^ n ≤ 2 ^ 32 := Nat.pow_le_pow_right (by omega) h
 omega
theorem Bp6 {q v k : Nat} (hq : q < 48) (hv : v < 2 ^ k) (hk : k ≤ 24) : gor (Dx (Ad (q : Int) : UInt32) k) (UInt32.ofNat v) = UInt32.ofNat (q * 2 ^ k + v) := by
 have hp : 2 ^ k ≤ 2 ^ 24 := Nat.pow_le_pow_right (by omega) hk
 have h1 : q * 2 ^ k ≤ 47 * 2 ^ 24 := Nat.mul_le_mul (by omega) hp
 rw [Bol]; apply UInt32.toNat_inj.1
 rw [UInt32.toNat_or, Atd, Axe, Akk (by omega), Akk (n := v) (by omega), Nat.mod_eq_of_lt (by omega), Nat.mul_comm q, ← Nat.two_pow_add_eq_or_of_lt hv, Akk (by rw [Nat.mul_comm]; omega)]
theorem Bn8 {p : List UInt8} {N : Nat} (h : okB p N) (a k : Nat) (hk : k ≤ 24) : Ana p (N : Int) (a : Int) (k : Int) = some (rcS p N a k) := by
 have hN := h.1
 rw [Ana, Aj1, Ae2 h, Aa, if_neg (by rw [Am]; simp), if_neg (by simp [Af, Bc]; omega)]
 by_cases ha : N ≤ a
 ·rw [Bia h a ha, Aa, rcS, if_pos ha]; rfl
 have hle := Ahc p (min 48 (N - a)) a
 rw [Bmf h a (by omega), Aa]
 by_cases h1 : Fg p a (min 48 (N - a)) < min 48 (N - a)
 ·have hS : rcS p N a k = if N < a + Fg p a (min 48 (N - a)) + 1 + k then (0, 0, 24) else (UInt32.ofNat (Fg p a (min 48 (N - a)) * 2 ^ k + Bv p (a + Fg p a (min 48 (N - a)) + 1) k), ((a + Fg p a (min 48 (N - a)) + 1 + k : Nat) : Int), 0) := by rw [rcS, if_neg ha, if_pos h1]
  rw [Bl9 h1, hS]
  generalize Fg p a (min 48 (N - a)) = q at *
  simp only
  rw [if_neg (by rw [Am]; simp), if_neg (by rw [Ca]; simp; omega), Aeo, Ajz, Arb h _ k (by omega), Aa]
  by_cases h2 : N < a + q + 1 + k
  ·rw [if_pos h2, if_pos h2]; rfl
  ·rw [if_neg h2, if_neg h2]
   simp only
   have z : (GI.toZ (k : Int)).toNat = k := rfl
   rw [if_neg (by rw [Am]; simp), if_pos (by rw [Af]; simp; omega), Bz (by rw [Dl]; simp), Aa, z, Aqe (by omega), Bp6 (by omega) (Py _ _ _) hk, Ag (by omega) (by omega)]; rfl
 ·by_cases h2 : Fg p a (min 48 (N - a)) = 48
  ·have hS : rcS p N a k = if N < a + 48 + 32 then (0, 0, 24) else if Bv p (a + 48) 32 / 2 ^ k < 48 then (0, 0, 12) else (UInt32.ofNat (Bv p (a + 48) 32), ((a + 48 + 32 : Nat) : Int), 0) := by rw [rcS, if_neg ha, if_neg h1, if_pos h2]
   have hg := Arb h (a + 48) 32 (by omega)
   rw [Bkc h1 h2, hS]
   simp only
   rw [if_neg (by rw [Am]; simp), if_pos (by rw [Ca]; rfl), Aeo, Ajz]
   refine Eq.trans (congrArg (fun o => Option.bind o _) hg) ?_
   rw [Aa]
   by_cases h3 : N < a + 48 + 32
   ·rw [if_pos h3, if_pos h3]; rfl
   ·rw [if_neg h3, if_neg h3]
    simp only
    have z : (GI.toZ (k : Int)).toNat = k := rfl
    have hv := Bbl p (a + 48) (n := 32) (by omega)
    rw [if_neg (by rw [Am]; simp), if_neg (by rw [Af]; simp), Akd, Bz (by rw [Dl]; simp), Aa, Aa, z, Aqe (by omega), Bmx]
    have e : (decide ((48 : UInt32).toNat ≤ (Cq (UInt32.ofNat (Bv p (a + 48) 32)) k).toNat)) = decide (¬ Bv p (a + 48) 32 / 2 ^ k < 48) := by
     rw [Ain, Akk hv]; simp
    rw [e]
    by_cases h4 : Bv p (a + 48) 32 / 2 ^ k < 48
    ·rw [if_pos (by simp [h4]), if_pos h4]
    ·rw [if_neg (by simp; omega), if_neg h4, Ag (by omega) (by omega)]; rfl
  ·rw [Bjk h1 h2, rcS, if_neg ha, if_neg h1, if_neg h2]; rfl
theorem Au8 (k : Nat) (hk : k ≤ 63) : ∀ (j i q : Nat), i + j = k → j < q → Fm (k : Int) q (UInt64.ofNat (2 ^ i)) (i : Int) = some (UInt64.ofNat (2 ^ k))
 | 0, i, q + 1, hi, _ => by
  rw [Fm, Le, if_neg (by rw [Af]; simp; omega), show i = k by omega]; rfl
 | j + 1, i, q + 1, hi, hq => by
  have e : Bi (UInt64.ofNat (2 ^ i)) (2 : UInt64) = UInt64.ofNat (2 ^ (i + 1)) := by
   rw [Ac5, Nat.pow_succ, UInt64.ofNat_mul]; rfl
  rw [Fm, Le, if_pos (by rw [Af]; simp; omega), Ag (by omega) (by omega), e]
  exact Au8 k hk j (i + 1) q (by omega) (by omega)
theorem Adk (k : Nat) (hk : k ≤ 63) : Du (k : Int) = some (UInt64.ofNat (2 ^ k)) :=
 Au8 k hk k 0 Ba (by omega) (by have := Aq; omega)
theorem Ahb {k : Nat} (hk : k ≤ 63) : (UInt64.ofNat (2 ^ k)).toNat = 2 ^ k := by
 have hp : 2 ^ k ≤ 2 ^ 63 := Nat.pow_le_pow_right (by omega) hk
 rw [UInt64.toNat_ofNat', Nat.mod_eq_of_lt (by omega)]
theorem Bot (v : UInt32) (k : Nat) (hk : k ≤ 24) : So v (k : Int) = some ((min 48 (v.toNat / 2 ^ k) : Nat) : Int) := by
 have hpos : 0 < 2 ^ k := Nat.pow_pos (by omega)
 have hv := v.toNat_lt
 rw [So, Adk k (by omega), Aa, Bz (by rw [Aer]; simp only [bne_iff_ne, ne_eq, ← UInt64.toNat_inj, Ahb (show k ≤ 63 by omega)]; simp), Aa]
 have e : (Bo (Ad v : UInt64) (UInt64.ofNat (2 ^ k))).toNat = v.toNat / 2 ^ k := by
  rw [Ap5, UInt64.toNat_div, Gy, Ahb (by omega), UInt64.toNat_ofNat', Nat.mod_eq_of_lt (by omega)]
 have hle : v.toNat / 2 ^ k ≤ v.toNat := Nat.div_le_self _ _
 have e2 : Gg (48 : UInt64) (Bo (Ad v : UInt64) (UInt64.ofNat (2 ^ k))) = UInt64.ofNat (min 48 (v.toNat / 2 ^ k)) := by
  apply UInt64.toNat_inj.1
  rw [UInt64.toNat_ofNat', Nat.mod_eq_of_lt (by omega)]
  show (if _ then _ else _ : UInt64).toNat = _
  rw [show (GI.toZ (Bo (Ad v : UInt64) (UInt64.ofNat (2 ^ k)))) = ((v.toNat / 2 ^ k : Nat) : Int) by rw [Hf, e], show GI.toZ (48 : UInt64) = 48 from rfl]
  split
  ·rw [e]; omega
  ·show 48 = _; omega
 rw [e2, Aqh (by rw [UInt64.toNat_ofNat', Nat.mod_eq_of_lt] <;> omega), UInt64.toNat_ofNat', Nat.mod_eq_of_lt (by omega)]
theorem Bjl {p : List UInt8} {N : Nat} (h : okB p N) (a k : Nat) (hk : k ≤ 24) : Uw p (N : Int) (a : Int) (k : Int) = some (rcS p N a k) := by
 obtain ⟨hN, hl, hz⟩ := h
 have h : okB p N := ⟨hN, hl, hz⟩
 rw [Uw, Vs]
 by_cases ha : N ≤ a
 ·rw [if_pos (by rw [Dl]; simp; omega), rcS, if_pos ha]
 have hle := Ahc p (min 48 (N - a)) a
 rw [if_neg (by rw [Dl]; simp; omega), Bkq h a (by omega), Aa, unR]
 by_cases h1 : Fg p a (min 48 (N - a)) < min 48 (N - a)
 ·have hS : rcS p N a k = if N < a + Fg p a (min 48 (N - a)) + 1 + k then (0, 0, 24) else (UInt32.ofNat (Fg p a (min 48 (N - a)) * 2 ^ k + Bv p (a + Fg p a (min 48 (N - a)) + 1) k), ((a + Fg p a (min 48 (N - a)) + 1 + k : Nat) : Int), 0) := by rw [rcS, if_neg ha, if_pos h1]
  rw [Bl9 h1, hS]
  generalize Fg p a (min 48 (N - a)) = q at *
  rw [if_pos rfl]
  simp only
  rw [if_neg (by rw [Ca]; simp; omega), Nw, Vk, Bl (by omega) (by omega)]
  by_cases h2 : N < a + q + 1 + k
  ·rw [if_pos (by simp [Af]; omega), if_pos h2]
  ·have hp : 2 ^ k ≤ 2 ^ 24 := Nat.pow_le_pow_right (by omega) hk
   have hm : q * 2 ^ k ≤ 47 * 2 ^ 24 := Nat.mul_le_mul (by omega) hp
   have hv := Py p k (a + q + 1)
   have e : (Ad (Ae (Bi (Ad (q : Int) : UInt64) (UInt64.ofNat (2 ^ k))) (Ud p (a + q + 1) k)) : UInt32) = UInt32.ofNat (q * 2 ^ k + Bv p (a + q + 1) k) := by
    have e1 : Ae (Bi (Ad (q : Int) : UInt64) (UInt64.ofNat (2 ^ k))) (Ud p (a + q + 1) k) = UInt64.ofNat (q * 2 ^ k + Bv p (a + q + 1) k) := by
     rw [Adc, Ac5, Yb, Ud, UInt64.ofNat_add, UInt64.ofNat_mul]
    rw [e1]
    have e2 : ∀ x : UInt64, (Ad x : UInt32) = UInt32.ofNat x.toNat := fun x => by simp only [Ad, Hf, Ea]
    rw [e2, UInt64.toNat_ofNat', Nat.mod_eq_of_lt (by omega)]
   rw [if_neg (by simp [Af]; omega), if_neg h2, Aob p _ _ k (by omega) (by omega), Aa, if_pos (by rw [Af]; simp; omega), Adk k (by omega), Aa, e, Ag (by omega) (by omega)]; rfl
 ·by_cases h2 : Fg p a (min 48 (N - a)) = 48
  ·have hS : rcS p N a k = if N < a + 48 + 32 then (0, 0, 24) else if Bv p (a + 48) 32 / 2 ^ k < 48 then (0, 0, 12) else (UInt32.ofNat (Bv p (a + 48) 32), ((a + 48 + 32 : Nat) : Int), 0) := by rw [rcS, if_neg ha, if_neg h1, if_pos h2]
   rw [Bkc h1 h2, hS, if_pos rfl]
   simp only
   rw [if_pos (by rw [Ca]; rfl), Nw, Vk, Bl (by omega) (by omega)]
   by_cases h3 : N < a + 48 + 32
   ·rw [if_pos (by simp [Af]; omega), if_pos h3]
   ·have hg := Aob p (N : Int) (a + 48) 32 (by omega) (by omega)
    have hv := Bbl p (a + 48) (n := 32) (by omega)
    rw [if_neg (by simp [Af]; omega), if_neg h3]
    refine Eq.trans (congrArg (fun o => Option.bind o _) hg) ?_
    rw [Aa, if_neg (by rw [Af]; simp), Aqe (by omega), Bot _ k hk, Aa, Akk hv]
    by_cases h4 : Bv p (a + 48) 32 / 2 ^ k < 48
    ·rw [if_pos (by rw [Af]; simp; omega), if_pos h4]
    ·rw [if_neg (by rw [Af]; simp; omega), if_neg h4, Ag (by omega) (by omega)]; rfl
  ·rw [Bjk h1 h2, rcS, if_neg ha, if_neg h1, if_neg h2]
   have e : (if ((0 : Int), (0 : Int), (24 : Int)).2.2 = 0 then (((0 : Int), (0 : Int), (24 : Int)).1, ((0 : Int), (0 : Int), (24 : Int)).2.1) else ((-1 : Int), (0 : Int))) = (-1, 0) := by decide
   rw [e]; rfl
theorem Bpr {p : List UInt8} {N a k : Nat} {v : UInt32} {n : Int} (h : rcS p N a k = (v, n, 0)) : (a : Int) < n ∧ n ≤ N := by
 unfold rcS at h
 split at h
 ·simp at h
 split at h
 ·split at h
  ·simp at h
  ·simp only [Prod.mk.injEq] at h; omega
 ·split at h
  ·split at h
   ·simp at h
   ·split at h
    ·simp at h
    ·simp only [Prod.mk.injEq] at h; omega
  ·simp at h
end Go.Pl
set_option linter.unusedVariables false
set_option linter.unusedSimpArgs false
namespace Go.Pl
open Go Go.Lv
def okD (k l : Nat) (s t : UInt64) : Prop := k ≤ 24 ∧ l ≤ 24 ∧ s.toNat ≤ 68719476735 ∧ t.toNat ≤ 68719476735
theorem Bar (a b : UInt64) (h : a.toNat ≤ b.toNat) : Gg a b = a := by
 show (if _ then _ else _) = _
 rw [Hf, Hf, if_neg (by omega)]
theorem Apt (a : UInt64) : geq a a = true := by rw [As3]; simp
theorem Bqn {k l : Nat} {s t : UInt64} (h : okD k l s t) : Akc (k : Int) (l : Int) s t = some 0 := by
 obtain ⟨h1, h2, h3, h4⟩ := h
 have e1 : Gg (Ank (k : Int) 0) 24 = (k : Int) := by rw [Ahg, Bd4]; omega
 have e2 : Gg (Ank (l : Int) 0) 24 = (l : Int) := by rw [Ahg, Bd4]; omega
 have e3 : Gg s (68719476735 : UInt64) = s := Bar _ _ (by simpa using h3)
 have e4 : Gg t (68719476735 : UInt64) = t := Bar _ _ (by simpa using h4)
 have e5 : ∀ a : Int, geq a a = true := fun a => by rw [Ca]; simp
 rw [Akc, Ab7, Ahz, Acm, Ahs, Anv, e1, e2, e3, e4, e5, e5, Apt, Apt]; rfl
def Aao (s n : UInt64) : UInt64 := s + n - s / 16
def kS (k : Nat) (s : UInt64) : Nat := if 0 < k ∧ s.toNat < 2 ^ (k + 4) then k - 1 else if k < 24 ∧ 2 ^ (k + 5) < s.toNat then k + 1 else k
theorem Bpg {k : Nat} (h : k ≤ 24) (s : UInt64) : kS k s ≤ 24 := by
 unfold kS
 by_cases h1 : 0 < k ∧ s.toNat < 2 ^ (k + 4)
 ·rw [if_pos h1]; omega
 ·rw [if_neg h1]; split <;> omega
theorem Bfl {k : Nat} {s : UInt64} (h : ¬ (0 < k ∧ s.toNat < 2 ^ (k + 4))) : (if k < 24 ∧ 2 ^ (k + 5) < s.toNat then ((k + 1 : Nat) : Int) else (k : Int)) = ((kS k s : Nat) : Int) := by
 rw [kS, if_neg h]; split <;> rfl
theorem Bgx {s n : UInt64} (h : s.toNat ≤ 68719476735) (hn : n.toNat ≤ 4294967295) : (Aao s n).toNat ≤ 68719476735 := by
 have h1 := s.toNat_lt
 have e : (s + n).toNat = s.toNat + n.toNat := by rw [UInt64.toNat_add]; omega
 have e2 : (s / 16).toNat = s.toNat / 16 := by rw [UInt64.toNat_div]; rfl
 rw [Aao, UInt64.toNat_sub_of_le _ _ (by rw [UInt64.le_iff_toNat_le, e, e2]; omega), e, e2]; omega
theorem Atq (s n : UInt64) : Ae s (Al n (Cq s (GI.toZ (4 : UInt64)).toNat)) = Aao s n := by
 have e : Cq s (GI.toZ (4 : UInt64)).toNat = s / 16 := by
  apply UInt64.toNat_inj.1
  rw [Ada, UInt64.toNat_div]; rfl
 rw [e, Adc, Awn, Aao, UInt64.sub_eq_add_neg, UInt64.sub_eq_add_neg, UInt64.add_assoc]
theorem Bf6 (s n : UInt64) : Al (Ae s n) (Bo s (16 : UInt64)) = Aao s n := by rw [Adc, Awn, Ap5, Aao]
theorem Bre {k : Nat} (h : k ≤ 24) : (Dx (16 : UInt64) k).toNat = 2 ^ (k + 4) := by
 have hp : 2 ^ k ≤ 2 ^ 24 := Nat.pow_le_pow_right (by omega) h
 rw [Ai1, Nat.pow_add]
 show 16 * 2 ^ k % _ = 2 ^ k * 16
 rw [Nat.mod_eq_of_lt (by omega), Nat.mul_comm]
theorem Bqv {k : Nat} (h : k ≤ 24) : (Dx (32 : UInt64) k).toNat = 2 ^ (k + 5) := by
 have hp : 2 ^ k ≤ 2 ^ 24 := Nat.pow_le_pow_right (by omega) h
 rw [Ai1, Nat.pow_add]
 show 32 * 2 ^ k % _ = 2 ^ k * 32
 rw [Nat.mod_eq_of_lt (by omega), Nat.mul_comm]
theorem Bpc {k : Nat} {s : UInt64} (h : 0 < k) (h2 : s.toNat < 2 ^ (k + 4)) : kS k s = k - 1 := by rw [kS, if_pos ⟨h, h2⟩]
theorem Bpd {k : Nat} {s : UInt64} (h : ¬ (0 < k ∧ s.toNat < 2 ^ (k + 4))) (h2 : k < 24) (h3 : 2 ^ (k + 5) < s.toNat) : kS k s = k + 1 := by rw [kS, if_neg h, if_pos ⟨h2, h3⟩]
theorem Bfp {k : Nat} {s : UInt64} (h : ¬ (0 < k ∧ s.toNat < 2 ^ (k + 4))) (h2 : ¬ (k < 24 ∧ 2 ^ (k + 5) < s.toNat)) : kS k s = k := by rw [kS, if_neg h, if_neg h2]
theorem Bpb {α : Type} (k : Nat) (hk : k ≤ 24) (s : UInt64) (f : Int → Option α) :
  (if (Hw (k : Int) (0 : Int)) = true then (
   Option.bind (Pn (Qy (k : Int) (0 : Int))) fun _ =>
   if (Dm s (Dx (16 : UInt64) (GI.toZ (k : Int)).toNat)) = true then f (Al (k : Int) (1 : Int))
   else (if (Dm (k : Int) (24 : Int)) = true then (
    Option.bind (Pn (Qy (k : Int) (0 : Int))) fun _ =>
    if (Hw s (Dx (32 : UInt64) (GI.toZ (k : Int)).toNat)) = true then f (Ae (k : Int) (1 : Int)) else f (k : Int))
    else f (k : Int)))
  else (if (Dm (k : Int) (24 : Int)) = true then (
    Option.bind (Pn (Qy (k : Int) (0 : Int))) fun _ =>
    if (Hw s (Dx (32 : UInt64) (GI.toZ (k : Int)).toNat)) = true then f (Ae (k : Int) (1 : Int)) else f (k : Int))
    else f (k : Int))) = f ((kS k s : Nat) : Int) := by
 have z : (GI.toZ (k : Int)).toNat = k := rfl
 rw [z, Bz (by rw [Dl]; simp)]
 simp only [Aa]
 rw [Asu, Agu, Bre hk, Bqv hk]
 by_cases h0 : 0 < k
 ·rw [if_pos (by rw [Bc]; simp; omega)]
  by_cases h1 : s.toNat < 2 ^ (k + 4)
  ·rw [if_pos (by simp [h1]), Bpc h0 h1, Bl (by omega) (by omega)]; congr 1; omega
  ·rw [if_neg (by simp; omega)]
   by_cases h2 : k < 24
   ·rw [if_pos (by rw [Af]; simp; omega)]
    by_cases h3 : 2 ^ (k + 5) < s.toNat
    ·rw [if_pos (by simp [h3]), Bpd (fun h => h1 h.2) h2 h3, Ag (by omega) (by omega)]; rfl
    ·rw [if_neg (by simp; omega), Bfp (fun h => h1 h.2) (fun h => h3 h.2)]
   ·rw [if_neg (by rw [Af]; simp; omega), Bfp (fun h => h1 h.2) (fun h => h2 h.1)]
 ·rw [if_neg (by rw [Bc]; simp; omega)]
  by_cases h2 : k < 24
  ·rw [if_pos (by rw [Af]; simp; omega)]
   by_cases h3 : 2 ^ (k + 5) < s.toNat
   ·rw [if_pos (by simp [h3]), Bpd (fun h => h0 h.1) h2 h3, Ag (by omega) (by omega)]; rfl
   ·rw [if_neg (by simp; omega), Bfp (fun h => h0 h.1) (fun h => h3 h.2)]
  ·rw [if_neg (by rw [Af]; simp; omega), Bfp (fun h => h0 h.1) (fun h => h2 h.1)]
theorem Bfk (k : Nat) (hk : k ≤ 24) (s n : UInt64) : Cp (k : Int) s n = some (((kS k (Aao s n) : Nat) : Int), Aao s n) := by
 have g1 : Ae (k : Int) 4 = ((k + 4 : Nat) : Int) := by rw [Ag (by omega) (by omega)]; omega
 have g2 : Ae (k : Int) 5 = ((k + 5 : Nat) : Int) := by rw [Ag (by omega) (by omega)]; omega
 have hp : Mi (k : Int) s n = some (if k < 24 ∧ 2 ^ (k + 5) < (Aao s n).toNat then ((k + 1 : Nat) : Int) else (k : Int), Aao s n) := by
  rw [Mi, Ac1, g2, Adk _ (by omega), Aa, Bf6, Agu, Ahb (by omega)]
  by_cases h2 : k < 24
  ·rw [if_pos (by rw [Af]; simp; omega)]
   by_cases h3 : 2 ^ (k + 5) < (Aao s n).toNat
   ·rw [if_pos (by simp [h3]), if_pos ⟨h2, h3⟩, Ag (by omega) (by omega)]; rfl
   ·rw [if_neg (by simp; omega), if_neg (fun h => h3 h.2)]
  ·rw [if_neg (by rw [Af]; simp; omega), if_neg (fun h => h2 h.1)]
 rw [Cp, Uj, g1, Adk _ (by omega), Aa, Bf6, Asu, Ahb (by omega), hp]
 by_cases h0 : 0 < k
 ·rw [if_pos (by rw [Bc]; simp; omega)]
  by_cases h1 : (Aao s n).toNat < 2 ^ (k + 4)
  ·rw [if_pos (by simp [h1]), Bpc h0 h1, Bl (by omega) (by omega)]; congr 2; omega
  ·rw [if_neg (by simp; omega), Bfl (fun h => h1 h.2)]
 ·rw [if_neg (by rw [Bc]; simp; omega), Bfl (fun h => h0 h.1)]
def n64 (v : UInt32) : UInt64 := UInt64.ofNat v.toNat
theorem Bjo (v : UInt32) : (n64 v).toNat ≤ 4294967295 := by have := v.toNat_lt; rw [n64, UInt64.toNat_ofNat', Nat.mod_eq_of_lt (by omega)]; omega
def Arq (k : Nat) (v : UInt32) : UInt32 := UInt32.ofNat (v.toNat - 2 ^ k)
def lK (l : Nat) (t : UInt64) (k : Nat) (v : UInt32) : Nat := if v.toNat < 2 ^ k then l else kS l (Aao t (n64 (Arq k v)))
def lT (t : UInt64) (k : Nat) (v : UInt32) : UInt64 := if v.toNat < 2 ^ k then t else Aao t (n64 (Arq k v))
theorem Bkh {k l : Nat} {s t : UInt64} (h : okD k l s t) (v : UInt32) : okD (kS k (Aao s (n64 v))) (lK l t k v) (Aao s (n64 v)) (lT t k v) := by
 obtain ⟨h1, h2, h3, h4⟩ := h
 refine ⟨Bpg h1 _, ?_, Bgx h3 (Bjo v), ?_⟩
 ·unfold lK; split; · exact h2
  exact Bpg h2 _
 ·unfold lT; split; · exact h4
  exact Bgx h4 (Bjo _)
theorem Bqr (k l : Nat) (s t : UInt64) (hk : k ≤ 24) (v : UInt32) : Pa (k : Int) (l : Int) s t v = some (decide (v.toNat < 2 ^ k)) := by
 have := v.toNat_lt
 rw [Pa, Adk k (by omega), Aa, Asu, Ahb (by omega), Gy, UInt64.toNat_ofNat', Nat.mod_eq_of_lt (by omega)]
theorem left_eq (k l : Nat) (s t : UInt64) (hk : k ≤ 24) (v : UInt32) (h : ¬ v.toNat < 2 ^ k) : Cx (k : Int) (l : Int) s t v = some (Arq k v) := by
 have := v.toNat_lt
 have e2 : ∀ x : UInt64, (Ad x : UInt32) = UInt32.ofNat x.toNat := fun x => by simp only [Ad, Hf, Ea]
 have e3 : (UInt64.ofNat v.toNat).toNat = v.toNat := by rw [UInt64.toNat_ofNat', Nat.mod_eq_of_lt (by omega)]
 rw [Cx, Adk k (by omega), Aa, e2, Awn, Gy, UInt64.toNat_sub_of_le _ _ (by rw [UInt64.le_iff_toNat_le, Ahb (by omega), e3]; omega), Ahb (by omega), e3, Arq]
theorem Bhc {k l : Nat} {s t : UInt64} (h : okD k l s t) (v : UInt32) : Nm (k : Int) (l : Int) s t v = some (((kS k (Aao s (n64 v)) : Nat) : Int), ((lK l t k v : Nat) : Int), Aao s (n64 v), lT t k v) := by
 obtain ⟨h1, h2, h3, h4⟩ := h
 have hp : ∀ (r1 : Int) (r2 : UInt64), Jm v (k : Int) (l : Int) s t r1 r2 = some (((kS k (Aao s (n64 v)) : Nat) : Int), r1, Aao s (n64 v), r2) := by
  intro r1 r2
  rw [Jm, Zm, Gy, Bfk k h1, Aa]; rfl
 rw [Nm, Jr, Bqr k l s t h1, Aa]
 by_cases hv : v.toNat < 2 ^ k
 ·rw [if_neg (by simp [hv]), hp, lK, if_pos hv, lT, if_pos hv]
 ·rw [if_pos (by simp; omega), left_eq k l s t h1 v hv, Aa, Gy, Bfk l h2, Aa]
  simp only
  rw [hp, lK, if_neg hv, lT, if_neg hv]; rfl
theorem Blt (k l : Nat) (s t : UInt64) (hk : k ≤ 24) (v : UInt32) : Aj2 (k : Int) (l : Int) s t v = some (if v.toNat < 2 ^ k then (0, v) else (1, Arq k v)) := by
 have hp : 2 ^ k ≤ 2 ^ 24 := Nat.pow_le_pow_right (by omega) hk
 have hpos : 0 < 2 ^ k := Nat.pow_pos (by omega)
 have hl := v.toNat_lt
 have z : (GI.toZ (k : Int)).toNat = k := rfl
 have e1 : geq (Cq v k) (0 : UInt32) = decide (v.toNat < 2 ^ k) := by
  rw [Azy, Bool.eq_iff_iff]
  simp only [beq_iff_eq, ← UInt32.toNat_inj, Ain, decide_eq_true_eq]
  show _ / _ = 0 ↔ _
  rw [Nat.div_eq_zero_iff]; omega
 have e2 : ¬ v.toNat < 2 ^ k → Al v (Dx (1 : UInt32) k) = Arq k v := by
  intro h
  have e3 : (Dx (1 : UInt32) k).toNat = 2 ^ k := by rw [Atd]; show 1 * 2 ^ k % _ = _; rw [Nat.mod_eq_of_lt (by omega), Nat.one_mul]
  apply UInt32.toNat_inj.1
  rw [Bcb, UInt32.toNat_sub_of_le _ _ (by rw [UInt32.le_iff_toNat_le, e3]; omega), e3, Arq, Akk (by omega)]
 rw [Aj2, Bz (by rw [Dl]; simp), Aa, Aa, z, e1]
 by_cases h : v.toNat < 2 ^ k
 ·rw [if_pos (by simp [h]), if_pos h]
 ·rw [if_neg (by simp; omega), if_neg h, e2 h]
abbrev Rd := UInt32 × Int × Int × Int × UInt64 × UInt64 × Int
theorem Atf {k l : Nat} {s t : UInt64} (h : okD k l s t) (v : UInt32) (r : Int) : Aek (k : Int) (l : Int) s t v r = some (v, r, ((kS k (Aao s (n64 v)) : Nat) : Int), ((lK l t k v : Nat) : Int), Aao s (n64 v), lT t k v, 0) := by
 obtain ⟨h1, h2, h3, h4⟩ := h
 have hp : ∀ (x : Int) (y : UInt64), Aas v r (k : Int) s x y = some (v, r, ((kS k (Aao s (n64 v)) : Nat) : Int), x, Aao s (n64 v), y, 0) := by
  intro x y
  rw [Aas, Ajt, Gy, Atq, Bpb k h1]
  rw [Aj6, Aju, Ahv, An3, Gy, Atq]; rfl
 rw [Aek, Akn, Blt k l s t h1, Aa]
 by_cases hv : v.toNat < 2 ^ k
 ·rw [if_pos hv]
  simp only
  rw [if_neg (by rw [Ca]; simp), hp, lK, if_pos hv, lT, if_pos hv]
 ·rw [if_neg hv]
  simp only
  rw [if_pos (by rw [Ca]; rfl), Gy, Atq, Bpb l h2 _ (fun x => Aas v r (k : Int) s x (Aao t (UInt64.ofNat (Arq k v).toNat))), hp, lK, if_neg hv, lT, if_neg hv]; rfl
def dgS (p : List UInt8) (N a k l : Nat) : UInt32 × Int × Int :=
 if N ≤ a then (0, 0, 24) else
 if It p a = 0 then (if N < a + 1 + k then (0, 0, 24) else (UInt32.ofNat (Bv p (a + 1) k), ((a + 1 + k : Nat) : Int), 0)) else
 if (rcS p N (a + 1) l).2.2 ≠ 0 then (0, 0, (rcS p N (a + 1) l).2.2) else
 if 4294967295 < (rcS p N (a + 1) l).1.toNat + 2 ^ k then (0, 0, 12) else (UInt32.ofNat ((rcS p N (a + 1) l).1.toNat + 2 ^ k), (rcS p N (a + 1) l).2.1, 0)
theorem Bq1 {p : List UInt8} {N a k l : Nat} (h : (dgS p N a k l).2.2 = 0) : (a : Int) < (dgS p N a k l).2.1 ∧ (dgS p N a k l).2.1 ≤ N := by
 revert h
 unfold dgS
 split
 ·simp
 split
 ·split
  ·simp
  ·simp only; omega
 ·split
  ·intro h; contradiction
  ·rename_i h1
   split
   ·simp
   ·intro _
    have := Bpr (p := p) (N := N) (a := a + 1) (k := l) (v := (rcS p N (a + 1) l).1) (n := (rcS p N (a + 1) l).2.1) (by
     have e : (rcS p N (a + 1) l).2.2 = 0 := by simpa using h1
     rw [← e])
    simp only; omega
theorem Bmv {p : List UInt8} {N : Nat} (h : okB p N) (a : Nat) {k l : Nat} {s t : UInt64} (hd : okD k l s t) : Vb p (N : Int) (a : Int) (k : Int) (l : Int) s t =
  some (if (dgS p N a k l).2.2 ≠ 0 then (0, 0, 0, 0, 0, 0, (dgS p N a k l).2.2) else ((dgS p N a k l).1, (dgS p N a k l).2.1, ((kS k (Aao s (n64 (dgS p N a k l).1)) : Nat) : Int), ((lK l t k (dgS p N a k l).1 : Nat) : Int), Aao s (n64 (dgS p N a k l).1), lT t k (dgS p N a k l).1, 0)) := by
 obtain ⟨h1, h2, h3, h4⟩ := hd
 have hd : okD k l s t := ⟨h1, h2, h3, h4⟩
 have hN := h.1
 have hg := Arb h a 1 (by omega)
 have hb := Wh p a
 rw [Vb, Ajl, Ae2 h, Aa, if_neg (by rw [Am]; simp), Bqn hd, Aa, if_neg (by rw [Am]; simp), Akp, Ajf]
 refine Eq.trans (congrArg (fun o => Option.bind o _) hg) ?_
 rw [Aa]
 by_cases ha : N ≤ a
 ·have hS : dgS p N a k l = (0, 0, 24) := by rw [dgS, if_pos ha]
  rw [if_pos (by omega), hS]; rfl
 rw [if_neg (by omega)]
 simp only
 have e0 : geq (Ud p a 1) (0 : UInt64) = decide (It p a = 0) := by
  rw [As3, Bool.eq_iff_iff]
  simp only [beq_iff_eq, ← UInt64.toNat_inj, decide_eq_true_eq, Aam p a 1 (by omega), Baj]; rfl
 have e1 : Ae (a : Int) 1 = ((a + 1 : Nat) : Int) := by rw [Ag (by omega) (by omega)]; omega
 rw [if_neg (by rw [Am]; simp), e0, e1]
 by_cases hz : It p a = 0
 ·rw [if_pos (by simp [hz]), Arb h (a + 1) k (by omega), Aa]
  by_cases h5 : N < a + 1 + k
  ·have hS : dgS p N a k l = (0, 0, 24) := by rw [dgS, if_neg ha, if_pos hz, if_pos h5]
   rw [if_pos h5, hS]; rfl
  ·have hS : dgS p N a k l = (UInt32.ofNat (Bv p (a + 1) k), ((a + 1 + k : Nat) : Int), 0) := by rw [dgS, if_neg ha, if_pos hz, if_neg h5]
   rw [if_neg h5, hS]
   simp only
   rw [if_neg (by rw [Am]; simp), Atf hd, Aqe (by omega), Ag (by omega) (by omega)]; rfl
 ·rw [if_neg (by simp [hz]), Bn8 h (a + 1) l h2, Aa]
  have hp : 2 ^ k ≤ 2 ^ 24 := Nat.pow_le_pow_right (by omega) h1
  by_cases h5 : (rcS p N (a + 1) l).2.2 ≠ 0
  ·have hS : dgS p N a k l = (0, 0, (rcS p N (a + 1) l).2.2) := by rw [dgS, if_neg ha, if_neg hz, if_pos h5]
   rw [hS]
   generalize rcS p N (a + 1) l = R at *
   obtain ⟨v, n, e⟩ := R
   simp only at *
   rw [if_pos (by rw [Am]; simpa using h5), if_pos h5]
  ·have hv := (rcS p N (a + 1) l).1.toNat_lt
   have z : (GI.toZ (k : Int)).toNat = k := rfl
   have e3 : (Dx (1 : UInt32) k).toNat = 2 ^ k := by rw [Atd]; show 1 * 2 ^ k % _ = _; rw [Nat.mod_eq_of_lt (by omega), Nat.one_mul]
   by_cases h6 : 4294967295 < (rcS p N (a + 1) l).1.toNat + 2 ^ k
   ·have hS : dgS p N a k l = (0, 0, 12) := by rw [dgS, if_neg ha, if_neg hz, if_neg h5, if_pos h6]
    rw [hS]
    generalize rcS p N (a + 1) l = R at *
    obtain ⟨v, n, e⟩ := R
    simp only at *
    rw [if_neg (by rw [Am]; simpa using h5), Bz (by rw [Dl]; simp), Aa, z, if_pos (by rw [Bga, Ato, UInt32.toNat_add, e3]; simp; omega), if_pos (by decide)]
   ·have hS : dgS p N a k l = (UInt32.ofNat ((rcS p N (a + 1) l).1.toNat + 2 ^ k), (rcS p N (a + 1) l).2.1, 0) := by rw [dgS, if_neg ha, if_neg hz, if_neg h5, if_neg h6]
    rw [hS]
    generalize rcS p N (a + 1) l = R at *
    obtain ⟨v, n, e⟩ := R
    simp only at *
    have e4 : Ae v (Dx (1 : UInt32) k) = UInt32.ofNat (v.toNat + 2 ^ k) := by
     apply UInt32.toNat_inj.1
     rw [Ato, UInt32.toNat_add, e3, Akk (by omega), Nat.mod_eq_of_lt (by omega)]
    rw [if_neg (by rw [Am]; simpa using h5), Bz (by rw [Dl]; simp), Aa, z, if_neg (by rw [Bga, Ato, UInt32.toNat_add, e3]; simp; omega), e4, Atf hd]; rfl
theorem Bld {p : List UInt8} {N : Nat} (h : okB p N) (a : Nat) (k l : Nat) (s t : UInt64) (h1 : k ≤ 24) (h2 : l ≤ 24) : Vf p (N : Int) (a : Int) (k : Int) (l : Int) s t = some (dgS p N a k l) := by
 have hN := h.1
 have hl := h.2.1
 have hb := Wh p a
 rw [Vf]
 by_cases ha : N ≤ a
 ·rw [if_pos (by rw [Dl]; simp; omega), dgS, if_pos ha]
 rw [if_neg (by rw [Dl]; simp; omega), Aq9 p _ a (by omega) (by omega), Aa, Bl (a := (N : Int)) (b := (a : Int)) (by omega) (by omega), Bl (by omega) (by omega)]
 have e1 : Ae (a : Int) 1 = ((a + 1 : Nat) : Int) := by rw [Ag (by omega) (by omega)]; omega
 rw [e1]
 by_cases hz : It p a = 0
 ·rw [if_pos (by rw [Ca]; simp [hz])]
  by_cases h5 : N < a + 1 + k
  ·rw [if_pos (by rw [Af]; simp; omega), dgS, if_neg ha, if_pos hz, if_pos h5]
  ·rw [if_neg (by rw [Af]; simp; omega), Aob p _ (a + 1) k (by omega) (by omega), Aa, dgS, if_neg ha, if_pos hz, if_neg h5, Aqe (by omega), Ag (by omega) (by omega)]; rfl
 ·rw [if_neg (by rw [Ca]; simp; omega), Bjl h (a + 1) l h2, Aa]
  have hp : 2 ^ k ≤ 2 ^ 24 := Nat.pow_le_pow_right (by omega) h1
  have hv := (rcS p N (a + 1) l).1.toNat_lt
  have e2 : ∀ x : UInt64, (Ad x : UInt32) = UInt32.ofNat x.toNat := fun x => by simp only [Ad, Hf, Ea]
  by_cases h5 : (rcS p N (a + 1) l).2.2 ≠ 0
  ·have hS : dgS p N a k l = (0, 0, (rcS p N (a + 1) l).2.2) := by rw [dgS, if_neg ha, if_neg hz, if_pos h5]
   rw [hS]
   generalize rcS p N (a + 1) l = R at *
   obtain ⟨v, n, e⟩ := R
   simp only at *
   rw [if_pos (by rw [Am]; simpa using h5)]
  ·have hsum : ∀ v : UInt32, (Ae (Ad v : UInt64) (UInt64.ofNat (2 ^ k))).toNat = v.toNat + 2 ^ k := by
    intro v
    have := v.toNat_lt
    have := Nat.pow_pos (n := k) (show 0 < 2 by omega)
    rw [Adc, UInt64.toNat_add, Gy, Ahb (by omega), UInt64.toNat_ofNat']; omega
   by_cases h6 : 4294967295 < (rcS p N (a + 1) l).1.toNat + 2 ^ k
   ·have hS : dgS p N a k l = (0, 0, 12) := by rw [dgS, if_neg ha, if_neg hz, if_neg h5, if_pos h6]
    rw [hS]
    generalize rcS p N (a + 1) l = R at *
    obtain ⟨v, n, e⟩ := R
    simp only at *
    rw [if_neg (by rw [Am]; simpa using h5), Adk k (by omega), Aa, if_pos (by rw [Agu, hsum]; simpa using h6)]
   ·have hS : dgS p N a k l = (UInt32.ofNat ((rcS p N (a + 1) l).1.toNat + 2 ^ k), (rcS p N (a + 1) l).2.1, 0) := by rw [dgS, if_neg ha, if_neg hz, if_neg h5, if_neg h6]
    rw [hS]
    generalize rcS p N (a + 1) l = R at *
    obtain ⟨v, n, e⟩ := R
    simp only at *
    rw [if_neg (by rw [Am]; simpa using h5), Adk k (by omega), Aa, if_neg (by rw [Agu, hsum]; simpa using h6), e2, hsum]
end Go.Pl
set_option linter.unusedVariables false
set_option linter.unusedSimpArgs false
namespace Go.Pl
open Go Go.Lv
abbrev DuN := Nat × Nat × UInt64 × UInt64
def okN (d : DuN) : Prop := okD d.1 d.2.1 d.2.2.1 d.2.2.2
def nxt (d : DuN) (v : UInt32) : DuN := (kS d.1 (Aao d.2.2.1 (n64 v)), lK d.2.1 d.2.2.2 d.1 v, Aao d.2.2.1 (n64 v), lT d.2.2.2 d.1 v)
def Ayo : DuN := (10, 10, 16384, 16384)
theorem Bln : okN Ayo := ⟨by decide, by decide, by decide, by decide⟩
theorem Bqw {d : DuN} (h : okN d) (v : UInt32) : okN (nxt d v) := Bkh h v
abbrev DuL := Int × Int × UInt64 × UInt64 × Unit
def toI (d : DuN) : DuL := ((d.1 : Int), (d.2.1 : Int), d.2.2.1, d.2.2.2, ())
def chP (ch : Nat) (v : List UInt32) (c : Nat) : Nat → DuN
 | 0 => Ayo
 | m + 1 => if m % ch = c then nxt (chP ch v c m) (v.getD m 0) else chP ch v c m
theorem Aqp (ch : Nat) (v : List UInt32) (c : Nat) : ∀ m, okN (chP ch v c m)
 | 0 => Bln
 | m + 1 => by rw [chP]; split; exact Bqw (Aqp ch v c m) _; exact Aqp ch v c m
theorem Bgq (ch : Nat) (v w : List UInt32) (c : Nat) : ∀ m, m ≤ v.length → chP ch (v ++ w) c m = chP ch v c m
 | 0, _ => rfl
 | m + 1, h => by
  have e : (v ++ w).getD m 0 = v.getD m 0 := by simp [List.getD_eq_getElem?_getD, List.getElem?_append_left (show m < v.length by omega)]
  rw [chP, chP, Bgq ch v w c m (by omega), e]
theorem Ayq (ch : Nat) (v : List UInt32) (c : Nat) : ∀ m, m ≤ c → c < ch → chP ch v c m = Ayo
 | 0, _, _ => rfl
 | m + 1, h, h2 => by rw [chP, if_neg (by rw [Nat.mod_eq_of_lt (by omega)]; omega), Ayq ch v c m (by omega) h2]
theorem Bb7 (ch : Nat) (v : List UInt32) (c i : Nat) (hi : i % ch = c) (hc : c < ch) : ∀ j, j < ch → chP ch v c (i + 1 + j) = chP ch v c (i + 1)
 | 0, _ => rfl
 | j + 1, h => by
  have hne : (i + 1 + j) % ch ≠ c := by
   intro e
   have h1 : (i + (1 + j)) % ch = i % ch := by rw [hi, ← e]; congr 1; omega
   have h2 : (1 + j) % ch = 0 := by
    have h3 := Nat.sub_mod_eq_zero_of_mod_eq h1
    rwa [Nat.add_sub_cancel_left] at h3
   rw [Nat.mod_eq_of_lt (by omega)] at h2; omega
  rw [show i + 1 + (j + 1) = (i + 1 + j) + 1 by omega, chP, if_neg hne, Bb7 ch v c i hi hc j (by omega)]
theorem Bli (ch : Nat) (v : List UInt32) (c i : Nat) (hi : i % ch = c) (hc : c < ch) : chP ch v c (i + ch) = nxt (chP ch v c i) (v.getD i 0) := by
 have h := Bb7 ch v c i hi hc (ch - 1) (by omega)
 rw [show i + 1 + (ch - 1) = i + ch by omega] at h
 rw [h, chP, if_pos hi]
theorem Auf {l : List UInt32} {k : Nat} (h : k < l.length) : getI l (k : Int) = some (l.getD k 0) := by
 rw [Df h]; simp [List.getD_eq_getElem?_getD, h]
theorem Aox (a b : Nat) : Hz (a : Int) (b : Int) = ((a % b : Nat) : Int) := by rw [Hz, Int.tmod_eq_emod_of_nonneg (by omega)]; omega
theorem Asf (ch : Nat) (v : List UInt32) (hch : 1 ≤ ch) (hch6 : ch ≤ 6) (hv : v.length ≤ 4000) : ∀ (j i q : Nat), i % ch = v.length % ch → i ≤ v.length → v.length - i ≤ j → j < q →
  Gm (ch : Int) v q (i : Int) ((chP ch v (v.length % ch) i).1 : Int) ((chP ch v (v.length % ch) i).2.1 : Int) (chP ch v (v.length % ch) i).2.2.1 (chP ch v (v.length % ch) i).2.2.2 =
   some (((chP ch v (v.length % ch) v.length).1 : Int), ((chP ch v (v.length % ch) v.length).2.1 : Int), (chP ch v (v.length % ch) v.length).2.2.1, (chP ch v (v.length % ch) v.length).2.2.2)
 | j, i, q + 1, hi, hl, hj, hq => by
  have hc : v.length % ch < ch := Nat.mod_lt _ (by omega)
  rw [Gm, Px]
  by_cases h : i < v.length
  ·have h1 := Bhc (Aqp ch v (v.length % ch) i) (v.getD i 0)
   rw [if_pos (by rw [Af, Ac]; simp; omega), Auf h, Aa, h1, Aa]
   have hle : i + ch ≤ v.length := by
    have h2 := Nat.div_add_mod i ch
    have h3 := Nat.div_add_mod v.length ch
    rw [hi] at h2
    have h4 : ch * (i / ch) < ch * (v.length / ch) := by omega
    have h5 := Nat.lt_of_mul_lt_mul_left h4
    have h6 : ch * (i / ch + 1) ≤ ch * (v.length / ch) := Nat.mul_le_mul_left _ h5
    rw [Nat.mul_add] at h6; omega
   have ih := Asf ch v hch hch6 hv (j - ch) (i + ch) q (by rw [Nat.add_mod_right]; exact hi) hle (by omega) (by omega)
   rw [Bli ch v _ i hi hc] at ih
   simp only
   rw [Ag (by omega) (by omega)]
   exact ih
  ·rw [if_neg (by rw [Af, Ac]; simp; omega), show i = v.length by omega]; rfl
theorem Bi1 (ch : Nat) (v : List UInt32) (hch : 1 ≤ ch) (hch6 : ch ≤ 6) (hv : v.length ≤ 4000) : Jk (ch : Int) v = some (((chP ch v (v.length % ch) v.length).1 : Int), ((chP ch v (v.length % ch) v.length).2.1 : Int), (chP ch v (v.length % ch) v.length).2.2.1, (chP ch v (v.length % ch) v.length).2.2.2) := by
 have hc : v.length % ch < ch := Nat.mod_lt _ (by omega)
 have hle : v.length % ch ≤ v.length := Nat.mod_le _ _
 have h := Asf ch v hch hch6 hv v.length (v.length % ch) Ba (by rw [Nat.mod_mod]) hle (by omega) (by have := Aq; omega)
 rw [Ayq ch v _ _ (Nat.le_refl _) hc] at h
 rw [Jk, Qd, Hs, Aa]
 simp only
 rw [Bz (by rw [Am]; simp; omega), Aa, Ac, Aox]
 exact h
def now (ch : Nat) (v : List UInt32) : DuN := chP ch v (v.length % ch) v.length
def win (N a : Nat) : Nat := min 81 (N - a)
def Ju (ch : Nat) (p : List UInt8) (N a : Nat) (out : List UInt32) : UInt32 × Int × Int := dgS (Ab6 p a (win N a)) (win N a) 0 (now ch out).1 (now ch out).2.1
def Yq (ch : Nat) (p : List UInt8) (N : Nat) : Nat → Nat → List UInt32 → List UInt32 × Nat × Int
 | 0, a, out => (out, a, 0)
 | j + 1, a, out => if (Ju ch p N a out).2.2 ≠ 0 then (out, a, (Ju ch p N a out).2.2) else Yq ch p N j (a + (Ju ch p N a out).2.1.toNat) (out ++ [(Ju ch p N a out).1])
theorem Amz {ch : Nat} {p : List UInt8} {N a : Nat} {out : List UInt32} (h : (Ju ch p N a out).2.2 = 0) : 0 < (Ju ch p N a out).2.1 ∧ (Ju ch p N a out).2.1 ≤ win N a := by
 have := Bq1 h
 exact ⟨this.1, this.2⟩
theorem Ayj {ch : Nat} {p : List UInt8} {N a : Nat} {out : List UInt32} (h : (Ju ch p N a out).2.2 = 0) : ((a : Int) + (Ju ch p N a out).2.1) = ((a + (Ju ch p N a out).2.1.toNat : Nat) : Int) := by
 have := Amz h; omega
def sts (ch : Nat) (v : List UInt32) : List DuL := (List.range 6).map fun c => toI (chP ch v c v.length)
theorem Bgs {ch : Nat} {v : List UInt32} {c : Nat} (h : c < 6) : getI (sts ch v) (c : Int) = some (toI (chP ch v c v.length)) := by
 rw [Df (by simp [sts]; exact h)]; simp [sts]
theorem Bmu {ch : Nat} {v : List UInt32} {c : Nat} (x : UInt32) (h : c < 6) (hc : c = v.length % ch) : Pm (sts ch v) (c : Int) (toI (nxt (chP ch v c v.length) x)) = some (sts ch (v ++ [x])) := by
 rw [Vp _ (by simp [sts]; exact h)]
 congr 1
 apply List.ext_getElem (by simp [sts])
 intro i h1 h2
 rw [List.getElem_set]
 simp only [sts, List.getElem_map, List.getElem_range]
 have e : (v ++ [x]).getD v.length 0 = x := by simp
 rw [List.length_append, List.length_singleton, chP, e, Bgq ch v [x] i v.length (Nat.le_refl _)]
 by_cases hi : c = i
 ·subst hi; rw [if_pos rfl, if_pos hc.symm]
 ·rw [if_neg hi, if_neg (by omega)]
section
variable {p : List UInt8} {N ch n : Nat}
theorem Ban (hp : okB p N) (h1 : 1 ≤ ch) (h6 : ch ≤ 6) (hn : n * ch ≤ 4000) : ∀ (j a q : Nat) (out : List UInt32), out.length + j = n * ch → j < q → a ≤ N →
  Kt (ch : Int) (n : Int) p (N : Int) q (a : Int) (out.length : Int) (sts ch out) out =
   some (if (Yq ch p N j a out).2.2 ≠ 0 then ([], 0, (Yq ch p N j a out).2.2) else ((Yq ch p N j a out).1, ((Yq ch p N j a out).2.1 : Int), 0))
 | j, a, q + 1, out, hj, hq, ha => by
  have hN := hp.1
  have hnn : n ≤ n * ch := Nat.le_mul_of_pos_right n (by omega)
  have em : Bi (n : Int) (ch : Int) = ((n * ch : Nat) : Int) := by rw [Hc (by rw [← Int.natCast_mul]; omega) (by rw [← Int.natCast_mul]; omega), Int.natCast_mul]
  rw [Kt, Qc, em]
  cases j with
  | zero =>
   rw [if_neg (by rw [Af]; simp; omega)]; rfl
  | succ j =>
   have hc : out.length % ch < 6 := Nat.lt_of_lt_of_le (Nat.mod_lt _ (by omega)) h6
   have ew : Gg (Ae (a : Int) 81) (N : Int) = ((a + win N a : Nat) : Int) := by rw [Ahg, Ag (by omega) (by omega)]; unfold win; omega
   have hw : a + win N a ≤ N := by unfold win; omega
   have hw2 : win N a ≤ 81 := by unfold win; omega
   have hd := Bmv (Bgd p a (win N a) (by omega)) 0 (Aqp ch out (out.length % ch) out.length)
   have ecode : dgS (Ab6 p a (win N a)) (win N a) 0 (chP ch out (out.length % ch) out.length).1 (chP ch out (out.length % ch) out.length).2.1 = Ju ch p N a out := rfl
   rw [if_pos (by rw [Af]; simp; omega), ew, Bqh hp a _ hw (by omega), Aa]
   simp only
   rw [if_neg (by rw [Am]; simp), Bz (by rw [Am]; simp; omega), Aa, Aox, Bgs hc, Aa, Aa]
   refine Eq.trans (congrArg (fun o => Option.bind o _) hd) ?_
   rw [Aa, ecode, Yq]
   by_cases he : (Ju ch p N a out).2.2 ≠ 0
   ·rw [if_pos he, if_pos he]
    simp only
    rw [Qb, Pv, if_pos (by rw [Am]; simpa using he), if_pos he]
   ·have he0 : (Ju ch p N a out).2.2 = 0 := by simpa using he
    have hok := Amz he0
    have hset := Bmu (ch := ch) (v := out) (Ju ch p N a out).1 hc rfl
    rw [if_neg he, if_neg he]
    simp only
    rw [Qb, Pv, if_neg (by rw [Am]; simp), Bz (by rw [Am]; simp; omega), Aa, Aox, Bgs hc, Aa]
    refine Eq.trans (congrArg (fun o => Option.bind o _) hset) ?_
    rw [Aa, Xc, Afk, Dp (by simp; omega), Aa, Ag (by omega) (by omega), Ag (by omega) (by omega), Ayj he0]
    have ih := Ban hp h1 h6 hn j (a + (Ju ch p N a out).2.1.toNat) q (out ++ [(Ju ch p N a out).1]) (by simp; omega) (by omega) (by omega)
    rw [List.length_append, List.length_singleton] at ih
    exact ih
theorem Bgi {p : List UInt8} (hN : N = 8 * p.length) (hN2 : N ≤ 330000) (h1 : 1 ≤ ch) (h6 : ch ≤ 6) (hn : n * ch ≤ 4000) : ∀ (j a q : Nat) (out : List UInt32), out.length + j = n * ch → j < q → a ≤ N →
  Di (ch : Int) (n : Int) p q (a : Int) (out.length : Int) out =
   if (Yq ch p N j a out).2.2 ≠ 0 then some ((Yq ch p N j a out).1, (Yq ch p N j a out).2.2) else Ky ((Yq ch p N j a out).2.1 : Int) p (Yq ch p N j a out).1
 | j, a, q + 1, out, hj, hq, ha => by
  have hnn : n ≤ n * ch := Nat.le_mul_of_pos_right n (by omega)
  have em : Bi (n : Int) (ch : Int) = ((n * ch : Nat) : Int) := by rw [Hc (by rw [← Int.natCast_mul]; omega) (by rw [← Int.natCast_mul]; omega), Int.natCast_mul]
  have e8 : Bi (8 : Int) (Ac p) = (N : Int) := by rw [Ac, Hc (by omega) (by omega)]; omega
  rw [Di, Rm, em]
  cases j with
  | zero =>
   rw [if_neg (by rw [Af]; simp; omega)]; rfl
  | succ j =>
   have ew : Gg (Ae (a : Int) 81) (N : Int) = ((a + win N a : Nat) : Int) := by rw [Ahg, Ag (by omega) (by omega)]; unfold win; omega
   have hw : a + win N a ≤ N := by unfold win; omega
   have hw2 : win N a ≤ 81 := by unfold win; omega
   have hpre : (Option.bind Hs fun (r_4, r_5, r_6, r_7) =>
     if (Qy (out.length : Int) (ch : Int)) = true then (
     Option.bind (Jk (ch : Int) out) fun (r_8, r_9, r_10, r_11) =>
     Fs (Di (ch : Int) (n : Int) p q) (ch : Int) (n : Int) p (a : Int) (out.length : Int) out r_8 r_9 r_10 r_11)
     else Fs (Di (ch : Int) (n : Int) p q) (ch : Int) (n : Int) p (a : Int) (out.length : Int) out r_4 r_5 r_6 r_7) =
     Fs (Di (ch : Int) (n : Int) p q) (ch : Int) (n : Int) p (a : Int) (out.length : Int) out ((now ch out).1 : Int) ((now ch out).2.1 : Int) (now ch out).2.2.1 (now ch out).2.2.2 := by
    rw [Hs, Aa]
    by_cases hc : ch ≤ out.length
    ·simp only
     rw [if_pos (by rw [Dl]; simp; omega), Bi1 ch out h1 h6 (by omega), Aa]; rfl
    ·have e : now ch out = Ayo := by rw [now, Nat.mod_eq_of_lt (by omega), Ayq ch out _ _ (Nat.le_refl _) (by omega)]
     simp only
     rw [if_neg (by rw [Dl]; simp; omega), e]; rfl
   have hd := Bld (Bgd p a (win N a) (by omega)) 0 (now ch out).1 (now ch out).2.1 (now ch out).2.2.1 (now ch out).2.2.2 (Aqp ch out _ _).1 (Aqp ch out _ _).2.1
   have ecode : dgS (Ab6 p a (win N a)) (win N a) 0 (now ch out).1 (now ch out).2.1 = Ju ch p N a out := rfl
   rw [if_pos (by rw [Af]; simp; omega), hpre, Fs, Abf, e8, ew, Bcw p (N : Int) a _ (by omega) (by omega) (by omega), Aa]
   simp only
   refine Eq.trans (congrArg (fun o => Option.bind o _) hd) ?_
   rw [Aa, ecode, Yq]
   by_cases he : (Ju ch p N a out).2.2 ≠ 0
   ·rw [if_pos he, if_pos (by rw [Am]; simpa using he), if_pos he]
   ·have he0 : (Ju ch p N a out).2.2 = 0 := by simpa using he
    have hok := Amz he0
    have ih := Bgi hN hN2 h1 h6 hn j (a + (Ju ch p N a out).2.1.toNat) q (out ++ [(Ju ch p N a out).1]) (by simp; omega) (by omega) (by omega)
    have hx := Ayj he0
    rw [List.length_append, List.length_singleton] at ih
    rw [if_neg he]
    generalize Ju ch p N a out = R at *
    obtain ⟨v, nx, e⟩ := R
    simp only at *
    rw [if_neg (by rw [Am]; simpa using he), Dp (by simp; omega), Aa, Ag (by omega) (by omega), Ag (by omega) (by omega), hx]
    exact ih
end
theorem Ay7 {ch : Nat} {p : List UInt8} {N : Nat} : ∀ (j a : Nat) (out : List UInt32), a ≤ N → (Yq ch p N j a out).2.1 ≤ N ∧ (Yq ch p N j a out).1.length ≤ out.length + j ∧ ((Yq ch p N j a out).2.2 = 0 → (Yq ch p N j a out).1.length = out.length + j)
 | 0, a, out, h => ⟨h, Nat.le_refl _, fun _ => rfl⟩
 | j + 1, a, out, h => by
  rw [Yq]
  split
  ·rename_i he
   exact ⟨h, by simp, fun e => absurd e he⟩
  ·rename_i he
   have hok := Amz (ch := ch) (p := p) (N := N) (a := a) (out := out) (by simpa using he)
   have hw : a + win N a ≤ N := by unfold win; omega
   have ih := Ay7 (ch := ch) (p := p) (N := N) j (a + (Ju ch p N a out).2.1.toNat) (out ++ [(Ju ch p N a out).1]) (by omega)
   rw [List.length_append, List.length_singleton] at ih
   exact ⟨ih.1, by omega, fun e => by have := ih.2.2 e; omega⟩
theorem Bb5 (ch n : Int) (b : List UInt8) (N : Int) : Qw ch n b N 0 (List.replicate 6 ((0 : Int), (0 : Int), (0 : UInt64), (0 : UInt64), ())) = Xq ch n b N (List.replicate 6 ((10 : Int), (10 : Int), (16384 : UInt64), (16384 : UInt64), ())) := by
 have e : Ba = (Ba - 7) + 1 + 1 + 1 + 1 + 1 + 1 + 1 := by have := Aq; omega
 rw [Qw, e]
 rfl
theorem values_eq {p : List UInt8} {N ch n : Nat} (hp : okB p N) (h1 : 1 ≤ ch) (h6 : ch ≤ 6) (hn : n * ch ≤ 4000) : Aau (ch : Int) (n : Int) p (N : Int) =
  some (if (Yq ch p N (n * ch) 0 []).2.2 ≠ 0 then ([], 0, (Yq ch p N (n * ch) 0 []).2.2) else ((Yq ch p N (n * ch) 0 []).1, ((Yq ch p N (n * ch) 0 []).2.1 : Int), 0)) := by
 have h := Ban hp h1 h6 hn (n * ch) 0 Ba [] (by simp) (by have := Aq; omega) (by omega)
 rw [Aau, Zd, Bb5]
 exact h
theorem Ayh (p : List UInt8) (x : List UInt32) (N : Nat) (hN : N = 8 * p.length) (hN2 : N ≤ 330000) : ∀ (j a q : Nat), a + j = N → j < q → Fo p x q (a : Int) = some (x, if Bv p a j = 0 then 0 else 12)
 | 0, a, q + 1, ha, _ => by
  have e8 : Bi (8 : Int) (Ac p) = (N : Int) := by rw [Ac, Hc (by omega) (by omega)]; omega
  rw [Fo, Lg, e8, if_neg (by rw [Af]; simp; omega), Bv, if_pos rfl]; rfl
 | j + 1, a, q + 1, ha, hq => by
  have e8 : Bi (8 : Int) (Ac p) = (N : Int) := by rw [Ac, Hc (by omega) (by omega)]; omega
  have hb := Wh p a
  rw [Fo, Lg, e8, if_pos (by rw [Af]; simp; omega), Aq9 p _ a (by omega) (by omega), Aa, Bv]
  by_cases h : It p a = 0
  ·rw [if_neg (by rw [Am]; simp [h]), Ag (by omega) (by omega), h]
   have ih := Ayh p x N hN hN2 j (a + 1) q (by omega) (by omega)
   rw [show ((a : Int) + 1) = ((a + 1 : Nat) : Int) by omega, ih]
   congr 2
   by_cases hv : Bv p (a + 1) j = 0
   ·rw [if_pos hv, if_pos (by omega)]
   ·rw [if_neg hv, if_neg (by omega)]
  ·rw [if_pos (by rw [Am]; simp; omega), if_neg (by omega)]
theorem Bom {p : List UInt8} {N ch n : Nat} (hN : N = 8 * p.length) (hN2 : N ≤ 330000) (h1 : 1 ≤ ch) (h6 : ch ≤ 6) (hn : n * ch ≤ 4000) : Ti (ch : Int) (n : Int) p =
  some (if (Yq ch p N (n * ch) 0 []).2.2 ≠ 0 then ((Yq ch p N (n * ch) 0 []).1, (Yq ch p N (n * ch) 0 []).2.2) else
   ((Yq ch p N (n * ch) 0 []).1, if 7 < N - (Yq ch p N (n * ch) 0 []).2.1 ∨ Bv p (Yq ch p N (n * ch) 0 []).2.1 (N - (Yq ch p N (n * ch) 0 []).2.1) ≠ 0 then 12 else 0)) := by
 have h := Bgi hN hN2 h1 h6 hn (n * ch) 0 Ba [] (by simp) (by have := Aq; omega) (by omega)
 have hat := (Ay7 (ch := ch) (p := p) (N := N) (n * ch) 0 [] (by omega)).1
 have e8 : Bi (8 : Int) (Ac p) = (N : Int) := by rw [Ac, Hc (by omega) (by omega)]; omega
 rw [Ti, Ty]
 refine Eq.trans h ?_
 generalize Yq ch p N (n * ch) 0 [] = V at *
 obtain ⟨v, a, e⟩ := V
 simp only at *
 by_cases he : e ≠ 0
 ·rw [if_pos he, if_pos he]
 ·rw [if_neg he, if_neg he, Ky, Sf, e8, Bl (by omega) (by omega)]
  by_cases h7 : 7 < N - a
  ·rw [if_pos (by rw [Bc]; simp; omega), if_pos (.inl h7)]
  ·rw [if_neg (by rw [Bc]; simp; omega), Ry, Ayh p v N hN hN2 (N - a) a Ba (by omega) (by have := Aq; omega)]
   by_cases hv : Bv p a (N - a) = 0
   ·rw [if_pos hv, if_neg (by omega)]
   ·rw [if_neg hv, if_pos (.inr hv)]
end Go.Pl
set_option linter.unusedVariables false
set_option linter.unusedSimpArgs false
namespace Go.Pl
open Go Go.Lv
theorem Azd (n : Int) : (GI.ofZ n : Int32) = Int32.ofInt n := rfl
theorem Ag3 (a : Int32) : GI.toZ a = a.toInt := rfl
theorem Aig (a b : Int32) : Ae a b = a + b := by
 rw [Ae, Ag3, Ag3, Azd, Int32.ofInt_add, Int32.ofInt_toInt, Int32.ofInt_toInt]
theorem Awd (a b : Int32) : Al a b = a - b := by
 rw [Al, Ag3, Ag3, Azd, Int32.ofInt_sub, Int32.ofInt_toInt, Int32.ofInt_toInt]
theorem Bfu (a b : Int32) : geq a b = (a == b) := by
 rw [geq, Ag3, Ag3, Bool.eq_iff_iff]; simp [Int32.toInt_inj]
def sel (p : Nat → Bool) (a b : List Int32) : List Int32 := (List.range a.length).map fun k => if p k = true then a.getD k 0 else b.getD k 0
section
variable {p q : Nat → Bool} {a b : List Int32}
theorem Ajn : (sel p a b).length = a.length := by simp [sel]
theorem La {k : Nat} (h : k < a.length) : a.getD k 0 = a[k] := by simp [List.getD_eq_getElem?_getD, h]
theorem Xx {k : Nat} (h : k < (sel p a b).length) : (sel p a b)[k] = if p k = true then a.getD k 0 else b.getD k 0 := by simp [sel]
theorem Agx {k : Nat} (h : k < a.length) : getI (sel p a b) (k : Int) = some (if p k = true then a.getD k 0 else b.getD k 0) := by
 rw [Df (by rw [Ajn]; exact h), Xx]
theorem Xu (h : ∀ k, k < a.length → p k = q k) : sel p a b = sel q a b := by
 apply List.map_congr_left
 intro k hk
 rw [h k (List.mem_range.1 hk)]
theorem Apu {k : Nat} (h : k < a.length) : Pm (sel p a b) (k : Int) (a.getD k 0) = some (sel (fun j => p j || decide (j = k)) a b) := by
 rw [Vp _ (by rw [Ajn]; exact h)]
 congr 1
 apply List.ext_getElem (by simp [Ajn])
 intro i h1 h2
 rw [List.getElem_set, Xx, Xx]
 by_cases hi : k = i
 ·subst hi; simp
 ·have : ¬ i = k := fun e => hi e.symm
  simp [hi, this]
theorem Ap6 (h : ∀ k, k < a.length → p k = true) : sel p a b = a := by
 apply List.ext_getElem (by simp [Ajn])
 intro i h1 h2
 rw [Xx, if_pos (h i h2), La h2]
theorem Ap2 (hl : b.length = a.length) (h : ∀ k, k < a.length → p k = false) : sel p a b = b := by
 apply List.ext_getElem (by simp [Ajn, hl])
 intro i h1 h2
 rw [Xx, h i (by omega)]
 simp [List.getD_eq_getElem?_getD, h2]
end
end Go.Pl
set_option linter.unusedVariables false
set_option linter.unusedSimpArgs false
namespace Go.Pl
open Go Go.Lv
theorem Ata (a b : Int32) : Bi a b = a * b := by
 rw [Bi, Ag3, Ag3, Azd, Int32.ofInt_mul, Int32.ofInt_toInt, Int32.ofInt_toInt]
theorem Ys (a : Int32) : -2147483648 ≤ a.toInt ∧ a.toInt < 2147483648 := ⟨a.le_toInt, a.toInt_lt⟩
theorem El (a : Int32) : (Ad a : Int) = a.toInt := by
 have := Ys a
 show wrap64 a.toInt = _
 rw [Bw] <;> omega
theorem Aex (n : Int) : (Ad n : Int32) = Int32.ofInt n := rfl
theorem Bik (x : Int) : Int32.ofInt (x % 4294967296) = Int32.ofInt x := by
 apply Int32.toInt_inj.1
 rw [Int32.toInt_ofInt, Int32.toInt_ofInt]
 exact Int.emod_bmod x 4294967296
theorem As6 (x : Int) : Bq x = some (Int32.ofInt x) := by
 have e1 : (Ad x : UInt64).toNat = (x % 18446744073709551616).toNat := by
  rw [Bay, UInt64.toNat_ofNat', Nat.mod_eq_of_lt (by omega)]
 have e2 : (Ad (Ad x : UInt64) : UInt32).toNat = (x % 4294967296).toNat := by
  have e : (Ad (Ad x : UInt64) : UInt32) = UInt32.ofNat (Ad x : UInt64).toNat := by simp only [Ad, Hf, Ea]
  rw [e, UInt32.toNat_ofNat', e1]
  show (x % 18446744073709551616).toNat % 4294967296 = _
  omega
 have e3 : (Ad (Ad (Ad x : UInt64) : UInt32) : Int32) = Int32.ofInt ((Ad (Ad x : UInt64) : UInt32).toNat : Int) := rfl
 rw [Bq, e3, e2, ← Bik x]
 congr 2; omega
theorem Apf (a b : Int32) : Bq (Ae (Ad a : Int) (Ad b : Int)) = some (a + b) := by
 have := Ys a
 have := Ys b
 rw [El, El, Ag (by omega) (by omega), As6, Int32.ofInt_add, Int32.ofInt_toInt, Int32.ofInt_toInt]
theorem Bma (a b : Int32) : Bq (Bi (Ad a : Int) (Ad b : Int)) = some (a * b) := by
 have ha := Ys a
 have hb := Ys b
 have h1 : -9223372036854775808 ≤ a.toInt * b.toInt ∧ a.toInt * b.toInt ≤ 9223372036854775807 := by
  have h2 : (a.toInt * b.toInt).natAbs ≤ 2147483648 * 2147483648 := by
   rw [Int.natAbs_mul]; exact Nat.mul_le_mul (by omega) (by omega)
  omega
 rw [El, El, Hc h1.1 h1.2, As6, Int32.ofInt_mul, Int32.ofInt_toInt, Int32.ofInt_toInt]
def OkF (s : Int) (t p : List Int32) : Prop := (s = 9 ∨ s = 10) ∧ t.length = 16 ∧ p.length = 16
theorem Aqw {s : Int} {t p : List Int32} (h : OkF s t p) : Ab4 s t p = some 0 := by
 obtain ⟨rfl | rfl, _, _⟩ := h <;> rfl
theorem g32 {l : List Int32} {k : Nat} (h : k < l.length) : getI l (k : Int) = some (l.getD k 0) := by
 rw [Df h]; simp [List.getD_eq_getElem?_getD, h]
def Alh (t p : List Int32) : Nat → Int32
 | 0 => 0
 | i + 1 => Alh t p i + t.getD i 0 * p.getD i 0
def half (s : Int) : Int32 := if s = 9 then 256 else 512
def gF (s : Int) (t p : List Int32) : Int32 := Int32.ofInt ((half s + Alh t p 16).toInt.fdiv (if s = 9 then 512 else 1024))
theorem Axb {s : Int} {t p : List Int32} (h : OkF s t p) : ∀ (j i q : Nat), i + j = 16 → j < q → Rj t s p q (half s + Alh t p i) (i : Int) = some (gF s t p, 0)
 | 0, i, q + 1, hi, _ => by
  obtain rfl : i = 16 := by omega
  have hs := h.1
  rw [Rj, Ack, if_neg (by rw [Af]; simp), Ahp, An2, Bz (by rw [Dl]; simp; omega), Aa]
  obtain rfl | rfl := hs <;> rfl
 | j + 1, i, q + 1, hi, hq => by
  obtain ⟨hs, ht, hp⟩ := h
  rw [Rj, Ack, if_pos (by rw [Af]; simp; omega), g32 (by omega), Aa, g32 (by omega), Aa, Aa, Ag (b := 1) (by omega) (by omega), Aig, Ata, Int32.add_assoc]
  exact Axb ⟨hs, ht, hp⟩ j (i + 1) q (by omega) (by omega)
theorem Blw {s : Int} {t p : List Int32} (h : OkF s t p) : Aka s t p = some (gF s t p, 0) := by
 have hs := h.1
 have h1 := Axb h 16 0 Ba (by omega) (by have := Aq; omega)
 have e : Dx (1 : Int32) (GI.toZ (Al s (1 : Int))).toNat = half s + Alh t p 0 := by
  obtain rfl | rfl := hs <;> rfl
 rw [Aka, Ah6, Aqw h, Aa, if_neg (by rw [Am]; simp), Bz (by rw [Dl, Bl (by omega) (by omega)]; simp; omega), Aa, Ahh, e]
 exact h1
theorem Au4 {s : Int} {t p : List Int32} (ht : t.length = 16) (hp : p.length = 16) {g : Int32} (hg : Alh t p 16 = g) : ∀ (j i q : Nat), i + j = 16 → j < q → Gt s t p q (Alh t p i).toInt (i : Int) = some g
 | 0, i, q + 1, hi, _ => by
  obtain rfl : i = 16 := by omega
  rw [Gt, Nn, if_neg (by rw [Af]; simp), Vl, Ad8, Aex, Int32.ofInt_toInt, hg]
 | j + 1, i, q + 1, hi, hq => by
  have ih := Au4 (s := s) ht hp hg j (i + 1) q (by omega) (by omega)
  rw [Alh] at ih
  rw [Gt, Nn, if_pos (by rw [Af]; simp; omega), g32 (by omega), g32 (by omega), Aa, Aa, Aa, Aa, Bma, Aa, ← El (Alh t p i), Apf, Aa, El, Ag (by omega) (by omega)]
  exact ih
theorem Bk0 {s : Int} {t p : List Int32} (h : OkF s t p) : Abp s t p = some (Alh t p 16) :=
 Au4 h.2.1 h.2.2 rfl 16 0 Ba (by omega) (by have := Aq; omega)
theorem Bit (x n : Int) (hn : n = 512 ∨ n = 1024 ∨ n = 16 ∨ n = 32) : (if x.tmod n < 0 then x.tdiv n - 1 else x.tdiv n) = x.fdiv n := by
 have hs : n.sign = 1 := by obtain rfl | rfl | rfl | rfl := hn <;> rfl
 rw [Int.tdiv_eq_ediv, Int.tmod_eq_emod, hs, Int.fdiv_eq_ediv_of_nonneg _ (by omega)]
 by_cases h : 0 ≤ x ∨ n ∣ x
 ·rw [if_pos h, if_pos h]
  obtain rfl | rfl | rfl | rfl := hn <;> (rw [if_neg (by omega)]; omega)
 ·rw [if_neg h, if_neg h]
  obtain rfl | rfl | rfl | rfl := hn <;> (rw [if_pos (by omega)]; omega)
theorem Atc (x n : Int) (hn : n = 512 ∨ n = 1024 ∨ n = 16 ∨ n = 32) (h : -1000000000000 ≤ x) (h' : x ≤ 1000000000000) : -1000000000000 ≤ x.tdiv n ∧ x.tdiv n ≤ 1000000000000 := by
 have hs : n.sign = 1 := by obtain rfl | rfl | rfl | rfl := hn <;> rfl
 rw [Int.tdiv_eq_ediv, hs]
 by_cases h : 0 ≤ x ∨ n ∣ x
 ·rw [if_pos h]; obtain rfl | rfl | rfl | rfl := hn <;> omega
 ·rw [if_neg h]; obtain rfl | rfl | rfl | rfl := hn <;> omega
theorem Bse (x n : Int) (hn : n = 512 ∨ n = 1024 ∨ n = 16 ∨ n = 32) (h : -1000000000000 ≤ x) (h' : x ≤ 1000000000000) : Bo x n = x.tdiv n := by
 have := Atc x n hn h h'
 rw [Adr, Bw (by omega) (by omega)]
theorem Bc2 (x n : Int) (hn : n = 512 ∨ n = 1024 ∨ n = 16 ∨ n = 32) (h : -1000000000000 ≤ x) (h' : x ≤ 1000000000000) :
  (if (Dm (Hz x n) (0 : Int)) = true then some (Ad (Al (Bo x n) (1 : Int)) : Int32) else some (Ad (Bo x n) : Int32)) = some (Int32.ofInt (x.fdiv n)) := by
 have hb := Atc x n hn h h'
 rw [Af, Hz, Bse x n hn h h', Bl (by omega) (by omega), Aex, Aex, ← Bit x n hn]
 by_cases hx : x.tmod n < 0
 ·rw [if_pos (by simpa using hx), if_pos hx]
 ·rw [if_neg (by simpa using hx), if_neg hx]
theorem Bnk {s : Int} {t p : List Int32} (h : OkF s t p) : Sy s t p = some (gF s t p) := by
 obtain ⟨hs, ht, hp⟩ := h
 have h : OkF s t p := ⟨hs, ht, hp⟩
 have hx := Ys (Alh t p 16 + half s)
 have key : ∀ n : Int, (n = 512 ∨ n = 1024) → (half s).toInt = n / 2 → gF s t p = Int32.ofInt ((half s + Alh t p 16).toInt.fdiv n) → Mk s t p n = some (gF s t p) := by
  intro n hn hh hg
  have e2 : Bo n (2 : Int) = (half s).toInt := by rw [hh]; obtain rfl | rfl := hn <;> rfl
  rw [Mk, Acr, Bk0 h, Aa, e2, ← El (half s), Apf, Aa, Bz (by rw [Am]; simp; omega), Aa, Aa, El, Bc2 _ n (by omega) (by omega) (by omega), hg, Int32.add_comm]
 rw [Sy, Uh]
 obtain rfl | rfl := hs
 ·rw [if_pos (by rw [Ca]; rfl)]; exact key 512 (.inl rfl) rfl rfl
 ·rw [if_neg (by rw [Ca]; decide)]; exact key 1024 (.inr rfl) rfl rfl
def stp (i : Nat) : Int32 := if i = 0 then 4 else if i < 4 then 2 else 1
def sg (x : Int32) : Int32 := if x.toInt < 0 then -1 else if 0 < x.toInt then 1 else 0
def lrn (t p : List Int32) (w : Int32) : List Int32 := (List.range 16).map fun i => t.getD i 0 + stp i * sg (p.getD i 0) * sg w
theorem Ace (t p : List Int32) (w : Int32) : (lrn t p w).length = 16 := by simp [lrn]
theorem Ay1 (t p : List Int32) (w : Int32) {i : Nat} (h : i < 16) : (lrn t p w).getD i 0 = t.getD i 0 + stp i * sg (p.getD i 0) * sg w := by
 rw [La (by rw [Ace]; exact h)]; simp [lrn]
theorem step_eq (i : Nat) : Aid (i : Int) = some (stp i) := by
 rw [Aid, stp]
 by_cases h : i = 0
 ·rw [if_pos (by rw [Ca]; simp [h]), if_pos h]
 ·rw [if_neg (by rw [Ca]; simp; omega), if_neg h]
  by_cases h2 : i < 4
  ·rw [if_pos (by rw [Af]; simp; omega), if_pos h2]
  ·rw [if_neg (by rw [Af]; simp; omega), if_neg h2]
theorem Bi4 (i : Nat) : Tg (i : Int) = some (stp i) := by
 rw [Tg, stp]
 by_cases h : i = 0
 ·rw [if_pos (by rw [Ca]; simp [h]), if_pos h]
 ·rw [if_neg (by rw [Ca]; simp; omega), if_neg h]
  by_cases h2 : i < 4
  ·rw [if_pos (by rw [Aya]; simp; omega), if_pos h2]
  ·rw [if_neg (by rw [Aya]; simp; omega), if_neg h2]
theorem Ayu (a b : Int32) : Dm a b = decide (a.toInt < b.toInt) := rfl
theorem Bea (a b : Int32) : Hw a b = decide (b.toInt < a.toInt) := rfl
theorem sign_eq (x : Int32) : Mo x = some (sg x) := by
 rw [Mo, sg, Ayu, Bea, show (0 : Int32).toInt = 0 from rfl]
 by_cases h : x.toInt < 0
 ·rw [if_pos (by simpa using h), if_pos h]
 ·rw [if_neg (by simpa using h), if_neg h]
  by_cases h2 : 0 < x.toInt
  ·rw [if_pos (by simpa using h2), if_pos h2]
  ·rw [if_neg (by simpa using h2), if_neg h2]
theorem Bfj : sg 0 = 0 := rfl
theorem toInt_ne {x : Int32} (h : x ≠ 0) : x.toInt ≠ 0 := fun e => h (Int32.toInt_inj.1 (by rw [e]; rfl))
theorem Ayv {x : Int32} (h : x.toInt < 0) : sg x = -1 := by rw [sg, if_pos h]
theorem Azn {x : Int32} (h : x ≠ 0) (h2 : ¬ x.toInt < 0) : sg x = 1 := by
 have := toInt_ne h
 rw [sg, if_neg h2, if_pos (by omega)]
theorem Amx (i : Nat) : stp i = 4 ∨ stp i = 2 ∨ stp i = 1 := by
 unfold stp
 by_cases h : i = 0
 ·rw [if_pos h]; exact .inl rfl
 ·rw [if_neg h]; split; exact .inr (.inl rfl); exact .inr (.inr rfl)
theorem Bhx {x w : Int32} (hx : x ≠ 0) (hw : w ≠ 0) (h : (x.toInt < 0) = (w.toInt < 0)) (i : Nat) : stp i * sg x * sg w = stp i := by
 by_cases h1 : x.toInt < 0
 ·rw [Ayv h1, Ayv (by rw [← h]; exact h1)]
  obtain e | e | e := Amx i <;> rw [e] <;> decide
 ·rw [Azn hx h1, Azn hw (by rw [← h]; exact h1)]
  obtain e | e | e := Amx i <;> rw [e] <;> decide
theorem Be1 {x w : Int32} (hx : x ≠ 0) (hw : w ≠ 0) (h : ¬ (x.toInt < 0) = (w.toInt < 0)) (i : Nat) (a : Int32) : a + stp i * sg x * sg w = a - stp i := by
 have key : stp i * sg x * sg w = - stp i := by
  by_cases h1 : x.toInt < 0
  ·have h2 : ¬ w.toInt < 0 := fun h2 => h (propext ⟨fun _ => h2, fun _ => h1⟩)
   rw [Ayv h1, Azn hw h2]
   obtain e | e | e := Amx i <;> rw [e] <;> decide
  ·have h2 : w.toInt < 0 := Decidable.by_contra fun h2 => h (propext ⟨fun h3 => absurd h3 h1, fun h3 => absurd h3 h2⟩)
   rw [Azn hx h1, Ayv h2]
   obtain e | e | e := Amx i <;> rw [e] <;> decide
 rw [key, Int32.sub_eq_add_neg]
def Apw (i : Nat) : Nat → Bool := fun j => decide (j < i)
theorem Avt {a b : List Int32} {i : Nat} (h : i < a.length) : Pm (sel (Apw i) a b) (i : Int) (a.getD i 0) = some (sel (Apw (i + 1)) a b) := by
 rw [Apu h]
 congr 1
 apply Xu
 intro k _
 rw [Bool.eq_iff_iff]
 simp only [Apw, Bool.or_eq_true, decide_eq_true_eq]; omega
theorem Bh0 {a b : List Int32} {i : Nat} (e : a.getD i 0 = b.getD i 0) : sel (Apw i) a b = sel (Apw (i + 1)) a b := by
 apply List.map_congr_left
 intro k _
 simp only [Apw, decide_eq_true_eq]
 by_cases h1 : k < i
 ·rw [if_pos h1, if_pos (by omega)]
 ·by_cases h2 : k = i
  ·subst h2; rw [if_neg h1, if_pos (by omega), e]
  ·rw [if_neg h1, if_neg (by omega)]
theorem Bc5 {a b : List Int32} {i : Nat} (h : i < a.length) : getI (sel (Apw i) a b) (i : Int) = some (b.getD i 0) := by
 rw [Agx h, if_neg (by simp [Apw])]
theorem Aw4 {s : Int} {t p : List Int32} {w : Int32} (hw : w ≠ 0) (ht : t.length = 16) (hp : p.length = 16) : ∀ (j i q : Nat), i + j = 16 → j < q → Ri w p s q (i : Int) (sel (Apw i) (lrn t p w) t) = some (s, lrn t p w, p, 0)
 | 0, i, q + 1, hi, _ => by
  obtain rfl : i = 16 := by omega
  rw [Ri, Acb, if_neg (by rw [Af]; simp), Ap6 (fun k hk => by rw [Ace] at hk; simpa [Apw] using hk)]; rfl
 | j + 1, i, q + 1, hi, hq => by
  have hl := Ace t p w
  have hg := Ay1 t p w (i := i) (by omega)
  rw [Ri, Acb, if_pos (by rw [Af]; simp; omega), g32 (by omega), Aa, Ag (b := 1) (by omega) (by omega), Bc5 (by omega), step_eq]
  simp only [Aa]
  rw [Aig, Awd, Bfu, Ayu, Ayu, show (0 : Int32).toInt = 0 from rfl]
  have ih := Aw4 (s := s) hw ht hp j (i + 1) q (by omega) (by omega)
  by_cases hx : p.getD i 0 = 0
  ·rw [if_pos (by rw [hx]; rfl), Bh0 (by rw [hg, hx, Bfj, Int32.mul_zero, Int32.zero_mul, Int32.add_zero])]
   exact ih
  ·rw [if_neg (by simpa using hx)]
   by_cases hs : ((p.getD i 0).toInt < 0) = (w.toInt < 0)
   ·rw [if_pos (by rw [beq_iff_eq]; simp only [hs]), show t.getD i 0 + stp i = (lrn t p w).getD i 0 by rw [hg, Bhx hx hw hs], Avt (by omega), Aa]
    exact ih
   ·rw [if_neg (by rw [beq_iff_eq, decide_eq_decide]; exact fun h => hs (propext h)), show t.getD i 0 - stp i = (lrn t p w).getD i 0 by rw [hg, Be1 hx hw hs], Avt (by omega), Aa]
    exact ih
theorem Bkr {t : List Int32} (p : List Int32) (ht : t.length = 16) : lrn t p 0 = t := by
 apply List.ext_getElem (by rw [Ace, ht])
 intro i h1 h2
 have := Ay1 t p 0 (i := i) (by omega)
 rw [La h1, La h2] at this
 rw [this, Bfj, Int32.mul_zero, Int32.add_zero]
theorem Blv {s : Int} {t p : List Int32} (h : OkF s t p) (w : Int32) : Akm s t p w = some (s, lrn t p w, p, 0) := by
 rw [Akm, Ahj, Aqw h, Aa, if_neg (by rw [Am]; simp), Bfu]
 by_cases hw : w = 0
 ·rw [if_pos (by simpa using hw), hw, Bkr p h.2.1]
 ·have h1 := Aw4 (s := s) hw h.2.1 h.2.2 16 0 Ba (by omega) (by have := Aq; omega)
  rw [Ap2 (by rw [Ace, h.2.1]) (fun k _ => by simp [Apw])] at h1
  rw [if_neg (by simpa using hw)]
  exact h1
theorem Apj {s : Int} {t p : List Int32} {w : Int32} (ht : t.length = 16) (hp : p.length = 16) : ∀ (j i q : Nat), i + j = 16 → j < q → Ei w s p q (i : Int) (sel (Apw i) (lrn t p w) t) = some (s, lrn t p w, p)
 | 0, i, q + 1, hi, _ => by
  obtain rfl : i = 16 := by omega
  rw [Ei, Iy, if_neg (by rw [Af]; simp), Ap6 (fun k hk => by rw [Ace] at hk; simpa [Apw] using hk)]; rfl
 | j + 1, i, q + 1, hi, hq => by
  have hl := Ace t p w
  have hg := Ay1 t p w (i := i) (by omega)
  rw [Ei, Iy, if_pos (by rw [Af]; simp; omega), g32 (l := p) (by omega), Ag (b := 1) (by omega) (by omega), Bc5 (by omega), Bi4, sign_eq w, Aa, Aa, Aa, Aa, Aa, sign_eq, Aa, Aa, Aa, Aig, Ata, Ata, ← hg, Avt (by omega), Aa]
  exact Apj ht hp j (i + 1) q (by omega) (by omega)
theorem Bdp {s : Int} {t p : List Int32} (h : OkF s t p) (w : Int32) : To s t p w = some (s, lrn t p w, p) := by
 have h1 := Apj (s := s) (w := w) h.2.1 h.2.2 16 0 Ba (by omega) (by have := Aq; omega)
 rw [Ap2 (by rw [Ace, h.2.1]) (fun k _ => by simp [Apw])] at h1
 exact h1
theorem Bmo {p : List Int32} (h : p.length = 16) : ∃ a0 a1 a2 a3 a4 a5 a6 a7 a8 a9 b0 b1 b2 b3 b4 b5, p = [a0, a1, a2, a3, a4, a5, a6, a7, a8, a9, b0, b1, b2, b3, b4, b5] := by
 match p, h with
 | [a0, a1, a2, a3, a4, a5, a6, a7, a8, a9, b0, b1, b2, b3, b4, b5], _ => exact ⟨a0, a1, a2, a3, a4, a5, a6, a7, a8, a9, b0, b1, b2, b3, b4, b5, rfl⟩
theorem Bmq {s : Int} {t p : List Int32} (h : OkF s t p) (x : Int32) : Amv s t p x = some (s, t, x :: p.take 15, 0) := by
 obtain ⟨hs, ht, hp⟩ := h
 rw [Amv, Aej, Aqw ⟨hs, ht, hp⟩, Aa, if_neg (by rw [Am]; simp), show vwI (16 : Int) 1 16 = some () from rfl, Aa, show vwI (16 : Int) 0 16 = some () from rfl, Aa, Ajd, Ao6]
 obtain ⟨a0, a1, a2, a3, a4, a5, a6, a7, a8, a9, b0, b1, b2, b3, b4, b5, rfl⟩ := Bmo hp
 rfl
def shf (p : List Int32) (i : Nat) : List Int32 := (List.range 16).map fun k => if k ≤ i then p.getD k 0 else p.getD (k - 1) 0
theorem Wx (p : List Int32) (i : Nat) : (shf p i).length = 16 := by simp [shf]
theorem Bou (p : List Int32) (i k : Nat) (h : k < 16) : (shf p i).getD k 0 = if k ≤ i then p.getD k 0 else p.getD (k - 1) 0 := by
 rw [La (by rw [Wx]; exact h)]; simp [shf]
theorem Bo4 (p : List Int32) (i : Nat) (h : i + 1 < 16) : Pm (shf p (i + 1)) ((i + 1 : Nat) : Int) (p.getD i 0) = some (shf p i) := by
 rw [Vp _ (by rw [Wx]; exact h)]
 congr 1
 apply List.ext_getElem (by simp [Wx])
 intro k h1 h2
 rw [Wx] at h2
 rw [List.getElem_set]
 simp only [shf, List.getElem_map, List.getElem_range]
 by_cases hk : i + 1 = k
 ·subst hk; rw [if_pos rfl, if_neg (by omega)]; rfl
 ·rw [if_neg hk]
  by_cases h3 : k ≤ i
  ·rw [if_pos (by omega), if_pos h3]
  ·rw [if_neg (by omega), if_neg h3]
theorem Ark (s : Int) (t p : List Int32) (x : Int32) (hp : p.length = 16) : ∀ (i q : Nat), i < 16 → i < q → Ex x s t q (i : Int) (shf p i) = some (s, t, x :: p.take 15)
 | 0, q + 1, _, _ => by
  have hg : getI (shf p 0) (0 : Int) = some ((shf p 0).getD 0 0) := g32 (l := shf p 0) (k := 0) (by rw [Wx]; omega)
  have hset : Pm (shf p 0) (0 : Int) x = some ((shf p 0).set 0 x) := Vp (l := shf p 0) (n := 0) x (by rw [Wx]; omega)
  rw [Ex, Jw, if_neg (by rw [Bc]; simp), Qi, Aag, hg, Aa, hset, Aa]
  congr 3
  apply List.ext_getElem (by simp [Wx, hp])
  intro k h1 h2
  rw [List.length_set, Wx] at h1
  rw [List.getElem_set]
  cases k with
  | zero => rw [if_pos rfl]; rfl
  | succ k =>
   rw [if_neg (by omega)]
   simp only [shf, List.getElem_map, List.getElem_range, List.getElem_cons_succ, List.getElem_take]
   rw [if_neg (by omega), Nat.add_sub_cancel, La (by omega)]
 | i + 1, q + 1, hi, hq => by
  have hg := g32 (l := shf p (i + 1)) (k := i) (by rw [Wx]; omega)
  rw [Bou p (i + 1) i (by omega), if_pos (by omega)] at hg
  have e1 : Al ((i + 1 : Nat) : Int) (1 : Int) = (i : Int) := by rw [Bl (by omega) (by omega)]; omega
  have hg2 := g32 (l := shf p (i + 1)) (k := i + 1) (by rw [Wx]; omega)
  rw [Ex, Jw, if_pos (by rw [Bc]; simp), e1, hg, Aa, Aa, hg2, Aa, Bo4 p i hi, Aa]
  exact Ark s t p x hp i q (by omega) (by omega)
theorem Bhr {s : Int} {t p : List Int32} (hp : p.length = 16) (x : Int32) : Vy s t p x = some (s, t, x :: p.take 15) := by
 have h := Ark s t p x hp 15 Ba (by omega) (by have := Aq; omega)
 have e : shf p 15 = p := by
  apply List.ext_getElem (by rw [Wx, hp])
  intro k h1 h2
  rw [Wx] at h1
  simp only [shf, List.getElem_map, List.getElem_range]
  rw [if_pos (by omega), La h2]
 rw [e] at h
 exact h
theorem Bkd {s : Int} {t p : List Int32} (h : OkF s t p) (w x : Int32) : OkF s (lrn t p w) (x :: p.take 15) := ⟨h.1, Ace _ _ _, by simp [h.2.2]⟩
theorem Bor {s : Int} {t p : List Int32} (h : OkF s t p) (y : Int32) : Amc s t p y = some (y + gF s t p, s, lrn t p y, (y + gF s t p) :: p.take 15, 0) := by
 rw [Amc, Blw h, Aa]
 simp only
 rw [if_neg (by rw [Am]; simp), Aig, Aoz, Blv h, Aa]
 simp only
 rw [Bmq (s := s) (t := lrn t p y) (p := p) ⟨h.1, Ace _ _ _, h.2.2⟩, Aa]; rfl
theorem Bhq {s : Int} {t p : List Int32} (h : OkF s t p) (y : Int32) : Mg s t p y = some (y + gF s t p, s, lrn t p y, (y + gF s t p) :: p.take 15) := by
 rw [Mg, Bnk h, Aa, Apf, Aa, Bdp h, Aa]
 simp only
 rw [Bhr h.2.2, Aa]
def sB (bits : Int) : Int := if bits = 16 then 9 else 10
def shB (bits : Int) : Int := if bits = 8 then 4 else 5
def Dv (bits : Int) : Prop := bits = 8 ∨ bits = 16 ∨ bits = 24
def gs (sh : Int) (last : Int32) : Int32 := Ad (Azt (Al (Dx (Ad last : Int) sh.toNat) (Ad last)) sh.toNat)
theorem Br9 (bits : Int) : sB bits = 9 ∨ sB bits = 10 := by unfold sB; split <;> simp
theorem Bnl (bits : Int) : 0 ≤ shB bits := by unfold shB; split <;> omega
theorem Bss {bits : Int} (h : Dv bits) (t : List Int32) : Ao9 bits t = some (sB bits, t, List.replicate 16 0, 0) := by
 obtain rfl | rfl | rfl := h <;> rfl
theorem Bqt {bits : Int} (h : Dv bits) : Alz bits = some (shB bits, 0) := by
 obtain rfl | rfl | rfl := h <;> rfl
theorem Bq0 {sh : Int} (h : 0 ≤ sh) (last : Int32) : Agz sh last = some (gs sh last) := by
 rw [Agz, Bz (by rw [Dl]; simpa using h), Aa, Aa]; rfl
theorem Bp1 {bits : Int} (h : Dv bits) (last : Int32) : Ac6 bits last = some (gs (shB bits) last, 0) := by
 rw [Ac6, Bqt h, Aa]
 simp only
 rw [if_neg (by rw [Am]; simp), Bq0 (Bnl bits), Aa]
theorem Beq {bits : Int} (h : Dv bits) (last : Int32) (t p : List Int32) : Acp bits last (sB bits) t p = some 0 := by
 rw [Acp, Bss h, Aa]
 simp only
 rw [if_neg (by rw [Am, Am]; simp)]
theorem Bg6 {bits : Int} (h : Dv bits) {t p : List Int32} (hF : OkF (sB bits) t p) (last y : Int32) :
  Je bits last (sB bits) t p y = some (y + gF (sB bits) t p + gs (shB bits) last, bits, y + gF (sB bits) t p + gs (shB bits) last, sB bits, lrn t p y, (y + gF (sB bits) t p) :: p.take 15, 0) := by
 rw [Je, Beq h, Aa, if_neg (by rw [Am]; simp), Bp1 h, Aa]
 simp only
 rw [Bor hF, Aa]
 simp only
 rw [Aig]
theorem Aq8 (sh : Int) (hs : sh = 4 ∨ sh = 5) (last : Int32) : Jl sh last = some (gs sh last) := by
 have hl := Ys last
 have key : ∀ n : Int, n = 16 ∨ n = 32 → gs sh last = Int32.ofInt (((n - 1) * last.toInt).fdiv n) → Jt last n = some (gs sh last) := by
  intro n hn hg
  have e : Bi (Al n (1 : Int)) (Ad last : Int) = (n - 1) * last.toInt := by
   obtain rfl | rfl := hn <;> (rw [El, Bl (by omega) (by omega), Hc (by omega) (by omega)])
  rw [Jt, Zj, Bz (by rw [Am]; simp; omega), Aa, Aa, e, Bc2 _ n (by omega) (by obtain rfl | rfl := hn <;> omega) (by obtain rfl | rfl := hn <;> omega), hg]
 rw [Jl, Qp]
 obtain rfl | rfl := hs
 ·rw [if_neg (by rw [Ca]; decide)]
  refine key 16 (.inl rfl) ?_
  have e : Dx (Ad last : Int) (4 : Int).toNat = last.toInt * 16 := by
   rw [El]; show wrap64 (last.toInt * 2 ^ 4) = _; rw [Bw] <;> omega
  rw [gs, e, El, Bl (by omega) (by omega), Aex]
  show Int32.ofInt ((last.toInt * 16 - last.toInt).fdiv 16) = _
  congr 2; omega
 ·rw [if_pos (by rw [Ca]; rfl)]
  refine key 32 (.inr rfl) ?_
  have e : Dx (Ad last : Int) (5 : Int).toNat = last.toInt * 32 := by
   rw [El]; show wrap64 (last.toInt * 2 ^ 5) = _; rw [Bw] <;> omega
  rw [gs, e, El, Bl (by omega) (by omega), Aex]
  show Int32.ofInt ((last.toInt * 32 - last.toInt).fdiv 32) = _
  congr 2; omega
theorem Bi0 {bits : Int} (h : Dv bits) {t p : List Int32} (hF : OkF (sB bits) t p) (last y : Int32) :
  Gf bits last (sB bits) t p y = some (y + gF (sB bits) t p + gs (shB bits) last, bits, y + gF (sB bits) t p + gs (shB bits) last, sB bits, lrn t p y, (y + gF (sB bits) t p) :: p.take 15) := by
 have hb : Ns bits last (sB bits) t p = some (Ad (gs (shB bits) last) : Int) := by
  rw [Ns]
  obtain rfl | rfl | rfl := h
  ·rw [if_pos (by rw [Ca]; rfl), Aq8 4 (.inl rfl), Aa]; rfl
  ·rw [if_neg (by rw [Ca]; decide), Aq8 5 (.inr rfl), Aa]; rfl
  ·rw [if_neg (by rw [Ca]; decide), Aq8 5 (.inr rfl), Aa]; rfl
 rw [Gf, Bhq hF, Aa]
 simp only
 rw [hb, Aa, Apf, Aa]
theorem Brg {bits : Int} (h : Dv bits) (t : List Int32) : Ab5 bits t = some (bits, 0, sB bits, t, List.replicate 16 0, 0) := by
 obtain rfl | rfl | rfl := h <;> rfl
def Akt (n : UInt32) : Int32 := if n.toNat % 2 = 0 then Int32.ofInt ((n.toNat / 2 : Nat) : Int) else Int32.ofInt (-((n.toNat / 2 : Nat) : Int) - 1)
theorem Bc4 (a b : Int32) : (Wg a b).toBitVec = a.toBitVec ^^^ b.toBitVec := by
 show (Int32.ofInt ((BitVec.ofInt 32 a.toBitVec.toInt ^^^ BitVec.ofInt 32 b.toBitVec.toInt).toNat : Int)).toBitVec = _
 rw [BitVec.ofInt_toInt, BitVec.ofInt_toInt, Int32.toBitVec_ofInt, BitVec.ofInt_natCast, BitVec.ofNat_toNat, BitVec.setWidth_eq]
theorem Brz (m : Nat) (h : m < 2147483648) : Wg (Int32.ofInt (m : Int)) (Int32.ofInt (-1)) = Int32.ofInt (-(m : Int) - 1) := by
 apply Int32.toBitVec_inj.1
 have e1 : (Int32.ofInt (-1)).toBitVec = BitVec.allOnes 32 := by decide
 rw [Bc4, e1, BitVec.xor_allOnes, Int32.toBitVec_ofInt, Int32.toBitVec_ofInt]
 apply BitVec.eq_of_toNat_eq
 rw [BitVec.toNat_not, BitVec.toNat_ofInt, BitVec.toNat_ofInt]
 omega
theorem Bkz (n : UInt32) : Vd n = some (Akt n) := by
 have hn := n.toNat_lt
 have e1 : (Ad (Cq n (GI.toZ (1 : UInt64)).toNat) : Int32) = Int32.ofInt ((n.toNat / 2 : Nat) : Int) := by
  show Int32.ofInt ((Cq n 1).toNat : Int) = _
  rw [Ain]
 have e2 : (Ad (Hr n (1 : UInt32)) : Int32) = Int32.ofInt ((n.toNat % 2 : Nat) : Int) := by
  show Int32.ofInt ((Hr n (1 : UInt32)).toNat : Int) = _
  rw [Ba0, UInt32.toNat_and]
  show Int32.ofInt ((n.toNat &&& 1 : Nat) : Int) = _
  rw [Nat.and_one_is_mod]
 rw [Vd, e1, e2, Akt]
 congr 1
 by_cases h : n.toNat % 2 = 0
 ·have e3 : Ap4 (Int32.ofInt ((n.toNat % 2 : Nat) : Int)) = Int32.ofInt 0 := by rw [h]; decide
  rw [if_pos h, e3]
  apply Int32.toBitVec_inj.1
  rw [Bc4, show (Int32.ofInt 0).toBitVec = 0#32 from rfl, BitVec.xor_zero]
 ·have e3 : Ap4 (Int32.ofInt ((n.toNat % 2 : Nat) : Int)) = Int32.ofInt (-1) := by rw [show n.toNat % 2 = 1 by omega]; decide
  rw [if_neg h, e3, Brz _ (by omega)]
theorem Bov (n : UInt32) : Iq n = some (Akt n) := by
 have hn := n.toNat_lt
 have e1 : geq (Yp n (2 : UInt32)) (0 : UInt32) = decide (n.toNat % 2 = 0) := by
  rw [Azy, Bag, Bool.eq_iff_iff]
  simp only [beq_iff_eq, ← UInt32.toNat_inj, UInt32.toNat_mod, decide_eq_true_eq]; rfl
 rw [Iq, e1, Akt]
 by_cases h : n.toNat % 2 = 0
 ·rw [if_pos (by simpa using h), if_pos h, Bc1]; rfl
 ·have e2 : (Ad n : Int) = (n.toNat : Int) := Bd6 n
  rw [if_neg (by simpa using h), if_neg h, e2, Ag (by omega) (by omega), Beu, Bw (by omega) (by omega), Adr, Int.tdiv_eq_ediv, Aex]
  congr 2
  rw [if_pos (.inr (by omega)), Bw (by omega) (by omega)]; omega
end Go.Pl
set_option linter.unusedVariables false
set_option linter.unusedSimpArgs false
namespace Go.Pl
open Go Go.Lv
theorem Bal {c : Prop} [Decidable c] (h : c) : Pn (decide c) = some () := by rw [decide_eq_true h]; rfl
def unV (f : Nat → Int32) (ch : Nat) : Nat → Int32
 | 0 => if 1 < ch then f (ch - 1) + Bo (f (ch - 2)) (2 : Int32) else f (ch - 1)
 | j + 1 => unV f ch j - f (ch - 2 - j)
def unm (ch : Nat) (m : List Int32) : List Int32 := (List.range m.length).map fun k => unV (fun i => m.getD (k - k % ch + i) 0) ch (ch - 1 - k % ch)
theorem Am9 (ch : Nat) (m : List Int32) : (unm ch m).length = m.length := by simp [unm]
theorem As7 {ch : Nat} {m : List Int32} {a i : Nat} (ha : a % ch = 0) (hi : i < ch) (h : a + i < m.length) : (unm ch m).getD (a + i) 0 = unV (fun i => m.getD (a + i) 0) ch (ch - 1 - i) := by
 have hb : (a + i) % ch = i := by rw [Nat.add_mod, ha, Nat.zero_add, Nat.mod_mod, Nat.mod_eq_of_lt hi]
 rw [La (by rw [Am9]; exact h)]
 simp only [unm, List.getElem_map, List.getElem_range, hb]
 rw [show a + i - i = a by omega]
section
variable (ch : Nat) (m : List Int32)
theorem Blg (h1 : 1 ≤ ch) (h6 : ch ≤ 6) (hm : m.length % ch = 0) (hl2 : m.length ≤ 4000) : Am0 (ch : Int) m = some 0 := by
 rw [Am0, if_neg (by simp [Af, Bc]; omega), if_neg (by rw [Bc, Ac]; simp; omega), Bz (by rw [Am]; simp; omega), Aa, if_neg]
 rw [Am, Hz, Ac, ← Int.ofNat_tmod, hm]; simp
theorem Aun (bk : Int → List Int32 → Option (List Int32 × Int)) (at' : Nat) (h1 : 1 ≤ ch) (h6 : ch ≤ 6) (hm : at' % ch = 0) (hl : at' + ch ≤ m.length) (hl2 : m.length ≤ 4000) : ∀ (i q : Nat), i ≤ ch - 1 → i < q →
  Uv bk (ch : Int) (at' : Int) q ((i : Int) - 1) (sel (fun k => decide (k < at' ∨ (at' + i ≤ k ∧ k < at' + ch))) (unm ch m) m) = bk ((at' + ch : Nat) : Int) (sel (fun k => decide (k < at' + ch)) (unm ch m) m)
 | 0, q + 1, hi, _ => by
  have e4 : Ae (at' : Int) (ch : Int) = ((at' + ch : Nat) : Int) := by rw [Ag (by omega) (by omega)]; omega
  rw [Uv, Aes, if_neg (by rw [Dl]; simp), Aj8, Aqb, e4]
  congr 1
  apply Xu
  intro k _
  rw [Bool.eq_iff_iff]; simp; omega
 | i + 1, q + 1, hi, hq => by
  have hlen := Am9 ch m
  have e2 : Ae (at' : Int) (ch : Int) - (at' : Int) = (ch : Int) := by rw [Ag (by omega) (by omega)]; omega
  have e3 : Ae (i : Int) 1 = ((i + 1 : Nat) : Int) := by rw [Ag (by omega) (by omega)]; omega
  have hv : ((unm ch m).getD (at' + (i + 1)) 0 - m.getD (at' + i) 0) = (unm ch m).getD (at' + i) 0 := by
   rw [As7 hm (by omega) (by omega), As7 hm (by omega) (by omega), show ch - 1 - i = (ch - 1 - (i + 1)) + 1 by omega, unV, show ch - 2 - (ch - 1 - (i + 1)) = i by omega]
  rw [Uv, Aes, show ((i + 1 : Nat) : Int) - 1 = (i : Int) by omega, if_pos (by rw [Dl]; simp), e2, e3, Bal (by omega), Aa, Bal (by omega), Aa,
   show (at' : Int) + ((i + 1 : Nat) : Int) = ((at' + (i + 1) : Nat) : Int) by omega, show (at' : Int) + (i : Int) = ((at' + i : Nat) : Int) by omega,
   Agx (by omega), Aa, Agx (by omega), Aa, Aa, if_pos (by simp; omega), if_neg (by simp; omega), Awd, hv, Apu (by omega), Aa, Bl (by omega) (by omega)]
  have ih := Aun bk at' h1 h6 hm hl hl2 i q (by omega) (by omega)
  rw [← ih]
  congr 1
  apply Xu
  intro k _
  rw [Bool.eq_iff_iff]; simp; omega
theorem Bbp {at' ch n : Nat} (ha : at' % ch = 0) (hm : n % ch = 0) (h : at' < n) : at' + ch ≤ n := by
 have d1 := Nat.div_add_mod at' ch
 have d2 := Nat.div_add_mod n ch
 rw [ha, Nat.add_zero] at d1
 rw [hm, Nat.add_zero] at d2
 have hlt : at' / ch < n / ch := by
  rcases Nat.lt_or_ge (at' / ch) (n / ch) with h' | h'
  ·exact h'
  ·have := Nat.mul_le_mul_left ch h'; omega
 have := Nat.mul_le_mul_left ch (show at' / ch + 1 ≤ n / ch from hlt)
 rw [Nat.mul_add] at this; omega
theorem Ax7 (h1 : 1 ≤ ch) (h6 : ch ≤ 6) (hm : m.length % ch = 0) (hl2 : m.length ≤ 4000) : ∀ (j at' q : Nat), at' % ch = 0 → at' ≤ m.length → m.length - at' ≤ j → j < q →
  Pw (ch : Int) q (at' : Int) (sel (fun k => decide (k < at')) (unm ch m) m) = some (unm ch m, 0)
 | j, at', q + 1, ha, hle, hj, hq => by
  have hlen := Am9 ch m
  have hl : Ac (sel (fun k => decide (k < at')) (unm ch m) m) = (m.length : Int) := by rw [Ac, Ajn, hlen]
  rw [Pw, Akj, hl]
  by_cases h : at' < m.length
  ·have hb := Bbp ha hm h
   obtain ⟨j, rfl⟩ : ∃ k, j = k + 1 := ⟨j - 1, by omega⟩
   have e1 : Al (Ae (at' : Int) (ch : Int) - (at' : Int)) 1 = ((ch - 1 : Nat) : Int) := by rw [Ag (by omega) (by omega), Bl (by omega) (by omega)]; omega
   have e2 : Ae (at' : Int) (ch : Int) - (at' : Int) = (ch : Int) := by rw [Ag (by omega) (by omega)]; omega
   have e4 : Ae (at' : Int) (ch : Int) = ((at' + ch : Nat) : Int) := by rw [Ag (by omega) (by omega)]; omega
   have hi := Aun ch m (Pw (ch : Int) q) at' h1 h6 ha hb hl2 (ch - 1) Ba (by omega) (by have := Aq; omega)
   have hrest := Ax7 h1 h6 hm hl2 j (at' + ch) q (by rw [Nat.add_mod_right, ha]) hb (by omega) (by omega)
   have hstart : Aeq (Pw (ch : Int) q) (ch : Int) (at' : Int) (sel (fun k => decide (k < at' ∨ (at' + (ch - 1) ≤ k ∧ k < at' + ch))) (unm ch m) m) = some (unm ch m, 0) := by
    have e6 : Al ((ch - 1 : Nat) : Int) 1 = ((ch - 1 : Nat) : Int) - 1 := Bl (by omega) (by omega)
    rw [Aeq, Ajc, Ajv, e1, e6]
    exact Eq.trans hi hrest
   rw [if_pos (by rw [Af]; simp; omega), show vwI (m.length : Int) (at' : Int) (Ae (at' : Int) (ch : Int)) = some () by rw [e4, vwI, Bal]; omega, Aa, e1, e2]
   have hlast := As7 (m := m) ha (show ch - 1 < ch by omega) (by omega)
   rw [show ch - 1 - (ch - 1) = 0 by omega, unV] at hlast
   by_cases hc : 1 < ch
   ·have e5 : Al ((ch - 1 : Nat) : Int) 1 = ((ch - 2 : Nat) : Int) := by rw [Bl (by omega) (by omega)]; omega
    rw [if_pos hc] at hlast
    rw [if_pos (by rw [Bc]; simp; omega), Bal (by omega), Aa, e5, Bal (by omega), Aa, show (at' : Int) + ((ch - 1 : Nat) : Int) = ((at' + (ch - 1) : Nat) : Int) by omega, show (at' : Int) + ((ch - 2 : Nat) : Int) = ((at' + (ch - 2) : Nat) : Int) by omega,
     Agx (by omega), Aa, Agx (by omega), Aa, Aa, if_neg (by simp), if_neg (by simp), Aig, ← hlast, Apu (by omega), Aa]
    rw [← hstart]
    congr 1
    apply Xu
    intro k _
    rw [Bool.eq_iff_iff]; simp; omega
   ·have hc1 : ch = 1 := by omega
    rw [if_neg (by rw [Bc]; simp; omega), ← hstart]
    congr 1
    rw [if_neg hc] at hlast
    apply List.map_congr_left
    intro k hk
    by_cases hk2 : k = at'
    ·subst hk2
     rw [if_neg (by simp), if_pos (by simp; omega)]
     rw [show k + (ch - 1) = k by omega] at hlast
     exact hlast.symm
    ·by_cases hk3 : k < at'
     ·rw [if_pos (by simp; omega), if_pos (by simp; omega)]
     ·rw [if_neg (by simp; omega), if_neg (by simp; omega)]
  ·rw [if_neg (by rw [Af]; simp; omega), Ap6 (fun k hk => by simp; omega)]
   rfl
theorem Bn6 (h1 : 1 ≤ ch) (h6 : ch ≤ 6) (hm : m.length % ch = 0) (hl2 : m.length ≤ 4000) : Ape (ch : Int) m = some (unm ch m, 0) := by
 have hlen := Am9 ch m
 have h := Ax7 ch m h1 h6 hm hl2 m.length 0 Ba (by simp) (by omega) (by omega) (by have := Aq; omega)
 rw [Ape, Amo, Blg ch m h1 h6 hm hl2, Aa, if_neg (by rw [Am]; simp), Fu, Dp (by simp; omega), Aa, Aa, List.nil_append, Ajj]
 rw [Ap2 hlen.symm (fun k _ => by simp)] at h
 exact h
end
def Aqm (f : Nat → Int32) (ch : Nat) : List Int32 := (List.range ch).map fun i => unV f ch (ch - 1 - i)
theorem Ais (f : Nat → Int32) (ch : Nat) : (Aqm f ch).length = ch := by simp [Aqm]
theorem Apc (f : Nat → Int32) {ch i : Nat} (h : i < ch) : (Aqm f ch).getD i 0 = unV f ch (ch - 1 - i) := by
 rw [La (by rw [Ais]; exact h)]; simp [Aqm]
theorem Bmc (a b : Int32) : Bq (Al (Ad a : Int) (Ad b : Int)) = some (a - b) := by
 have := Ys a
 have := Ys b
 rw [El, El, Bl (by omega) (by omega), As6, Int32.ofInt_sub, Int32.ofInt_toInt, Int32.ofInt_toInt]
theorem Bi6 (a b : Int32) : Bq (Ae (Ad a : Int) (Bo (Ad b : Int) (2 : Int))) = some (a + Bo b (2 : Int32)) := by
 have := Ys a
 have hb := Ys b
 have hd : -2147483648 ≤ b.toInt.tdiv 2 ∧ b.toInt.tdiv 2 ≤ 2147483648 := by
  rw [Int.tdiv_eq_ediv, show Int.sign 2 = 1 from rfl]
  by_cases h : 0 ≤ b.toInt ∨ 2 ∣ b.toInt
  ·rw [if_pos h]; omega
  ·rw [if_neg h]; omega
 have e : Bo b (2 : Int32) = Int32.ofInt (b.toInt.tdiv 2) := rfl
 rw [El, El, Adr, Bw (by omega) (by omega), Ag (by omega) (by omega), As6, Int32.ofInt_add, Int32.ofInt_toInt, e]
theorem Ap3 (seg z : List Int32) (ch : Nat) (h6 : ch ≤ 6) (hs : seg.length = ch) (hz : z.length = ch) : ∀ (i q : Nat), i + 1 ≤ ch → i < q →
  Eo seg q ((i : Int) - 1) (sel (fun k => decide (i ≤ k)) (Aqm (fun i => seg.getD i 0) ch) z) = some (Aqm (fun i => seg.getD i 0) ch)
 | 0, q + 1, hi, _ => by
  rw [Eo, Iw, if_neg (by rw [Dl]; simp), Ap6 (fun k hk => by simp)]; rfl
 | i + 1, q + 1, hi, hq => by
  have hlen := Ais (fun i => seg.getD i 0) ch
  have e3 : Ae (i : Int) 1 = ((i + 1 : Nat) : Int) := by rw [Ag (by omega) (by omega)]; omega
  have hv : (Aqm (fun i => seg.getD i 0) ch).getD (i + 1) 0 - seg.getD i 0 = (Aqm (fun i => seg.getD i 0) ch).getD i 0 := by
   rw [Apc _ (by omega), Apc _ (by omega), show ch - 1 - i = (ch - 1 - (i + 1)) + 1 by omega, unV, show ch - 2 - (ch - 1 - (i + 1)) = i by omega]
  rw [Eo, Iw, show ((i + 1 : Nat) : Int) - 1 = (i : Int) by omega, if_pos (by rw [Dl]; simp), e3, Agx (by omega), Aa, g32 (by omega), Aa, Aa, if_pos (by simp), Bmc, Aa, Agx (by omega), Aa, hv, Apu (by omega), Aa, Bl (by omega) (by omega)]
  have ih := Ap3 seg z ch h6 hs hz i q (by omega) (by omega)
  rw [← ih]
  congr 1
  apply Xu
  intro k _
  rw [Bool.eq_iff_iff]; simp; omega
theorem Bai {l : List Int32} {i : Nat} (v : Int32) (h : i < l.length) : (l.set i v).getD i 0 = v := by
 rw [La (by rw [List.length_set]; exact h)]; simp
theorem Be4 (seg : List Int32) (ch : Nat) (h1 : 1 ≤ ch) (h6 : ch ≤ 6) (hs : seg.length = ch) : Lz seg = some (Aqm (fun i => seg.getD i 0) ch) := by
 have hlen := Ais (fun i => seg.getD i 0) ch
 have hzl : (List.replicate ch (0 : Int32)).length = ch := by simp
 have e1 : Al (Ac seg) 1 = ((ch - 1 : Nat) : Int) := by rw [Ac, hs, Bl (by omega) (by omega)]; omega
 have e2 : Al (Ac seg) 2 = ((ch - 1 : Nat) : Int) - 1 := by rw [Ac, hs, Bl (by omega) (by omega)]; omega
 have hlast := Apc (fun i => seg.getD i 0) (show ch - 1 < ch by omega)
 rw [show ch - 1 - (ch - 1) = 0 by omega, unV] at hlast
 have hend : ∀ z : List Int32, z.length = ch → z.getD (ch - 1) 0 = (Aqm (fun i => seg.getD i 0) ch).getD (ch - 1) 0 → Ix seg z = some (Aqm (fun i => seg.getD i 0) ch) := by
  intro z hz hzl
  have h := Ap3 seg z ch h6 hs hz (ch - 1) Ba (by omega) (by have := Aq; omega)
  have e : sel (fun k => decide (ch - 1 ≤ k)) (Aqm (fun i => seg.getD i 0) ch) z = z := by
   apply List.ext_getElem (by rw [Ajn, hlen, hz])
   intro k k1 k2
   rw [Xx]
   by_cases hk : ch - 1 ≤ k
   ·obtain rfl : k = ch - 1 := by omega
    rw [if_pos (by simp), ← hzl, La k2]
   ·rw [if_neg (by simpa using hk), La k2]
  rw [e] at h
  rw [Ix, Oq, e2]
  exact h
 rw [Lz, Ot, Ac, hs, Avf (by omega) (by omega), Aa, Bz (by rw [Ca]; simp), Aa]
 rw [Ac, hs] at e1
 rw [Ac, hs] at e2
 have hz1 : (List.replicate (Int.toNat (ch : Int)) (0 : Int32)).length = ch := by simp
 have hs1 := g32 (l := seg) (k := ch - 1) (by omega)
 rw [e1, hs1, Aa, g32 (by omega), Aa, Vp _ (by omega), Aa]
 by_cases hc : 1 < ch
 ·rw [if_pos hc] at hlast
  have e3 : ((ch - 1 : Nat) : Int) - 1 = ((ch - 2 : Nat) : Int) := by omega
  have hs2 := g32 (l := seg) (k := ch - 2) (by omega)
  rw [if_pos (by rw [Bc]; simp; omega), Aa, e2, e3, hs2, Aa, Bi6, Aa, g32 (by rw [List.length_set]; omega), Aa, Vp _ (by rw [List.length_set]; omega), Aa]
  refine hend _ (by simp) ?_
  rw [hlast, Bai _ (by rw [List.length_set]; omega)]
 ·rw [if_neg hc] at hlast
  rw [if_neg (by rw [Bc]; simp; omega)]
  refine hend _ (by simp) ?_
  rw [hlast, Bai _ (by omega)]
theorem Boj (ch : Nat) (m : List Int32) (h1 : 1 ≤ ch) (h6 : ch ≤ 6) (hm : m.length % ch = 0) (hl2 : m.length ≤ 4000) : Kj (ch : Int) m = some 0 := by
 rw [Kj, if_neg (by simp [Af, Bc]; omega), if_neg (by rw [Bc, Ac]; simp; omega), Bz (by rw [Am]; simp; omega), Aa, if_neg]
 rw [Bc, Hz, Ac, ← Int.ofNat_tmod, hm]; simp
theorem Arm (ch : Nat) (m : List Int32) (h1 : 1 ≤ ch) (h6 : ch ≤ 6) (hm : m.length % ch = 0) (hl2 : m.length ≤ 4000) : ∀ (j at' q : Nat), at' % ch = 0 → at' ≤ m.length → m.length - at' ≤ j → j < q →
  Ij (ch : Int) m q (at' : Int) ((unm ch m).take at') = some (unm ch m, 0)
 | j, at', q + 1, ha, hle, hj, hq => by
  have hlen := Am9 ch m
  rw [Ij, Ub]
  by_cases h : at' < m.length
  ·have hb := Bbp ha hm h
   have e4 : Ae (at' : Int) (ch : Int) = ((at' + ch : Nat) : Int) := by rw [Ag (by omega) (by omega)]; omega
   have hrest := Arm ch m h1 h6 hm hl2 (j - 1) (at' + ch) q (by rw [Nat.add_mod_right, ha]) hb (by omega) (by omega)
   have hseg : ((m.take (at' + ch)).drop at').length = ch := by simp; omega
   have htl : ((unm ch m).take at').length = at' := by simp [hlen]; omega
   rw [if_pos (by rw [Af, Ac]; simp; omega), e4, Ady (by omega) (by omega) (by omega), Aa, show ((at' + ch : Nat) : Int).toNat = at' + ch from rfl, show (at' : Int).toNat = at' from rfl, Be4 _ ch h1 h6 hseg, Aa, Dp (by rw [htl, Ais]; omega), Aa]
   have e : (unm ch m).take at' ++ Aqm (fun i => ((m.take (at' + ch)).drop at').getD i 0) ch = (unm ch m).take (at' + ch) := by
    apply List.ext_getElem (by rw [List.length_append, htl, Ais, List.length_take, hlen]; omega)
    intro k k1 k2
    rw [List.length_take, hlen] at k2
    rw [List.getElem_append, List.getElem_take]
    by_cases hk : k < at'
    ·rw [dif_pos (by rw [htl]; exact hk), List.getElem_take]
    ·rw [dif_neg (by rw [htl]; exact hk)]
     have hu := As7 (m := m) ha (show k - at' < ch by omega) (by omega)
     rw [show at' + (k - at') = k by omega, La (by omega)] at hu
     have hx : ∀ n, n ≤ ch → unV (fun i => ((m.take (at' + ch)).drop at').getD i 0) ch n = unV (fun i => m.getD (at' + i) 0) ch n := by
      have hf : ∀ i, i < ch → ((m.take (at' + ch)).drop at').getD i 0 = m.getD (at' + i) 0 := by
       intro i hi
       rw [La (by omega), La (by omega)]; simp
      intro n
      induction n with
      | zero =>
       intro _; rw [unV, unV, hf _ (by omega)]; split
       ·rw [hf _ (by omega)]
       ·rfl
      | succ n ih => intro hn; rw [unV, unV, ih (by omega), hf _ (by omega)]
     have hy := Apc (fun i => ((m.take (at' + ch)).drop at').getD i 0) (show k - at' < ch by omega)
     rw [La (by rw [Ais]; omega)] at hy
     rw [hu, ← hx _ (by omega), ← hy]
     congr 1
     rw [htl]
   rw [e]
   exact hrest
  ·rw [if_neg (by rw [Af, Ac]; simp; omega), List.take_of_length_le (by omega)]; rfl
theorem Bhu (ch : Nat) (m : List Int32) (h1 : 1 ≤ ch) (h6 : ch ≤ 6) (hm : m.length % ch = 0) (hl2 : m.length ≤ 4000) : Tc (ch : Int) m = some (unm ch m, 0) := by
 have h := Arm ch m h1 h6 hm hl2 m.length 0 Ba (by simp) (by omega) (by omega) (by have := Aq; omega)
 rw [Tc, Tw, Boj ch m h1 h6 hm hl2, Aa, if_neg (by rw [Am]; simp)]
 exact h
end Go.Pl
set_option linter.unusedVariables false
set_option linter.unusedSimpArgs false
namespace Go.Pl
open Go Go.Lv
def pre {α : Type} (ch c : Nat) (f : α → Nat → α) (a0 : α) : Nat → α
 | 0 => a0
 | m + 1 => if m % ch = c then f (pre ch c f a0 m) m else pre ch c f a0 m
theorem Bfv {α : Type} (ch c : Nat) (f : α → Nat → α) (a0 : α) : ∀ m, m ≤ c → c < ch → pre ch c f a0 m = a0
 | 0, _, _ => rfl
 | m + 1, h, h2 => by rw [pre, if_neg (by rw [Nat.mod_eq_of_lt (by omega)]; omega), Bfv ch c f a0 m (by omega) h2]
theorem Bcp {α : Type} (ch c i : Nat) (f : α → Nat → α) (a0 : α) (hi : i % ch = c) (hc : c < ch) : ∀ j, j < ch → pre ch c f a0 (i + 1 + j) = pre ch c f a0 (i + 1)
 | 0, _ => rfl
 | j + 1, h => by
  have hne : (i + 1 + j) % ch ≠ c := by
   intro e
   have h1 : (i + (1 + j)) % ch = i % ch := by rw [hi, ← e]; congr 1; omega
   have h2 : (1 + j) % ch = 0 := by
    have h3 := Nat.sub_mod_eq_zero_of_mod_eq h1
    rwa [Nat.add_sub_cancel_left] at h3
   rw [Nat.mod_eq_of_lt (by omega)] at h2; omega
  rw [show i + 1 + (j + 1) = (i + 1 + j) + 1 by omega, pre, if_neg hne, Bcp ch c i f a0 hi hc j (by omega)]
theorem Bmd {α : Type} (ch c i : Nat) (f : α → Nat → α) (a0 : α) (hi : i % ch = c) (hc : c < ch) : pre ch c f a0 (i + ch) = f (pre ch c f a0 i) i := by
 have h := Bcp ch c i f a0 hi hc (ch - 1) (by omega)
 rw [show i + 1 + (ch - 1) = i + ch by omega] at h
 rw [h, pre, if_pos hi]
abbrev CS := Int32 × List Int32 × List Int32
def Bk8 (bits : Int) (s : CS) (y : Int32) : Int32 := y + gF (sB bits) s.2.1 s.2.2 + gs (shB bits) s.1
def Bf1 (bits : Int) (s : CS) (y : Int32) : CS := (Bk8 bits s y, lrn s.2.1 s.2.2 y, (y + gF (sB bits) s.2.1 s.2.2) :: s.2.2.take 15)
def cst (bits : Int) (ch : Nat) (t : List Int32) (v : List UInt32) (c : Nat) : Nat → CS := pre ch c (fun s i => Bf1 bits s (Akt (v.getD i 0))) (0, t, List.replicate 16 0)
def OkC (bits : Int) (s : CS) : Prop := OkF (sB bits) s.2.1 s.2.2
theorem Bec (bits : Int) (ch : Nat) {t : List Int32} (ht : t.length = 16) (v : List UInt32) (c : Nat) : ∀ m, OkC bits (cst bits ch t v c m)
 | 0 => ⟨Br9 bits, ht, by simp [cst, pre]⟩
 | m + 1 => by
  have ih := Bec bits ch ht v c m
  rw [cst, pre]
  split
  ·exact Bkd ih _ _
  ·exact ih
def smp (bits : Int) (ch : Nat) (t : List Int32) (v : List UInt32) : List Int32 := (List.range v.length).map fun i => Bk8 bits (cst bits ch t v (i % ch) i) (Akt (v.getD i 0))
theorem Anc (bits : Int) (ch : Nat) (t : List Int32) (v : List UInt32) : (smp bits ch t v).length = v.length := by simp [smp]
theorem Bgc (bits : Int) (ch : Nat) (t : List Int32) (v : List UInt32) {i : Nat} (h : i < v.length) : (smp bits ch t v).getD i 0 = Bk8 bits (cst bits ch t v (i % ch) i) (Akt (v.getD i 0)) := by
 rw [La (by rw [Anc]; exact h)]; simp [smp]
abbrev CL := Int × Int32 × (Int × (List Int32) × (List Int32) × Unit) × Unit
def toC (bits : Int) (s : CS) : CL := (bits, s.1, (sB bits, s.2.1, s.2.2, ()), ())
def cts (bits : Int) (ch : Nat) (t : List Int32) (v : List UInt32) (i : Nat) : List CL := (List.range 6).map fun c => toC bits (cst bits ch t v c i)
theorem Bnx {bits : Int} {ch : Nat} {t : List Int32} {v : List UInt32} {i c : Nat} (h : c < 6) : getI (cts bits ch t v i) (c : Int) = some (toC bits (cst bits ch t v c i)) := by
 rw [Df (by simp [cts]; exact h)]; simp [cts]
theorem Ba4 (bits : Int) (ch : Nat) (t : List Int32) (v : List UInt32) (c m : Nat) : cst bits ch t v c (m + 1) = if m % ch = c then Bf1 bits (cst bits ch t v c m) (Akt (v.getD m 0)) else cst bits ch t v c m := rfl
theorem Bn4 {bits : Int} {ch : Nat} {t : List Int32} {v : List UInt32} {i c : Nat} (h : c < 6) (hc : i % ch = c) : Pm (cts bits ch t v i) (c : Int) (toC bits (Bf1 bits (cst bits ch t v c i) (Akt (v.getD i 0)))) = some (cts bits ch t v (i + 1)) := by
 rw [Vp _ (by simp [cts]; exact h)]
 congr 1
 apply List.ext_getElem (by simp [cts])
 intro k h1 h2
 rw [List.getElem_set]
 simp only [cts, List.getElem_map, List.getElem_range]
 by_cases hk : c = k
 ·subst hk; rw [if_pos rfl, Ba4, if_pos hc]
 ·rw [if_neg hk, Ba4, if_neg (by omega)]
section
variable {bits : Int} {ch : Nat} {t : List Int32} {v : List UInt32}
theorem Bbm (hb : Dv bits) (ht : t.length = 16) (h1 : 1 ≤ ch) (h6 : ch ≤ 6) (hv : v.length ≤ 4000) : ∀ (j i q : Nat), i + j = v.length → j < q →
  Gv v (ch : Int) bits q (i : Int) (cts bits ch t v i) ((smp bits ch t v).take i) = Jg (ch : Int) bits (smp bits ch t v)
 | 0, i, q + 1, hi, _ => by
  rw [Gv, Jf, if_neg (by rw [Af, Ac]; simp; omega), List.take_of_length_le (by rw [Anc]; omega)]
 | j + 1, i, q + 1, hi, hq => by
  have hlen := Anc bits ch t v
  have hc : i % ch < 6 := Nat.lt_of_lt_of_le (Nat.mod_lt _ (by omega)) h6
  have hok := Bec bits ch ht v (i % ch) i
  have hs := Bn4 (bits := bits) (ch := ch) (t := t) (v := v) (i := i) hc rfl
  have hx := Bgc bits ch t v (i := i) (by omega)
  have hcb := Bg6 hb hok (cst bits ch t v (i % ch) i).1 (Akt (v.getD i 0))
  have ih := Bbm hb ht h1 h6 hv j (i + 1) q (by omega) (by omega)
  rw [Aij (by omega), ← La (by omega), hx] at ih
  rw [Gv, Jf, if_pos (by rw [Af, Ac]; simp; omega), Auf (by omega), Aa, Bz (by rw [Am]; simp; omega), Aa, Aox, Bnx hc, Aa, Aa, Bkz, Aa]
  refine Eq.trans (congrArg (fun o => Option.bind o _) hcb) ?_
  rw [Aa]
  simp only
  rw [Vm, Aei, if_neg (by rw [Am]; simp), Aox]
  refine Eq.trans (congrArg (fun o => Option.bind o _) hs) ?_
  rw [Aa, Dp (by simp; omega), Aa, Ag (by omega) (by omega)]
  exact ih
theorem Bi2 (hb : Dv bits) (ht : t.length = 16) (h1 : 1 ≤ ch) (h6 : ch ≤ 6) (hv : v.length ≤ 4000) : Qz (ch : Int) bits t v = Jg (ch : Int) bits (smp bits ch t v) := by
 have h := Bbm hb ht h1 h6 hv v.length 0 Ba (by omega) (by have := Aq; omega)
 have e : Ba = (Ba - 7) + 1 + 1 + 1 + 1 + 1 + 1 + 1 := by have := Aq; omega
 have hs : Nl v (ch : Int) bits t 0 (List.replicate 6 ((0 : Int), (0 : Int32), ((0 : Int), (List.replicate 16 (0 : Int32)), (List.replicate 16 (0 : Int32)), ()), ())) = Vo v (ch : Int) bits (cts bits ch t v 0) := by
  rw [Nl, e]
  obtain rfl | rfl | rfl := hb <;> rfl
 rw [Qz, Xe, hs]
 exact h
theorem Ax9 (bk : Int → List Int32 → Option (List Int32)) (hb : Dv bits) (ht : t.length = 16) (h1 : 1 ≤ ch) (h6 : ch ≤ 6) (hv : v.length ≤ 4000) (z : List Int32) (c : Nat) (hc : c < ch) : ∀ (j i q : Nat), i % ch = c → v.length - i ≤ j → i ≤ 5000 → j < q →
  Gd bk v (ch : Int) bits t (c : Int) q (i : Int) (sel (fun k => decide (k % ch < c ∨ (k % ch = c ∧ k < i))) (smp bits ch t v) z) bits (cst bits ch t v c i).1 (sB bits) (cst bits ch t v c i).2.1 (cst bits ch t v c i).2.2 =
   bk ((c + 1 : Nat) : Int) (sel (fun k => decide (k % ch < c + 1)) (smp bits ch t v) z)
 | j, i, q + 1, hi, hj, hi5, hq => by
  have hlen := Anc bits ch t v
  rw [Gd, Im]
  by_cases h : i < v.length
  ·have hok := Bec bits ch ht v c i
   have hst := Bi0 hb hok (cst bits ch t v c i).1 (Akt (v.getD i 0))
   have hx := Bgc bits ch t v (i := i) h
   rw [hi] at hx
   have ih := Ax9 bk hb ht h1 h6 hv z c hc (j - 1) (i + ch) q (by rw [Nat.add_mod_right]; exact hi) (by omega) (by omega) (by omega)
   have hstep : cst bits ch t v c (i + ch) = Bf1 bits (cst bits ch t v c i) (Akt (v.getD i 0)) := Bmd ch c i _ _ hi hc
   rw [hstep] at ih
   have hset := Apu (p := fun k => decide (k % ch < c ∨ (k % ch = c ∧ k < i))) (a := smp bits ch t v) (b := z) (k := i) (by omega)
   rw [hx] at hset
   have hcong : sel (fun j => decide (j % ch < c ∨ (j % ch = c ∧ j < i)) || decide (j = i)) (smp bits ch t v) z = sel (fun k => decide (k % ch < c ∨ (k % ch = c ∧ k < i + ch))) (smp bits ch t v) z := by
    apply Xu
    intro k _
    rw [Bool.eq_iff_iff]
    simp only [Bool.or_eq_true, decide_eq_true_eq]
    constructor
    ·rintro ((h1 | h1) | h1)
     ·exact .inl h1
     ·exact .inr ⟨h1.1, by omega⟩
     ·subst h1; exact .inr ⟨hi, by omega⟩
    ·rintro (h1 | ⟨h1, h2⟩)
     ·exact .inl (.inl h1)
     ·by_cases h3 : k < i
      ·exact .inl (.inr ⟨h1, h3⟩)
      ·refine .inr ?_
       have h4 : (i + (k - i)) % ch = i % ch := by rw [show i + (k - i) = k by omega, h1, hi]
       have h5 := Nat.sub_mod_eq_zero_of_mod_eq h4
       rw [Nat.add_sub_cancel_left, Nat.mod_eq_of_lt (by omega)] at h5
       omega
   rw [hcong] at hset
   rw [if_pos (by rw [Af, Ac]; simp; omega), Auf h, Aa, Bov, Aa]
   refine Eq.trans (congrArg (fun o => Option.bind o _) hst) ?_
   rw [Aa]
   simp only
   rw [Pb, Oi, Agx (by omega), Aa]
   refine Eq.trans (congrArg (fun o => Option.bind o _) hset) ?_
   rw [Aa, Pj, Xt, Ag (by omega) (by omega)]
   exact ih
  ·rw [if_neg (by rw [Af, Ac]; simp; omega), Oz, Xy, Ag (by omega) (by omega)]
   have hcong : sel (fun k => decide (k % ch < c ∨ (k % ch = c ∧ k < i))) (smp bits ch t v) z = sel (fun k => decide (k % ch < c + 1)) (smp bits ch t v) z := by
    apply Xu
    intro k hk
    rw [Bool.eq_iff_iff]
    simp only [decide_eq_true_eq]
    omega
   rw [hcong]; rfl
theorem Ayl (hb : Dv bits) (ht : t.length = 16) (h1 : 1 ≤ ch) (h6 : ch ≤ 6) (hv : v.length ≤ 4000) (z : List Int32) : ∀ (j c q : Nat), c + j = ch → j < q →
  Dk v (ch : Int) bits t q (c : Int) (sel (fun k => decide (k % ch < c)) (smp bits ch t v) z) = Ja (ch : Int) bits (smp bits ch t v)
 | 0, c, q + 1, hc, _ => by
  rw [Dk, Iz, if_neg (by rw [Af]; simp; omega), Ap6 (fun k hk => by have := Nat.mod_lt k (show 0 < ch by omega); simp; omega)]
 | j + 1, c, q + 1, hc, hq => by
  have ih := Ayl hb ht h1 h6 hv z j (c + 1) q (by omega) (by omega)
  have hin := Ax9 (Dk v (ch : Int) bits t q) hb ht h1 h6 hv z c (by omega) v.length c Ba (Nat.mod_eq_of_lt (by omega)) (by omega) (by omega) (by have := Aq; omega)
  have h0 : cst bits ch t v c c = (0, t, List.replicate 16 0) := Bfv ch c _ _ c (Nat.le_refl _) (by omega)
  rw [h0] at hin
  have hcong : sel (fun k => decide (k % ch < c ∨ (k % ch = c ∧ k < c))) (smp bits ch t v) z = sel (fun k => decide (k % ch < c)) (smp bits ch t v) z := by
   apply Xu
   intro k hk
   have := Nat.mod_le k ch
   rw [Bool.eq_iff_iff]
   simp only [decide_eq_true_eq]
   omega
  rw [hcong] at hin
  rw [Dk, Iz, if_pos (by rw [Af]; simp; omega), Brg hb, Aa]
  simp only
  rw [Ok]
  exact Eq.trans hin ih
theorem Bix (hb : Dv bits) (ht : t.length = 16) (h1 : 1 ≤ ch) (h6 : ch ≤ 6) (hv : v.length ≤ 4000) (hm : v.length % ch = 0) : Cr (ch : Int) bits t v = some (unm ch (smp bits ch t v)) := by
 have hlen := Anc bits ch t v
 have h := Ayl hb ht h1 h6 hv (List.replicate v.length 0) ch 0 Ba (by omega) (by have := Aq; omega)
 rw [Ap2 (by rw [hlen]; simp) (fun k _ => by simp)] at h
 rw [Cr, Qj, Ac, Avf (by omega) (by omega), Aa, Bz (by rw [Ca]; simp), Aa, Om]
 refine Eq.trans h ?_
 rw [Ja, Yn, Bhu ch _ h1 h6 (by rw [hlen]; exact hm) (by omega), Aa]
end
def hB (bits : Int) : Int := if bits = 8 then 128 else if bits = 16 then 32768 else 8388608
theorem Be0 {bits : Int} (h : Dv bits) : Xv bits = some (Int32.ofInt (-(hB bits)), Int32.ofInt (hB bits - 1), 0) := by
 obtain rfl | rfl | rfl := h <;> decide
theorem Ati {bits : Int} (h : Dv bits) : Ip bits = some (hB bits) := by
 obtain rfl | rfl | rfl := h <;> rfl
theorem Aql (bits : Int) : 0 < hB bits ∧ hB bits ≤ 8388608 := by
 unfold hB; split; · omega
 ·split <;> omega
theorem At1 {bits : Int} (h : Dv bits) (l : List Int32) (hl : l.length ≤ 4000) : ∀ (j i q : Nat), i + j = l.length → j < q →
  Pe (Int32.ofInt (-(hB bits))) (Int32.ofInt (hB bits - 1)) l q (i : Int) = Bm l (hB bits) q (i : Int)
 | 0, i, q + 1, hi, _ => by
  rw [Pe, Zo, Bm, Eb, if_neg (by rw [Af, Ac]; simp; omega), if_neg (by rw [Af, Ac]; simp; omega)]; rfl
 | j + 1, i, q + 1, hi, hq => by
  have hh := Aql bits
  have ih := At1 h l hl j (i + 1) q (by omega) (by omega)
  have e1 : (Int32.ofInt (-(hB bits))).toInt = -(hB bits) := by rw [Int32.toInt_ofInt, Int.bmod_eq_of_le (by show -(4294967296 / 2 : Int) ≤ _; omega) (by show _ < (4294967296 + 1) / 2; omega)]
  have e2 : (Int32.ofInt (hB bits - 1)).toInt = hB bits - 1 := by rw [Int32.toInt_ofInt, Int.bmod_eq_of_le (by show -(4294967296 / 2 : Int) ≤ _; omega) (by show _ < (4294967296 + 1) / 2; omega)]
  rw [Pe, Zo, Bm, Eb, if_pos (by rw [Af, Ac]; simp; omega), if_pos (by rw [Af, Ac]; simp; omega), g32 (by omega), Aa, Aa, Aa, El, Beu, Bw (by omega) (by omega), Ag (by omega) (by omega), Ayu, Bea, e1, e2, Af, Dl]
  generalize (l.getD i 0).toInt = X
  by_cases h1 : X < -(hB bits)
  ·rw [if_pos (by simp; omega), if_pos (by simp; omega)]
  ·rw [if_neg (c := decide (X < 0 - hB bits) = true) (by simp; omega)]
   by_cases h2 : hB bits ≤ X
   ·rw [if_pos (by simp; omega), if_pos (by simp; omega)]
   ·rw [if_neg (by simp; omega), if_neg (by simp; omega)]; exact ih
theorem At7 {bits : Int} (h : Dv bits) (l : List Int32) (hl : l.length ≤ 4000) : Aco bits l = cadenzaref18_Check bits l := by
 have hh := Aql bits
 rw [Aco, Afe, Be0 h, Aa, cadenzaref18_Check, Hm, Ati h, Aa]
 simp only
 rw [if_neg (by rw [Am]; simp), if_neg (by rw [Bc, Ac]; simp; omega), if_neg (by rw [Ca]; simp; omega), if_neg (by rw [Bc, Ac]; simp; omega)]
 exact At1 h l hl l.length 0 Ba (by omega) (by have := Aq; omega)
theorem Bd9 {bits : Int} (h : Dv bits) (l : List Int32) (hl : l.length ≤ 4000) : ∃ e, cadenzaref18_Check bits l = some e := by
 have hh := Aql bits
 have key : ∀ (j i q : Nat), i + j = l.length → j < q → ∃ e, Bm l (hB bits) q (i : Int) = some e := by
  intro j
  induction j with
  | zero =>
   intro i q hi hq
   obtain ⟨q, rfl⟩ : ∃ k, q = k + 1 := ⟨q - 1, by omega⟩
   rw [Bm, Eb, if_neg (by rw [Af, Ac]; simp; omega)]
   exact ⟨_, rfl⟩
  | succ j ih =>
   intro i q hi hq
   obtain ⟨q, rfl⟩ : ∃ k, q = k + 1 := ⟨q - 1, by omega⟩
   rw [Bm, Eb, if_pos (by rw [Af, Ac]; simp; omega), g32 (by omega), Aa, Aa, Ag (by omega) (by omega)]
   split
   ·exact ⟨_, rfl⟩
   ·split
    ·exact ⟨_, rfl⟩
    ·exact ih (i + 1) q (by omega) (by omega)
 obtain ⟨e, he⟩ := key l.length 0 Ba (by omega) (by have := Aq; omega)
 rw [cadenzaref18_Check, Hm, Ati h, Aa, if_neg (by rw [Ca]; simp; omega), if_neg (by rw [Bc, Ac]; simp; omega)]
 exact ⟨e, he⟩
theorem Ayr {bits : Int} {ch : Nat} {t : List Int32} {v : List UInt32} (hb : Dv bits) (ht : t.length = 16) (h1 : 1 ≤ ch) (h6 : ch ≤ 6) (hv : v.length ≤ 4000) (hm : v.length % ch = 0) :
  ∃ l e, Cr (ch : Int) bits t v = some l ∧ Dj (ch : Int) bits l = some (if e ≠ 0 then ([], e) else (l, 0)) ∧ Qz (ch : Int) bits t v = some (if e ≠ 0 then ([], e) else (l, 0)) ∧ cadenzaref18_Check bits l = some e ∧ l.length = v.length := by
 have hlen := Anc bits ch t v
 have hul := Am9 ch (smp bits ch t v)
 obtain ⟨e, he⟩ := Bd9 hb (unm ch (smp bits ch t v)) (by omega)
 refine ⟨unm ch (smp bits ch t v), e, Bix hb ht h1 h6 hv hm, ?_, ?_, he, by omega⟩
 ·rw [Dj, he, Aa]
  by_cases h : e = 0
  ·rw [if_neg (by rw [Am]; simpa using h), if_neg (by simpa using h)]
  ·rw [if_pos (by rw [Am]; simpa using h), if_pos h]
 ·rw [Bi2 hb ht h1 h6 hv, Jg, Aeg, Bn6 ch _ h1 h6 (by rw [hlen]; exact hm) (by omega), Aa]
  simp only
  rw [if_neg (by rw [Am]; simp), At7 hb _ (by omega), he, Aa]
  by_cases h : e = 0
  ·rw [if_neg (by rw [Am]; simpa using h), if_neg (by simpa using h)]
  ·rw [if_pos (by rw [Am]; simpa using h), if_pos h]
end Go.Pl
set_option linter.unusedVariables false
set_option linter.unusedSimpArgs false
namespace Go.Pl
open Go Go.Lv
def Alp (s : Nat) : Nat := (s / 2) ^^^ (if s % 2 = 1 then 3988292384 else 0)
theorem Av6 {s : Nat} (h : s < 4294967296) : Alp s < 4294967296 := by
 unfold Alp
 exact Nat.xor_lt_two_pow (n := 32) (by simp; omega) (by split <;> decide)
theorem Baw (x y : Nat) : (x ^^^ y) / 2 = (x / 2) ^^^ (y / 2) := by
 have := Nat.shiftRight_xor_distrib (a := x) (b := y) (i := 1)
 simpa [Nat.shiftRight_eq_div_pow] using this
theorem Bh6 (x y : Nat) : Alp (x ^^^ y) = Alp x ^^^ Alp y := by
 have h : (x ^^^ y) % 2 = (x % 2 + y % 2) % 2 := by
  have := Nat.xor_mod_two_eq_one (a := x) (b := y)
  have h1 : (x ^^^ y) % 2 < 2 := Nat.mod_lt _ (by omega)
  omega
 simp only [Alp, Baw, h]
 have hx : x % 2 = 0 ∨ x % 2 = 1 := by omega
 have hy : y % 2 = 0 ∨ y % 2 = 1 := by omega
 rcases hx with hx | hx <;> rcases hy with hy | hy <;> simp only [hx, hy] <;> simp
 ·rw [Nat.xor_assoc]
 ·rw [Nat.xor_assoc, Nat.xor_comm (y / 2), Nat.xor_assoc, Nat.xor_comm 3988292384 (y/2)]
 ·rw [Nat.xor_assoc, Nat.xor_comm 3988292384, Nat.xor_assoc, Nat.xor_self]; simp
def Vj : Nat → Nat → Nat
 | 0, s => s
 | k + 1, s => Vj k (Alp s)
theorem Awy : ∀ (k x y : Nat), Vj k (x ^^^ y) = Vj k x ^^^ Vj k y
 | 0, _, _ => rfl
 | k + 1, x, y => by rw [Vj, Bh6, Awy k]; rfl
theorem Axo : ∀ (k h : Nat), Vj k (2 ^ k * h) = h
 | 0, h => by simp [Vj]
 | k + 1, h => by
  have : Alp (2 ^ (k + 1) * h) = 2 ^ k * h := by
   rw [Nat.pow_succ, Nat.mul_comm (2 ^ k) 2, Nat.mul_assoc, Alp, if_neg (by omega), Nat.mul_div_cancel_left _ (by omega)]; simp
  rw [Vj, this, Axo k]
theorem Av1 : ∀ (k : Nat) {s : Nat}, s < 4294967296 → Vj k s < 4294967296
 | 0, _, h => h
 | k + 1, _, h => Av1 k (Av6 h)
def Arz (s c : Nat) : Nat := Vj 8 (s ^^^ c)
theorem Avz {s c : Nat} (h : s < 4294967296) (hc : c < 256) : Arz s c < 4294967296 := Av1 8 (Nat.xor_lt_two_pow (n := 32) (by simpa using h) (by simp; omega))
theorem Bbn {s c : Nat} (hc : c < 256) : Arz s c = (s / 256) ^^^ Vj 8 ((s % 256) ^^^ c) := by
 have h : s = (2 ^ 8 * (s / 256)) ^^^ (s % 256) := by
  have h1 : s % 256 < 2 ^ 8 := by simpa using Nat.mod_lt s (by omega : 256 > 0)
  have := Nat.two_pow_add_eq_or_of_lt h1 (s / 256)
  have h2 : 2 ^ 8 * (s / 256) ||| s % 256 = (2 ^ 8 * (s / 256)) ^^^ (s % 256) := by
   apply Nat.eq_of_testBit_eq; intro i
   rw [Nat.testBit_or, Nat.testBit_xor]
   by_cases hi : i < 8
   ·have : (2 ^ 8 * (s / 256)).testBit i = false := by rw [Nat.testBit_two_pow_mul]; simp; omega
    rw [this]; simp
   ·have : (s % 256).testBit i = false := Nat.testBit_lt_two_pow (Nat.lt_of_lt_of_le h1 (Nat.pow_le_pow_right (by omega) (by omega)))
    rw [this]; simp
  omega
 rw [Arz]
 conv => lhs; rw [h]
 rw [Nat.xor_assoc, Awy, Axo]
def Bg7 (s : Nat) (l : List UInt8) : Nat := l.foldl (fun s c => Arz s c.toNat) s
def Gs (b : List UInt8) : UInt32 := 4294967295 - UInt32.ofNat (Bg7 4294967295 b)
theorem Bm6 (s : UInt32) (c : Nat) (hc : c < 256) : Tf s (Ad (Yp (UInt8.ofNat c) (2 : UInt8)) : Int) = some (UInt32.ofNat (s.toNat / 2 ^^^ (if (s.toNat ^^^ c) % 2 = 1 then 3988292384 else 0))) := by
 have h1 : (Ad (Yp (UInt8.ofNat c) (2 : UInt8)) : Int) = ((c % 2 : Nat) : Int) := by
  rw [Abj, Bof, UInt8.toNat_mod, UInt8.toNat_ofNat']
  show ((c % 256 % 2 : Nat) : Int) = _
  omega
 have h2 : geq (Yp s (2 : UInt32)) (1 : UInt32) = decide (s.toNat % 2 = 1) := by
  rw [Azy, Bag, Bool.eq_iff_iff]
  simp only [beq_iff_eq, decide_eq_true_eq]
  rw [← UInt32.toNat_inj, UInt32.toNat_mod]; rfl
 have h3 : Bo s (2 : UInt32) = UInt32.ofNat (s.toNat / 2) := by
  apply UInt32.toNat_inj.1
  rw [Bc1, UInt32.toNat_div, UInt32.toNat_ofNat']
  show s.toNat / 2 = _
  have := s.toNat_lt
  omega
 have h4 : Wg (Bo s (2 : UInt32)) (3988292384 : UInt32) = UInt32.ofNat (s.toNat / 2 ^^^ 3988292384) := by
  apply UInt32.toNat_inj.1
  rw [h3, Apg, UInt32.toNat_xor, UInt32.toNat_ofNat', UInt32.toNat_ofNat']
  have := s.toNat_lt
  rw [Nat.mod_eq_of_lt (a := s.toNat / 2) (by omega), Nat.mod_eq_of_lt]
  ·rfl
  ·exact Nat.xor_lt_two_pow (n := 32) (by omega) (by decide)
 have hx : (s.toNat ^^^ c) % 2 = (s.toNat % 2 + c % 2) % 2 := by
  have := Nat.xor_mod_two_eq_one (a := s.toNat) (b := c)
  have h1 : (s.toNat ^^^ c) % 2 < 2 := Nat.mod_lt _ (by omega)
  omega
 have hs : s.toNat % 2 = 0 ∨ s.toNat % 2 = 1 := by omega
 have hc2 : c % 2 = 0 ∨ c % 2 = 1 := by omega
 rw [Tf, Tq, h1, h2, hx]
 rcases hs with hs | hs <;> rcases hc2 with hc2 | hc2 <;> simp [hs, hc2, Ca, Tm, Acv, Apg, h3]
theorem Arr : ∀ (j i q : Nat) (s : UInt32) (c : Nat), i + j = 8 → j < q → c < 2 ^ j → Ge q s (UInt8.ofNat c) (i : Int) = some (UInt32.ofNat (Vj j (s.toNat ^^^ c)))
 | 0, i, q + 1, s, c, hi, _, hc => by
  obtain rfl : i = 8 := by omega
  obtain rfl : c = 0 := by simpa using hc
  rw [Ge, Ma, if_neg (by rw [Af]; simp), Tr, Ade, Vj]
  simp
 | j + 1, i, q + 1, s, c, hi, hq, hc => by
  have hc8 : c < 256 := Nat.lt_of_lt_of_le hc (show 2 ^ (j + 1) ≤ 2 ^ 8 from Nat.pow_le_pow_right (by omega) (by omega))
  rw [Ge, Ma, if_pos (by rw [Af]; simp; omega), Bm6 s c hc8, Aa, Ag (by omega) (by omega)]
  have e : Bo (UInt8.ofNat c) (2 : UInt8) = UInt8.ofNat (c / 2) := by
   apply UInt8.toNat_inj.1
   rw [Boc, UInt8.toNat_div, UInt8.toNat_ofNat', UInt8.toNat_ofNat']
   show c % 256 / 2 = _
   omega
  rw [e]
  have h := Arr j (i + 1) q (UInt32.ofNat (s.toNat / 2 ^^^ (if (s.toNat ^^^ c) % 2 = 1 then 3988292384 else 0))) (c / 2) (by omega) (by omega) (by rw [Nat.pow_succ] at hc; omega)
  rw [show ((i : Int) + 1) = ((i + 1 : Nat) : Int) by omega, h, UInt32.toNat_ofNat', Vj]
  congr 3
  have := s.toNat_lt
  rw [Nat.mod_eq_of_lt, Alp, Baw, Nat.xor_assoc, Nat.xor_assoc, Nat.xor_comm (c / 2)]
  exact Nat.xor_lt_two_pow (n := 32) (by omega) (by split <;> decide)
theorem Bn9 (s : UInt32) (c : UInt8) : Zg s c = some (UInt32.ofNat (Arz s.toNat c.toNat)) := by
 have h := Arr 8 0 Ba s c.toNat (by omega) (by have := Aq; omega) (by simpa using c.toNat_lt)
 rw [UInt8.ofNat_toNat] at h
 exact h
theorem Ans (b : List UInt8) (hb : b.length < 4611686018427387904) : ∀ (j i q : Nat) (s : UInt32), i + j = b.length → j < q → Ez b q s (i : Int) = some (UInt32.ofNat (Bg7 s.toNat (b.drop i)))
 | 0, i, q + 1, s, hi, _ => by
  rw [Ez, Jv, if_neg (by rw [Af, Ac]; simp; omega), show i = b.length by omega, List.drop_length]
  simp [Qo, Aav, Bg7]
 | j + 1, i, q + 1, s, hi, hq => by
  have hlt : i < b.length := by omega
  rw [Ez, Jv, if_pos (by rw [Af, Ac]; simp; omega), Df hlt, Aa, Bn9, Aa, Ag (by omega) (by omega)]
  have h := Ans b hb j (i + 1) q (UInt32.ofNat (Arz s.toNat b[i].toNat)) (by omega) (by omega)
  rw [show ((i : Int) + 1) = ((i + 1 : Nat) : Int) by omega, h, drop_cons hlt, UInt32.toNat_ofNat', Nat.mod_eq_of_lt (Avz s.toNat_lt b[i].toNat_lt)]
  rfl
theorem Bjy (b : List UInt8) (hb : b.length < 4611686018427387904) : Lw b = some (Gs b) := by
 have h := Ans b hb b.length 0 Ba 4294967295 (by omega) (by have := Aq; omega)
 rw [Lw, Vz, Qs, Qx, show ((0 : Int)) = ((0 : Nat) : Int) from rfl, h, Aa, Bcb]; rfl
theorem Bn1 (c : UInt32) : Wg (Cq c (GI.toZ (1 : UInt64)).toNat) (Bi (3988292384 : UInt32) (Hr c (1 : UInt32))) = UInt32.ofNat (Alp c.toNat) := by
 apply UInt32.toNat_inj.1
 have e : (GI.toZ (1 : UInt64)).toNat = 1 := rfl
 have h1 : (Cq c 1).toNat = c.toNat / 2 := by rw [Ain]
 have h2 : (Bi (3988292384 : UInt32) (Hr c (1 : UInt32))).toNat = if c.toNat % 2 = 1 then 3988292384 else 0 := by
  rw [Bke, Ba0, UInt32.toNat_mul, UInt32.toNat_and]
  show 3988292384 * (c.toNat &&& 1) % 4294967296 = _
  rw [Nat.and_one_is_mod]
  have : c.toNat % 2 = 0 ∨ c.toNat % 2 = 1 := by omega
  rcases this with h | h <;> simp [h]
 rw [e, Apg, UInt32.toNat_xor, h1, h2, UInt32.toNat_ofNat', Nat.mod_eq_of_lt (Av6 c.toNat_lt)]; rfl
theorem Bdc (bk16 : Int → List UInt32 → Option (UInt32 × Int)) (s : UInt32) (b : List UInt8) (x : Int) (t : List UInt32) : ∀ (j i q : Nat) (c : UInt32), i + j = 8 → j < q →
  Oy bk16 s b x t q c (i : Int) = Zk bk16 s b x (UInt32.ofNat (Vj j c.toNat)) t
 | 0, i, q + 1, c, hi, _ => by
  obtain rfl : i = 8 := by omega
  rw [Oy, Aaq, if_neg (by rw [Af]; simp), Vj, UInt32.ofNat_toNat]
 | j + 1, i, q + 1, c, hi, hq => by
  rw [Oy, Aaq, if_pos (by rw [Af]; simp; omega), Bn1, Ag (by omega) (by omega), show ((i : Int) + 1) = ((i + 1 : Nat) : Int) by omega, Bdc bk16 s b x t j (i + 1) q _ (by omega) (by omega), UInt32.toNat_ofNat', Nat.mod_eq_of_lt (Av6 c.toNat_lt)]; rfl
def tbl (n : Nat) : List UInt32 := (List.range n).map fun i => UInt32.ofNat (Vj 8 i)
theorem Bgp (s : UInt32) (b : List UInt8) : ∀ (j i q : Nat), i + j = 256 → j < q → Kh s b q (i : Int) (tbl i ++ List.replicate j 0) = Zy s b (tbl 256)
 | 0, i, q + 1, hi, _ => by
  obtain rfl : i = 256 := by omega
  rw [Kh, Aab, if_neg (by rw [Af]; simp)]; simp
 | j + 1, i, q + 1, hi, hq => by
  have hlen : (tbl i ++ List.replicate (j + 1) 0).length = i + (j + 1) := by simp [tbl]
  rw [Kh, Aab, if_pos (by rw [Af]; simp; omega), Agd]
  have h := Bdc (Kh s b q) s b (i : Int) (tbl i ++ List.replicate (j + 1) 0) 8 0 Ba (Ad (i : Int)) (by omega) (by have := Aq; omega)
  rw [show ((0 : Int)) = ((0 : Nat) : Int) from rfl, h, Zk, Agc, Df (by rw [hlen]; omega), Aa, Vp _ (by rw [hlen]; omega), Aa, Afb, Alu, Ag (by omega) (by omega)]
  have e : (Ad (i : Int) : UInt32).toNat = i := by rw [Axe, UInt32.toNat_ofNat', Nat.mod_eq_of_lt (by omega)]
  rw [e, List.replicate_succ, Am3 (by simp [tbl])]
  have h2 := Bgp s b j (i + 1) q (by omega) (by omega)
  have h3 : tbl (i + 1) = tbl i ++ [UInt32.ofNat (Vj 8 i)] := by simp [tbl, List.range_succ]
  rw [h3] at h2
  rw [show ((i : Int) + 1) = ((i + 1 : Nat) : Int) by omega, ← h2]
  simp
theorem Bnq {i : Nat} (h : i < 256) : getI (tbl 256) (i : Int) = some (UInt32.ofNat (Vj 8 i)) := by
 rw [Df (by simpa [tbl] using h)]; simp [tbl]
theorem Blj (s : UInt32) (c : UInt8) : getI (tbl 256) (GI.toZ (Wg (Ad s : UInt8) c)) = some (UInt32.ofNat (Vj 8 ((s.toNat % 256) ^^^ c.toNat))) := by
 have e : GI.toZ (Wg (Ad s : UInt8) c) = (((s.toNat % 256) ^^^ c.toNat : Nat) : Int) := by
  rw [Xd, Bgz, UInt8.toNat_xor, Aoi, UInt8.toNat_ofNat']
 rw [e, Bnq]
 exact Nat.xor_lt_two_pow (n := 8) (by simp; omega) (by simpa using c.toNat_lt)
theorem Bhe (s : UInt32) (c : UInt8) : Wg (Cq s (GI.toZ (8 : UInt64)).toNat) (UInt32.ofNat (Vj 8 ((s.toNat % 256) ^^^ c.toNat))) = UInt32.ofNat (Arz s.toNat c.toNat) := by
 apply UInt32.toNat_inj.1
 have hlt : Vj 8 ((s.toNat % 256) ^^^ c.toNat) < 4294967296 := Av1 8 (Nat.xor_lt_two_pow (n := 32) (by simp; omega) (by have := c.toNat_lt; simp; omega))
 have e : (GI.toZ (8 : UInt64)).toNat = 8 := rfl
 rw [e, Apg, UInt32.toNat_xor, Ain, UInt32.toNat_ofNat', UInt32.toNat_ofNat', Nat.mod_eq_of_lt hlt, Nat.mod_eq_of_lt (Avz s.toNat_lt c.toNat_lt), Bbn c.toNat_lt]
theorem Bb2 (b : List UInt8) (hb : b.length < 4611686018427387904) : ∀ (j i q : Nat) (s : UInt32), i + j = b.length → j < q → Oh b (tbl 256) q s (i : Int) = some (UInt32.ofNat (Bg7 s.toNat (b.drop i)), 0)
 | 0, i, q + 1, s, hi, _ => by
  rw [Oh, Aat, if_neg (by rw [Af, Ac]; simp; omega), show i = b.length by omega, List.drop_length]
  simp [Af4, Ale, Bg7]
 | j + 1, i, q + 1, s, hi, hq => by
  have hlt : i < b.length := by omega
  rw [Oh, Aat, if_pos (by rw [Af, Ac]; simp; omega), Df hlt, Aa, Blj, Aa, Aa, Bhe, Ag (by omega) (by omega)]
  have h := Bb2 b hb j (i + 1) q (UInt32.ofNat (Arz s.toNat b[i].toNat)) (by omega) (by omega)
  rw [show ((i : Int) + 1) = ((i + 1 : Nat) : Int) by omega, h, drop_cons hlt, UInt32.toNat_ofNat', Nat.mod_eq_of_lt (Avz s.toNat_lt b[i].toNat_lt)]
  rfl
theorem Box (s : UInt32) (b : List UInt8) (hb : b.length ≤ 100000) : Akh s b = some (UInt32.ofNat (Bg7 s.toNat b), 0) := by
 have h := Bgp s b 256 0 Ba (by omega) (by have := Aq; omega)
 have h2 := Bb2 b (by omega) b.length 0 Ba s (by omega) (by have := Aq; omega)
 rw [Akh, Ah2, if_neg (by rw [Bc, Ac]; simp; omega), Afp]
 refine Eq.trans h ?_
 rw [Zy, Af5, Age, Af8, Agj]
 exact h2
theorem Bk6 (a : UInt32) : Avq a = 4294967295 - a := by
 have h := a.toNat_lt
 have e : Avq a = UInt32.ofNat (BitVec.ofInt 32 4294967295 ^^^ BitVec.ofInt 32 (a.toNat : Int)).toNat := Ea _
 apply UInt32.toNat_inj.1
 rw [e, UInt32.toNat_ofNat', UInt32.toNat_sub_of_le _ _ (by rw [UInt32.le_iff_toNat_le]; show a.toNat ≤ 4294967295; omega)]
 have h1 : BitVec.ofInt 32 (a.toNat : Int) = a.toBitVec := Aza a
 have h2 : (BitVec.ofInt 32 4294967295 : BitVec 32) = BitVec.allOnes 32 := by decide
 rw [h1, h2, BitVec.allOnes_xor, BitVec.toNat_not]
 show (4294967296 - 1 - a.toNat) % 4294967296 = 4294967295 - a.toNat
 omega
theorem Bem (b : List UInt8) (hb : b.length ≤ 100000) : Ae0 b = some (Gs b, 0) := by
 rw [Ae0, Box _ _ hb, Aa]
 simp only [Am, Bk6]
 rfl
end Go.Pl
set_option linter.unusedVariables false
set_option linter.unusedSimpArgs false
namespace Go.Pl
open Go Go.Lv
theorem Bgt : ∀ {l m : List UInt8}, l.length = m.length → Eg l = Eg m → l = m
 | [], [], _, _ => rfl
 | x :: l, y :: m, h, e => by
  simp only [Eg] at e
  have hx := x.toNat_lt
  have hy := y.toNat_lt
  have h1 : x = y := UInt8.toNat_inj.1 (by omega)
  rw [h1, Bgt (l := l) (m := m) (by simpa using h) (by omega)]
theorem Ayw : ∀ (w n : Nat), Eg (leB n w) = n % 256 ^ w
 | 0, n => by simp [leB, Eg, Nat.mod_one]
 | w + 1, n => by
  rw [leB, Eg, Ayw w (n / 256), UInt8.toNat_ofNat', show (256 : Nat) ^ (w + 1) = 256 * 256 ^ w by rw [Nat.pow_succ, Nat.mul_comm], Nat.mod_mul]
def Ya (b : List UInt8) : Int :=
 if b.length < 5 then 24 else if 41254 < b.length then 4 else if (Gs (b.take (b.length - 4))).toNat ≠ Eg (b.drop (b.length - 4)) then 22 else 0
theorem Bdh (b : List UInt8) : Zl b = some (if Ya b ≠ 0 then ([], Ya b) else (b.take (b.length - 4), 0)) := by
 rw [Zl]
 by_cases h1 : b.length < 5
 ·have hS : Ya b = 24 := by rw [Ya, if_pos h1]
  rw [if_pos (by rw [Af, Ac]; simp; omega), hS]; rfl
 rw [if_neg (by rw [Af, Ac]; simp; omega)]
 by_cases h2 : 41254 < b.length
 ·have hS : Ya b = 4 := by rw [Ya, if_neg h1, if_pos h2]
  rw [if_pos (by rw [Bc, Ac]; simp; omega), hS]; rfl
 have e4 : Al (Ac b) 4 = ((b.length - 4 : Nat) : Int) := by rw [Ac, Bl (by omega) (by omega)]; omega
 have hd : (b.drop (b.length - 4)).length = 4 := by simp; omega
 rw [if_neg (by rw [Bc, Ac]; simp; omega), e4, Mb (by omega) (by omega), Aa, show ((b.length - 4 : Nat) : Int).toNat = b.length - 4 from rfl, Bem _ (by simp; omega), Aa]
 simp only
 rw [if_neg (by rw [Am]; simp), Abo (by omega) (by omega), Aa, show ((b.length - 4 : Nat) : Int).toNat = b.length - 4 from rfl, Bb6 _ (by omega) (by omega), Aa]
 have hne : Cu (leU (b.drop (b.length - 4))) (Ad (Gs (b.take (b.length - 4))) : UInt64) = decide ((Gs (b.take (b.length - 4))).toNat ≠ Eg (b.drop (b.length - 4))) := by
  have hlt := (Gs (b.take (b.length - 4))).toNat_lt
  rw [Aer, Bool.eq_iff_iff]
  simp only [bne_iff_ne, ne_eq, ← UInt64.toNat_inj, decide_eq_true_eq]
  rw [Ag7 (by omega), Gy, UInt64.toNat_ofNat', Nat.mod_eq_of_lt (by omega)]
  exact ⟨fun h e => h e.symm, fun h e => h e.symm⟩
 simp only
 rw [hne, Aa]
 by_cases h3 : (Gs (b.take (b.length - 4))).toNat ≠ Eg (b.drop (b.length - 4))
 ·have hS : Ya b = 22 := by rw [Ya, if_neg h1, if_neg h2, if_pos h3]
  rw [if_pos (by simp [h3]), hS]; rfl
 ·have hS : Ya b = 0 := by rw [Ya, if_neg h1, if_neg h2, if_neg h3]
  rw [if_neg (by rw [decide_eq_false h3]; decide), hS]; rfl
theorem Bg9 (b : List UInt8) (hb : b.length ≤ 1000000) : Nv b = some (b ++ leB (Gs b).toNat 4) := by
 have h : ∀ k : Nat, (Ad (Cq (Gs b) k) : UInt8) = UInt8.ofNat ((Gs b).toNat / 2 ^ k) := by
  intro k; rw [Aoi, Ain]
 have h0 : (Ad (Gs b) : UInt8) = UInt8.ofNat (Gs b).toNat := Aoi _
 have h1 := h 8
 have h2 := h 16
 have h3 := h 24
 rw [Nv, Bjy b (by omega), Aa, Dp (by simp; omega), Aa, Dp (by simp; omega), Aa, h0, show (GI.toZ (8 : UInt64)).toNat = 8 from rfl, show (GI.toZ (16 : UInt64)).toNat = 16 from rfl, show (GI.toZ (24 : UInt64)).toNat = 24 from rfl, h1, h2, h3]
 simp only [leB, Nat.div_div_eq_div_mul, List.nil_append]
theorem Bep (b : List UInt8) : Jj b = some (Ya b) := by
 rw [Jj]
 by_cases h1 : b.length < 5
 ·rw [if_pos (by rw [Af, Ac]; simp; omega), Ya, if_pos h1]
 rw [if_neg (by rw [Af, Ac]; simp; omega)]
 by_cases h2 : 41254 < b.length
 ·rw [if_pos (by rw [Bc, Ac]; simp; omega), Ya, if_neg h1, if_pos h2]
 have e4 : Al (Ac b) 4 = ((b.length - 4 : Nat) : Int) := by rw [Ac, Bl (by omega) (by omega)]; omega
 have hd : (b.drop (b.length - 4)).length = 4 := by simp; omega
 rw [if_neg (by rw [Bc, Ac]; simp; omega), e4, Mb (by omega) (by omega), Aa, show ((b.length - 4 : Nat) : Int).toNat = b.length - 4 from rfl, Bg9 _ (by simp; omega), Aa]
 have hlt := (Gs (b.take (b.length - 4))).toNat_lt
 have hiff : (b.take (b.length - 4) ++ leB (Gs (b.take (b.length - 4))).toNat 4 != b) = decide ((Gs (b.take (b.length - 4))).toNat ≠ Eg (b.drop (b.length - 4))) := by
  rw [Bool.eq_iff_iff]
  simp only [bne_iff_ne, ne_eq, decide_eq_true_eq]
  constructor
  ·intro h e
   apply h
   have : leB (Gs (b.take (b.length - 4))).toNat 4 = b.drop (b.length - 4) := Bgt (by rw [Nt, hd]) (by rw [Ayw, Nat.mod_eq_of_lt (by omega), e])
   rw [this, List.take_append_drop]
  ·intro h e
   apply h
   have hx : leB (Gs (b.take (b.length - 4))).toNat 4 = b.drop (b.length - 4) := by
    have e2 : b.take (b.length - 4) ++ leB (Gs (b.take (b.length - 4))).toNat 4 = b.take (b.length - 4) ++ b.drop (b.length - 4) := by rw [e, List.take_append_drop]
    exact List.append_cancel_left e2
   rw [← hx, Ayw, Nat.mod_eq_of_lt (by omega)]
 rw [hiff]
 by_cases h3 : (Gs (b.take (b.length - 4))).toNat ≠ Eg (b.drop (b.length - 4))
 ·rw [if_pos (by simp [h3]), Ya, if_neg h1, if_neg h2, if_pos h3]
 ·rw [if_neg (by rw [decide_eq_false h3]; decide), Ya, if_neg h1, if_neg h2, if_neg h3]
theorem Ble {b : List UInt8} (h : Ya b = 0) : 5 ≤ b.length ∧ b.length ≤ 41254 := by
 unfold Ya at h
 split at h
 ·simp at h
 ·split at h
  ·simp at h
  ·omega
theorem Bm5 {c : Nat} (h1 : 1 ≤ c) (h6 : c ≤ 6) : Bo (4000 : Int) (c : Int) = ((4000 / c : Nat) : Int) := by
 have : c = 1 ∨ c = 2 ∨ c = 3 ∨ c = 4 ∨ c = 5 ∨ c = 6 := by omega
 rcases this with rfl | rfl | rfl | rfl | rfl | rfl <;> rfl
theorem Bm4 (p : List UInt8) (h : p.length ≤ 41250) : okB p (8 * p.length) := ⟨by omega, by omega, fun k h1 h2 => by omega⟩
theorem Asa {bits : Int} {ch n : Nat} {t : List Int32} (b : List UInt8) (hb : Dv bits) (ht : t.length = 16) (h1 : 1 ≤ ch) (h6 : ch ≤ 6) (n1 : 1 ≤ n) (n2 : n ≤ 4000 / ch) :
  ∃ l e, deframe_Decode (ch : Int) bits t (n : Int) b = some (l, e) ∧ cadenzaref21_Decode (ch : Int) bits t (n : Int) b = some (l, e) ∧ (e = 0 → cadenzaref18_Check bits l = some 0 ∧ l.length ≤ 4000 ∧ l.length = n * ch) ∧ (e ≠ 0 → l = []) := by
 have hn : n * ch ≤ 4000 := by
  have := Nat.mul_le_mul_right ch n2
  have h2 := Nat.div_mul_le_self 4000 ch
  omega
 have hq4 := Bm5 h1 h6
 generalize 4000 / ch = mm at *
 have hck : Ach (ch : Int) bits = some 0 := by
  have hr : ∃ x y, Xv bits = some (x, y, 0) := ⟨_, _, Be0 hb⟩
  obtain ⟨x, y, hr⟩ := hr
  rw [Ach, hr, Aa]
  simp only
  rw [if_neg (by simp [Am, Af, Bc]; omega)]
 have hh := Aql bits
 have hasked : Ql (ch : Int) bits (n : Int) = some 0 := by
  rw [Ql, Xh, if_neg (by simp [Af, Bc]; omega), Ati hb, Aa, if_neg (by rw [Ca]; simp; omega), Aa, if_neg (by simp [Am, Af]; omega), Bz (by rw [Am]; simp; omega), Aa, hq4, if_neg (by rw [Bc]; simp; omega)]
 rw [deframe_Decode, cadenzaref21_Decode, Pr, hck, hasked, Aa, Aa, if_neg (by rw [Am]; simp), if_neg (by rw [Af]; simp; omega), Bz (by rw [Am]; simp; omega), Aa, hq4, if_neg (by rw [Bc]; simp; omega), if_neg (by rw [Am]; simp), Bdh, Bep]
 by_cases hs : Ya b ≠ 0
 ·rw [if_pos hs]
  simp only [Aa]
  rw [if_pos (by rw [Am]; simpa using hs), if_pos (by rw [Am]; simpa using hs)]
  exact ⟨[], Ya b, rfl, rfl, fun e => absurd e hs, fun _ => rfl⟩
 have hs0 : Ya b = 0 := by simpa using hs
 have hlen := Ble hs0
 have e4 : Al (Ac b) 4 = ((b.length - 4 : Nat) : Int) := by rw [Ac, Bl (by omega) (by omega)]; omega
 rw [if_neg hs, hs0]
 simp only [Aa]
 rw [if_neg (by rw [Am]; simp), if_neg (by rw [Am]; simp), e4, Mb (by omega) (by omega), Aa, show ((b.length - 4 : Nat) : Int).toNat = b.length - 4 from rfl]
 have hpl : (b.take (b.length - 4)).length = b.length - 4 := by simp
 generalize b.take (b.length - 4) = p at *
 have e8 : Bi (8 : Int) (Ac p) = ((8 * p.length : Nat) : Int) := by rw [Ac, Hc (by omega) (by omega)]; omega
 have hp := Bm4 p (by omega)
 have hv := values_eq hp h1 h6 hn
 have hr := Bom (N := 8 * p.length) (p := p) rfl (by omega) h1 h6 hn
 have hat := Ay7 (ch := ch) (p := p) (N := 8 * p.length) (n * ch) 0 [] (by omega)
 rw [Ayz, if_neg (by rw [Bc, Ac]; simp; omega), Gl, Dp (by simp; omega), Aa, Aa, Aa, List.nil_append, e8]
 simp only
 rw [if_neg (by rw [Am]; simp), hv, hr, Aa, Aa]
 generalize Yq ch p (8 * p.length) (n * ch) 0 [] = V at *
 obtain ⟨v, at', e⟩ := V
 simp only at *
 by_cases he : e ≠ 0
 ·rw [if_pos he, if_pos he]
  simp only
  rw [if_pos (by rw [Am]; simpa using he), Jp, Gq, if_pos (by rw [Am]; simpa using he)]
  exact ⟨[], e, rfl, rfl, fun h => absurd h he, fun _ => rfl⟩
 have he0 : e = 0 := by simpa using he
 have hvl := hat.2.2 he0
 simp only [List.length_nil, Nat.zero_add] at hvl
 rw [if_neg he, if_neg he]
 simp only
 rw [if_neg (by rw [Am]; simp), Bl (by omega) (by omega), show ((8 * p.length : Nat) : Int) - (at' : Int) = ((8 * p.length - at' : Nat) : Int) by omega, Jp, Gq]
 by_cases h7 : 7 < 8 * p.length - at'
 ·have hE : (if 7 < 8 * p.length - at' ∨ Bv p at' (8 * p.length - at') ≠ 0 then (12 : Int) else 0) = 12 := if_pos (.inl h7)
  rw [if_pos (by rw [Dl]; simp; omega), hE, if_pos (by decide)]
  exact ⟨[], 12, rfl, rfl, fun h => absurd h (by decide), fun _ => rfl⟩
 rw [if_neg (by rw [Dl]; simp; omega), Arb hp at' _ (by omega), if_neg (by omega), Aa]
 have hz : Cu (Ud p at' (8 * p.length - at')) (0 : UInt64) = decide (Bv p at' (8 * p.length - at') ≠ 0) := by
  rw [Aer, Bool.eq_iff_iff]
  simp only [bne_iff_ne, ne_eq, ← UInt64.toNat_inj, decide_eq_true_eq]
  rw [Aam p _ _ (by omega)]; rfl
 simp only
 rw [hz]
 by_cases hv0 : Bv p at' (8 * p.length - at') ≠ 0
 ·have hE : (if 7 < 8 * p.length - at' ∨ Bv p at' (8 * p.length - at') ≠ 0 then (12 : Int) else 0) = 12 := if_pos (.inr hv0)
  rw [if_pos (by simp [hv0]), hE, if_pos (by decide)]
  exact ⟨[], 12, rfl, rfl, fun h => absurd h (by decide), fun _ => rfl⟩
 have hm : v.length % ch = 0 := by rw [hvl]; exact Nat.mul_mod_left n ch
 obtain ⟨l, e, g1, g2, g3, g4, g5⟩ := Ayr (v := v) hb ht h1 h6 (by omega) hm
 have hE : (if 7 < 8 * p.length - at' ∨ Bv p at' (8 * p.length - at') ≠ 0 then (12 : Int) else 0) = 0 := if_neg (by omega)
 rw [if_neg (by rw [decide_eq_false hv0]; decide), hE, if_neg (by decide), g1, g3, Aa, Aa, g2]
 by_cases hl : e ≠ 0
 ·rw [if_pos hl]
  exact ⟨[], e, rfl, rfl, fun h => absurd h hl, fun _ => rfl⟩
 ·rw [if_neg hl]
  have hl0 : e = 0 := by simpa using hl
  exact ⟨l, 0, rfl, rfl, fun _ => ⟨by rw [g4, hl0], by omega, by omega⟩, fun e => absurd rfl e⟩
end Go.Pl
set_option linter.unusedVariables false
set_option linter.unusedSimpArgs false
namespace Go.Pl
open Go Go.Lv
def P64 : Nat := 4823603603198064275
def Adm (s : Nat) : Nat := (2 * s % 18446744073709551616) ^^^ (s / 9223372036854775808 * P64)
theorem Ai8 {s : Nat} (h : s < 18446744073709551616) : Adm s < 18446744073709551616 := by
 have h1 : s / 9223372036854775808 = 0 ∨ s / 9223372036854775808 = 1 := by omega
 exact Nat.xor_lt_two_pow (n := 64) (Nat.mod_lt _ (by decide)) (by rcases h1 with e | e <;> rw [e] <;> decide)
theorem Bgh (x y : Nat) : (x ^^^ y) / 9223372036854775808 = (x / 9223372036854775808) ^^^ (y / 9223372036854775808) := by
 have := Nat.shiftRight_xor_distrib (a := x) (b := y) (i := 63)
 simpa [Nat.shiftRight_eq_div_pow] using this
theorem Bf3 (x y : Nat) : 2 * (x ^^^ y) % 18446744073709551616 = (2 * x % 18446744073709551616) ^^^ (2 * y % 18446744073709551616) := by
 have h1 := Nat.shiftLeft_xor_distrib (a := x) (b := y) (i := 1)
 have h2 := Nat.xor_mod_two_pow (a := 2 * x) (b := 2 * y) (n := 64)
 have e : 2 * (x ^^^ y) = (2 * x) ^^^ (2 * y) := by simpa [Nat.shiftLeft_eq, Nat.mul_comm] using h1
 rw [e]; exact h2
theorem Bne {a b : Nat} (ha : a = 0 ∨ a = 1) (hb : b = 0 ∨ b = 1) (p : Nat) : (a ^^^ b) * p = (a * p) ^^^ (b * p) := by
 rcases ha with rfl | rfl <;> rcases hb with rfl | rfl <;> simp
theorem Bsq (a b c d : Nat) : (a ^^^ b) ^^^ (c ^^^ d) = (a ^^^ c) ^^^ (b ^^^ d) := by
 rw [Nat.xor_assoc, Nat.xor_assoc, ← Nat.xor_assoc b c d, Nat.xor_comm b c, Nat.xor_assoc c b d]
theorem Beb {x y : Nat} (hx : x < 18446744073709551616) (hy : y < 18446744073709551616) : Adm (x ^^^ y) = Adm x ^^^ Adm y := by
 rw [Adm, Adm, Adm, Bf3, Bgh, Bne (by omega) (by omega), Bsq]
def Lq : Nat → Nat → Nat
 | 0, s => s
 | k + 1, s => Lq k (Adm s)
theorem Arc : ∀ (k : Nat) {s : Nat}, s < 18446744073709551616 → Lq k s < 18446744073709551616
 | 0, _, h => h
 | k + 1, _, h => Arc k (Ai8 h)
theorem Auv : ∀ (k : Nat) {x y : Nat}, x < 18446744073709551616 → y < 18446744073709551616 → Lq k (x ^^^ y) = Lq k x ^^^ Lq k y
 | 0, _, _, _, _ => rfl
 | k + 1, x, y, hx, hy => by rw [Lq, Beb hx hy, Auv k (Ai8 hx) (Ai8 hy)]; rfl
theorem Au9 : ∀ (k h : Nat), 2 ^ k * h < 18446744073709551616 → Lq k h = 2 ^ k * h
 | 0, h, _ => by simp [Lq]
 | k + 1, h, hl => by
  have hpos : 0 < 2 ^ k := Nat.pow_pos (by omega)
  rw [Nat.pow_succ, Nat.mul_assoc] at hl
  have h2 : 2 * h < 18446744073709551616 := Nat.lt_of_le_of_lt (Nat.le_mul_of_pos_left _ hpos) hl
  have : Adm h = 2 * h := by rw [Adm, Nat.mod_eq_of_lt h2, show h / 9223372036854775808 = 0 by omega]; simp
  rw [Lq, this, Au9 k _ hl, Nat.pow_succ, Nat.mul_assoc]
def All (s c : Nat) : Nat := Lq 8 (s ^^^ (c * 72057594037927936))
theorem c56 {c : Nat} (hc : c < 256) : c * 72057594037927936 < 18446744073709551616 := by omega
theorem Aqx {s c : Nat} (h : s < 18446744073709551616) (hc : c < 256) : All s c < 18446744073709551616 := Arc 8 (Nat.xor_lt_two_pow (n := 64) h (c56 hc))
theorem Bo3 (s : Nat) : s = (s / 72057594037927936 * 72057594037927936) ^^^ (s % 72057594037927936) := by
 have h1 : s % 72057594037927936 < 2 ^ 56 := Nat.mod_lt _ (by decide)
 have := Nat.two_pow_add_eq_or_of_lt h1 (s / 72057594037927936)
 have h2 : 2 ^ 56 * (s / 72057594037927936) ||| s % 72057594037927936 = (2 ^ 56 * (s / 72057594037927936)) ^^^ (s % 72057594037927936) := by
  apply Nat.eq_of_testBit_eq; intro i
  rw [Nat.testBit_or, Nat.testBit_xor]
  by_cases hi : i < 56
  ·have : (2 ^ 56 * (s / 72057594037927936)).testBit i = false := by rw [Nat.testBit_two_pow_mul]; simp; omega
   rw [this]; simp
  ·have : (s % 72057594037927936).testBit i = false := Nat.testBit_lt_two_pow (Nat.lt_of_lt_of_le h1 (Nat.pow_le_pow_right (by omega) (by omega)))
   rw [this]; simp
 rw [Nat.mul_comm (s / 72057594037927936)]
 show s = (2 ^ 56 * (s / 72057594037927936)) ^^^ _
 rw [← h2, ← this]
 have := Nat.div_add_mod s 72057594037927936
 show s = 72057594037927936 * _ + _
 omega
theorem Bhz (a c : Nat) : (a ^^^ c) * 72057594037927936 = (a * 72057594037927936) ^^^ (c * 72057594037927936) := by
 have h1 := Nat.shiftLeft_xor_distrib (a := a) (b := c) (i := 56)
 simpa [Nat.shiftLeft_eq] using h1
theorem Ayy {s c : Nat} (h : s < 18446744073709551616) (hc : c < 256) : All s c = (256 * s % 18446744073709551616) ^^^ Lq 8 (((s / 72057594037927936) ^^^ c) * 72057594037927936) := by
 have hs : s / 72057594037927936 < 2 ^ 8 := by show _ < 256; omega
 have hx : (s / 72057594037927936) ^^^ c < 256 := Nat.xor_lt_two_pow (n := 8) hs (by simpa using hc)
 have hl : s % 72057594037927936 < 72057594037927936 := Nat.mod_lt _ (by decide)
 rw [All]
 conv => lhs; rw [Bo3 s]
 rw [Nat.xor_comm (s / 72057594037927936 * 72057594037927936), Nat.xor_assoc, ← Bhz, Auv 8 (by omega) (c56 hx), Au9 8 _ (by show 256 * _ < _; omega)]
 congr 1
 show 256 * (s % 72057594037927936) = _
 omega
def Avo (s : Nat) (l : List UInt8) : Nat := l.foldl (fun s c => All s c.toNat) s
theorem Awv {n : Nat} (h : n < 18446744073709551616) : (UInt64.ofNat n).toNat = n := by rw [UInt64.toNat_ofNat']; exact Nat.mod_eq_of_lt h
theorem Bp3 (s : UInt64) (bit : Nat) (hb : bit = 0 ∨ bit = 1) : Ta s (bit : Int) = some (UInt64.ofNat ((2 * s.toNat % 18446744073709551616) ^^^ (((s.toNat / 9223372036854775808) ^^^ bit) * P64))) := by
 have hs := s.toNat_lt
 have ht : s.toNat / 9223372036854775808 = 0 ∨ s.toNat / 9223372036854775808 = 1 := by omega
 have e1 : (Bi s (2 : UInt64)).toNat = 2 * s.toNat % 18446744073709551616 := by
  rw [Ac5, UInt64.toNat_mul]; show s.toNat * 2 % _ = _; rw [Nat.mul_comm]
 have hlt : 2 * s.toNat % 18446744073709551616 < 18446744073709551616 := Nat.mod_lt _ (by decide)
 have ey : Wg (Bi s (2 : UInt64)) (4823603603198064275 : UInt64) = UInt64.ofNat ((2 * s.toNat % 18446744073709551616) ^^^ P64) := by
  apply UInt64.toNat_inj.1
  rw [At5, UInt64.toNat_xor, e1, Awv (Nat.xor_lt_two_pow (n := 64) hlt (by decide))]; rfl
 have en : Bi s (2 : UInt64) = UInt64.ofNat (2 * s.toNat % 18446744073709551616) := by
  apply UInt64.toNat_inj.1
  rw [e1, Awv hlt]
 have eg : Qy s (9223372036854775808 : UInt64) = decide (s.toNat / 9223372036854775808 = 1) := by
  rw [Bok, decide_eq_decide]
  show 9223372036854775808 ≤ s.toNat ↔ _
  omega
 have hp : ∀ b : Bool, Me s b = some (if b = true then UInt64.ofNat ((2 * s.toNat % 18446744073709551616) ^^^ P64) else UInt64.ofNat (2 * s.toNat % 18446744073709551616)) := by
  intro b
  rw [Me, Ac2, ey, en]; cases b <;> rfl
 rw [Ta, Ue, hp, hp, eg]
 rcases hb with rfl | rfl <;> rcases ht with h | h <;> rw [h] <;> simp [Ca]
theorem Art (c : UInt8) : ∀ (j q : Nat) (s : UInt64), j ≤ 8 → j < q → Ga c q s ((2 ^ j / 2 : Nat) : Int) = some (UInt64.ofNat (Lq j (s.toNat ^^^ (c.toNat % 2 ^ j * 2 ^ (64 - j)))))
 | 0, q + 1, s, _, _ => by
  rw [Ga, Mf, if_neg (by rw [Bc]; simp), Ua, Ac9]
  simp [Lq, Nat.mod_one]
 | j + 1, q + 1, s, hj, hq => by
  have hc := c.toNat_lt
  have hs := s.toNat_lt
  have hj2 : 2 ^ j ≤ 2 ^ 7 := Nat.pow_le_pow_right (by omega) (by omega)
  have hpos : 0 < 2 ^ j := Nat.pow_pos (by omega)
  have e1 : 2 ^ (j + 1) / 2 = 2 ^ j := by rw [Nat.pow_succ]; omega
  have e2 : Bo ((2 ^ j : Nat) : Int) 2 = ((2 ^ j / 2 : Nat) : Int) := by
   generalize 2 ^ j = K at *
   rw [Adr, Int.tdiv_eq_ediv_of_nonneg (by omega), Bw (by omega) (by omega)]; omega
  have e3 : Hz (Bo (Ad c : Int) ((2 ^ j : Nat) : Int)) (2 : Int) = ((c.toNat / 2 ^ j % 2 : Nat) : Int) := by
   have hX := Nat.div_le_self c.toNat (2 ^ j)
   rw [Abj, Adr, ← Int.ofNat_tdiv]
   generalize c.toNat / 2 ^ j = X at *
   rw [Bw (by omega) (by omega), Hz, Int.tmod_eq_emod_of_nonneg (by omega)]; omega
  have hbit : c.toNat / 2 ^ j % 2 = 0 ∨ c.toNat / 2 ^ j % 2 = 1 := by omega
  rw [Ga, Mf, e1, if_pos (by rw [Bc, decide_eq_true_eq]; omega), Bz (by rw [Am, bne_iff_ne]; omega), Aa, e3, Bp3 s _ hbit, Aa, e2, Art c j q _ (by omega) (by omega)]
  congr 2
  rw [Lq]
  congr 1
  have hx : c.toNat % 2 ^ (j + 1) * 2 ^ (64 - (j + 1)) = (c.toNat / 2 ^ j % 2) * 9223372036854775808 + c.toNat % 2 ^ j * 2 ^ (63 - j) := by
   have h63 : (9223372036854775808 : Nat) = 2 ^ j * 2 ^ (63 - j) := by rw [← Nat.pow_add, show j + (63 - j) = 63 by omega]
   rw [Nat.mod_pow_succ, h63, show 64 - (j + 1) = 63 - j by omega, Nat.add_mul, Nat.add_comm, Nat.mul_assoc, Nat.mul_left_comm]
  have hr : c.toNat % 2 ^ j < 2 ^ j := Nat.mod_lt _ hpos
  have hb63 : c.toNat % 2 ^ j * 2 ^ (63 - j) < 9223372036854775808 := by
   have h63 : (9223372036854775808 : Nat) = 2 ^ j * 2 ^ (63 - j) := by rw [← Nat.pow_add, show j + (63 - j) = 63 by omega]
   rw [h63]; exact Nat.mul_lt_mul_of_pos_right hr (Nat.pow_pos (by omega))
  have h64 : c.toNat % 2 ^ j * 2 ^ (64 - j) = 2 * (c.toNat % 2 ^ j * 2 ^ (63 - j)) := by
   rw [show 64 - j = (63 - j) + 1 by omega, Nat.pow_succ, ← Nat.mul_assoc, Nat.mul_comm]
  rw [hx, h64]
  generalize c.toNat % 2 ^ j * 2 ^ (63 - j) = R at *
  generalize c.toNat / 2 ^ j % 2 = b at *
  have ht : s.toNat / 9223372036854775808 = 0 ∨ s.toNat / 9223372036854775808 = 1 := by omega
  have hp : ((s.toNat / 9223372036854775808 ^^^ b) * P64) < 18446744073709551616 := by
   rcases ht with h | h <;> rcases hbit with h2 | h2 <;> rw [h, h2] <;> decide
  rw [Awv (Nat.xor_lt_two_pow (n := 64) (Nat.mod_lt _ (by decide)) hp), Adm, Bf3, Bgh, show (b * 9223372036854775808 + R) / 9223372036854775808 = b by omega, show 2 * (b * 9223372036854775808 + R) % 18446744073709551616 = 2 * R by omega, Nat.xor_assoc, Nat.xor_assoc, Nat.xor_comm (2 * R)]
theorem Bqj (c : UInt8) (s : UInt64) : Zf s c = some (UInt64.ofNat (All s.toNat c.toNat)) := by
 have h := Art c 8 Ba s (Nat.le_refl _) (by have := Aq; omega)
 have hc := c.toNat_lt
 rw [Nat.mod_eq_of_lt (show c.toNat < 2 ^ 8 by simpa using hc)] at h
 exact h
theorem An6 (b : List UInt8) (hb : b.length < 4611686018427387904) : ∀ (j i q : Nat) (s : UInt64), i + j = b.length → j < q → Fa b q s (i : Int) = some (UInt64.ofNat (Avo s.toNat (b.drop i)))
 | 0, i, q + 1, s, hi, _ => by
  rw [Fa, Jq, if_neg (by rw [Af, Ac]; simp; omega), show i = b.length by omega, List.drop_length]
  simp [Qh, Yu, Avo]
 | j + 1, i, q + 1, s, hi, hq => by
  have hlt : i < b.length := by omega
  have hc := b[i].toNat_lt
  rw [Fa, Jq, if_pos (by rw [Af, Ac]; simp; omega), Df hlt, Aa, Bqj, Aa, Ag (by omega) (by omega)]
  have h := An6 b hb j (i + 1) q (UInt64.ofNat (All s.toNat b[i].toNat)) (by omega) (by omega)
  rw [show ((i : Int) + 1) = ((i + 1 : Nat) : Int) by omega, h, drop_cons hlt, Awv (Aqx s.toNat_lt (by simpa using hc))]
  rfl
def Ae4 (b : List UInt8) : UInt64 := UInt64.ofNat (Avo 0 b)
theorem Bb4 (b : List UInt8) (hb : b.length ≤ 100000) : Np 0 b = some (Ae4 b) :=
 An6 b (by omega) b.length 0 Ba 0 (by omega) (by have := Aq; omega)
theorem Bdv (c : UInt64) : Wg (Dx c (GI.toZ (1 : UInt64)).toNat) (Bi (4823603603198064275 : UInt64) (Cq c (GI.toZ (63 : UInt64)).toNat)) = UInt64.ofNat (Adm c.toNat) := by
 have hc := c.toNat_lt
 apply UInt64.toNat_inj.1
 have h1 : (Dx c (GI.toZ (1 : UInt64)).toNat).toNat = 2 * c.toNat % 18446744073709551616 := by
  rw [show (GI.toZ (1 : UInt64)).toNat = 1 from rfl, Ai1, Nat.mul_comm]
 have h2 : (Bi (4823603603198064275 : UInt64) (Cq c (GI.toZ (63 : UInt64)).toNat)).toNat = c.toNat / 9223372036854775808 * P64 := by
  rw [show (GI.toZ (63 : UInt64)).toNat = 63 from rfl, Ac5, UInt64.toNat_mul, Ada]
  show 4823603603198064275 * (c.toNat / 9223372036854775808) % 18446744073709551616 = _
  have h1 : c.toNat / 9223372036854775808 = 0 ∨ c.toNat / 9223372036854775808 = 1 := by omega
  rcases h1 with e | e <;> rw [e] <;> decide
 rw [At5, UInt64.toNat_xor, h1, h2, Awv (Ai8 hc)]; rfl
theorem Aru (bk16 : Int → List UInt64 → Option (UInt64 × Int)) (s : UInt64) (b : List UInt8) (x : Int) (t : List UInt64) : ∀ (j i q : Nat) (c : UInt64), i + j = 8 → j < q →
  Oo bk16 s b x t q c (i : Int) = Zx bk16 s b x (UInt64.ofNat (Lq j c.toNat)) t
 | 0, i, q + 1, c, hi, _ => by
  obtain rfl : i = 8 := by omega
  rw [Oo, Aap, if_neg (by rw [Af]; simp), Lq, UInt64.ofNat_toNat]
 | j + 1, i, q + 1, c, hi, hq => by
  rw [Oo, Aap, if_pos (by rw [Af]; simp; omega), Bdv, Ag (by omega) (by omega), show ((i : Int) + 1) = ((i + 1 : Nat) : Int) by omega, Aru bk16 s b x t j (i + 1) q _ (by omega) (by omega), Awv (Ai8 c.toNat_lt)]; rfl
def Agy (n : Nat) : List UInt64 := (List.range n).map fun i => UInt64.ofNat (Lq 8 (i * 72057594037927936))
theorem Av3 (s : UInt64) (b : List UInt8) : ∀ (j i q : Nat), i + j = 256 → j < q → Kk s b q (i : Int) (Agy i ++ List.replicate j 0) = Zb s b (Agy 256)
 | 0, i, q + 1, hi, _ => by
  obtain rfl : i = 256 := by omega
  rw [Kk, Zh, if_neg (by rw [Af]; simp)]; simp
 | j + 1, i, q + 1, hi, hq => by
  have hlen : (Agy i ++ List.replicate (j + 1) 0).length = i + (j + 1) := by simp [Agy]
  rw [Kk, Zh, if_pos (by rw [Af]; simp; omega), Aga]
  have h := Aru (Kk s b q) s b (i : Int) (Agy i ++ List.replicate (j + 1) 0) 8 0 Ba (Dx (Ad (i : Int) : UInt64) (GI.toZ (56 : UInt64)).toNat) (by omega) (by have := Aq; omega)
  rw [show ((0 : Int)) = ((0 : Nat) : Int) from rfl, h, Zx, Af1, Df (by rw [hlen]; omega), Aa, Vp _ (by rw [hlen]; omega), Aa, Afj, Al1, Ag (by omega) (by omega)]
  have e : (Dx (Ad (i : Int) : UInt64) (GI.toZ (56 : UInt64)).toNat).toNat = i * 72057594037927936 := by
   rw [Ai1, Yb, Awv (by omega)]
   show i * 72057594037927936 % 18446744073709551616 = _
   omega
  rw [e, List.replicate_succ, Am3 (by simp [Agy])]
  have h2 := Av3 s b j (i + 1) q (by omega) (by omega)
  have h3 : Agy (i + 1) = Agy i ++ [UInt64.ofNat (Lq 8 (i * 72057594037927936))] := by simp [Agy, List.range_succ]
  rw [h3] at h2
  rw [show ((i : Int) + 1) = ((i + 1 : Nat) : Int) by omega, ← h2]
  simp
theorem Bg8 {i : Nat} (h : i < 256) : getI (Agy 256) (i : Int) = some (UInt64.ofNat (Lq 8 (i * 72057594037927936))) := by
 rw [Df (by simpa [Agy] using h)]; simp [Agy]
theorem Bcz (s : UInt64) (c : UInt8) : getI (Agy 256) (GI.toZ (Wg (Ad (Cq s (GI.toZ (56 : UInt64)).toNat) : UInt8) c)) = some (UInt64.ofNat (Lq 8 (((s.toNat / 72057594037927936) ^^^ c.toNat) * 72057594037927936))) := by
 have hs := s.toNat_lt
 have e : GI.toZ (Wg (Ad (Cq s (GI.toZ (56 : UInt64)).toNat) : UInt8) c) = (((s.toNat / 72057594037927936) ^^^ c.toNat : Nat) : Int) := by
  have e2 : ((Ad (Cq s (GI.toZ (56 : UInt64)).toNat) : UInt8)).toNat = s.toNat / 72057594037927936 := by
   rw [Aji, UInt8.toNat_ofNat', Ada]
   show s.toNat / 72057594037927936 % 256 = _
   omega
  rw [Xd, Bgz, UInt8.toNat_xor, e2]
 rw [e, Bg8]
 exact Nat.xor_lt_two_pow (n := 8) (by show _ < 256; omega) (by simpa using c.toNat_lt)
theorem Ayn (s : UInt64) (c : UInt8) : Wg (Dx s (GI.toZ (8 : UInt64)).toNat) (UInt64.ofNat (Lq 8 (((s.toNat / 72057594037927936) ^^^ c.toNat) * 72057594037927936))) = UInt64.ofNat (All s.toNat c.toNat) := by
 have hs := s.toNat_lt
 have hc : c.toNat < 256 := by simpa using c.toNat_lt
 apply UInt64.toNat_inj.1
 have hlt : Lq 8 (((s.toNat / 72057594037927936) ^^^ c.toNat) * 72057594037927936) < 18446744073709551616 := Arc 8 (c56 (Nat.xor_lt_two_pow (n := 8) (by show _ < 256; omega) (by simpa using c.toNat_lt)))
 have e : (GI.toZ (8 : UInt64)).toNat = 8 := rfl
 rw [e, At5, UInt64.toNat_xor, Ai1, Awv hlt, Awv (Aqx hs hc), Ayy hs hc, Nat.mul_comm s.toNat]
theorem Ar7 (b : List UInt8) (s0 : UInt64) (hb : b.length < 4611686018427387904) : ∀ (j i q : Nat) (s : UInt64), i + j = b.length → j < q → Pg b s0 (Agy 256) q s (i : Int) = some (UInt64.ofNat (Avo s.toNat (b.drop i)), 0)
 | 0, i, q + 1, s, hi, _ => by
  rw [Pg, Zu, if_neg (by rw [Af, Ac]; simp; omega), show i = b.length by omega, List.drop_length]
  simp [Ae7, Af6, Agl, Amp, Avo]
 | j + 1, i, q + 1, s, hi, hq => by
  have hlt : i < b.length := by omega
  have hc := b[i].toNat_lt
  rw [Pg, Zu, if_pos (by rw [Af, Ac]; simp; omega), Df hlt, Aa, Bcz, Aa, Aa, Ayn, Ag (by omega) (by omega)]
  have h := Ar7 b s0 hb j (i + 1) q (UInt64.ofNat (All s.toNat b[i].toNat)) (by omega) (by omega)
  rw [show ((i : Int) + 1) = ((i + 1 : Nat) : Int) by omega, h, drop_cons hlt, Awv (Aqx s.toNat_lt (by simpa using hc))]
  rfl
theorem Bau (b : List UInt8) (hb : b.length ≤ 100000) : Ai2 b = some (Ae4 b, 0) := by
 have h := Av3 0 b 256 0 Ba (by omega) (by have := Aq; omega)
 have h2 := Ar7 b 0 (by omega) b.length 0 Ba 0 (by omega) (by have := Aq; omega)
 have hn : Aj5 0 b = some (Ae4 b, 0) := by
  rw [Aj5, Ahx, if_neg (by rw [Bc, Ac]; simp; omega), Agp]
  refine Eq.trans h ?_
  rw [Zb, Afd, Ae8]
  exact h2
 rw [Ai2, hn, Aa]
theorem Bil (p : List UInt8) (hp : p.length ≤ 64) : Aen p = some (leB (Ae4 p).toNat 8, 0) := by
 rw [Aen, Aqt, if_neg (by rw [Bc, Ac]; simp; omega), Bau p (by omega), Aa, Aa]
 simp only
 have h := Bdg (Ae4 p) 8 (by omega) (by omega) (by simpa using (Ae4 p).toNat_lt)
 rw [if_neg (by rw [Am]; simp)]
 exact congrArg (fun o => Option.bind o fun x : List UInt8 × Int => some (x.1, x.2)) h
theorem Bhk (p : List UInt8) (hp : p.length ≤ 64) : Mj p = some (leB (Ae4 p).toNat 8) := by
 have h := Avv (Ae4 p) 8 (by omega)
 rw [Mj, Zs, Bb4 p (by omega), Aa, Aa]
 exact congrArg (fun o => Option.bind o fun l => some l) h
def s8 (n : Nat) : Int32 := Int32.ofInt (if n < 128 then (n : Int) else (n : Int) - 256)
def Aha (d : UInt64) (n : Nat) : List Int32 := (List.range n).map fun i => s8 (d.toNat / 256 ^ i % 256)
theorem Aib (d : UInt64) (n : Nat) : (Aha d n).length = n := by simp [Aha]
theorem At4 (d : UInt64) (n : Nat) : Aha d (n + 1) = Aha d n ++ [s8 (d.toNat / 256 ^ n % 256)] := by simp [Aha, List.range_succ]
theorem bm8 (z : Nat) : (z : Int).bmod Int8.size = if z % 256 < 128 then ((z % 256 : Nat) : Int) else ((z % 256 : Nat) : Int) - 256 := by
 rw [show Int8.size = 256 from rfl, Int.bmod_def]
 split <;> split <;> omega
theorem Bfm (d : UInt64) : ∀ (j i q : Nat), i + j = 8 → j < q → Abk d q (i : Int) (Aha d i ++ List.replicate (16 - i) 0) = some (Aha d 8 ++ List.replicate 8 0)
 | 0, i, q + 1, hi, _ => by
  obtain rfl : i = 8 := by omega
  rw [Abk, Ako, if_neg (by rw [Af]; simp)]; rfl
 | j + 1, i, q + 1, hi, hq => by
  have hlen : (Aha d i ++ List.replicate (16 - i) 0).length = 16 := by simp [Aib]; omega
  have ih := Bfm d j (i + 1) q (by omega) (by omega)
  have e8 : Bi (8 : Int) (i : Int) = ((8 * i : Nat) : Int) := by rw [Hc (by omega) (by omega)]; omega
  have ev : (Ad (Ad (Cq d (GI.toZ (((8 * i : Nat) : Int))).toNat) : Int8) : Int32) = s8 (d.toNat / 256 ^ i % 256) := by
   have e1 : (Cq d (GI.toZ (((8 * i : Nat) : Int))).toNat).toNat = d.toNat / 256 ^ i := by
    rw [show (GI.toZ (((8 * i : Nat) : Int))).toNat = 8 * i from rfl, Ada, Nat.pow_mul]
   show Int32.ofInt (Int8.ofInt ((Cq d (GI.toZ (((8 * i : Nat) : Int))).toNat).toNat : Int)).toInt = _
   rw [e1, s8, Int8.toInt_ofInt, bm8]
  rw [Abk, Ako, if_pos (by rw [Af]; simp; omega), e8, Bz (by rw [Dl]; simp; omega), Aa, ev, Df (by omega), Aa, Vp _ (by omega), Aa, Ag (by omega) (by omega), show 16 - i = (15 - i) + 1 by omega, List.replicate_succ, Am3 (Aib d i)]
  rw [At4, show 16 - (i + 1) = 15 - i by omega, List.append_assoc] at ih
  exact ih
theorem Bk3 (d : UInt64) : ∀ (j i q : Nat) (e : UInt64), i + j = 8 → j < q → e.toNat = d.toNat / 256 ^ i → Fz q e (i : Int) (Aha d i ++ List.replicate (16 - i) 0) = some (Aha d 8 ++ List.replicate 8 0)
 | 0, i, q + 1, e, hi, _, he => by
  obtain rfl : i = 8 := by omega
  rw [Fz, Qe, if_neg (by rw [Af]; simp)]; rfl
 | j + 1, i, q + 1, e, hi, hq, he => by
  have hlen : (Aha d i ++ List.replicate (16 - i) 0).length = 16 := by simp [Aib]; omega
  have hq2 : (Bo e (256 : UInt64)).toNat = d.toNat / 256 ^ (i + 1) := by
   rw [Ap5, UInt64.toNat_div, he, Nat.pow_succ, ← Nat.div_div_eq_div_mul]; rfl
  have ih := Bk3 d j (i + 1) q (Bo e (256 : UInt64)) (by omega) (by omega) hq2
  have ev : (Ad (Yp e (256 : UInt64)) : Int32) = Int32.ofInt ((d.toNat / 256 ^ i % 256 : Nat) : Int) := by
   show Int32.ofInt ((Yp e (256 : UInt64)).toNat : Int) = _
   rw [Bcs, UInt64.toNat_mod, he]; rfl
  have hz : d.toNat / 256 ^ i % 256 < 256 := Nat.mod_lt _ (by omega)
  have et : (Int32.ofInt ((d.toNat / 256 ^ i % 256 : Nat) : Int)).toInt = ((d.toNat / 256 ^ i % 256 : Nat) : Int) := by
   rw [Int32.toInt_ofInt, Int.bmod_eq_of_le (by show -(4294967296 / 2 : Int) ≤ _; omega) (by show _ < (4294967296 + 1) / 2; omega)]
  have hp8 : ∀ x : Int32, x = s8 (d.toNat / 256 ^ i % 256) → Pz (Fz q) e (i : Int) (Aha d i ++ List.replicate (16 - i) 0) x = some (Aha d 8 ++ List.replicate 8 0) := by
   intro x hx
   rw [Pz, Af2, hx, Df (by omega), Aa, Vp _ (by omega), Aa, Ag (by omega) (by omega), show 16 - i = (15 - i) + 1 by omega, List.replicate_succ, Am3 (Aib d i)]
   rw [At4, show 16 - (i + 1) = 15 - i by omega, List.append_assoc] at ih
   exact ih
  rw [Fz, Qe, if_pos (by rw [Af]; simp; omega), ev, Bea, et, show (127 : Int32).toInt = 127 from rfl]
  by_cases h : d.toNat / 256 ^ i % 256 < 128
  ·rw [if_neg (by simp only [decide_eq_true_eq]; omega)]
   exact hp8 _ (by rw [s8, if_pos h])
  ·rw [if_pos (by simp only [decide_eq_true_eq]; omega)]
   refine hp8 _ ?_
   rw [s8, if_neg h, Awd, Int32.ofInt_sub]; rfl
def tapsOf (p : List UInt8) : List Int32 := Aha (Ae4 p) 8 ++ List.replicate 8 0
theorem Avi (p : List UInt8) : (tapsOf p).length = 16 := by simp [tapsOf, Aib]
theorem Bh2 (p : List UInt8) (hp : p.length ≤ 64) : Ang p = some (tapsOf p, 0) := by
 have h := Bfm (Ae4 p) 8 0 Ba (by omega) (by have := Aq; omega)
 have h2 : Ays (Ae4 p) = some (tapsOf p) := h
 rw [Ang, if_neg (by rw [Bc, Ac]; simp; omega), Bau p (by omega), Aa]
 simp only
 rw [if_neg (by rw [Am]; simp), h2, Aa]
theorem Bb1 (p : List UInt8) (hp : p.length ≤ 64) : Mn p = some (tapsOf p, 0) := by
 have h := Bk3 (Ae4 p) 8 0 Ba (Ae4 p) (by omega) (by have := Aq; omega) (by simp)
 have h2 : Ads (Ae4 p) = some (tapsOf p) := h
 rw [Mn, if_neg (by rw [Bc, Ac]; simp; omega), Aby, Zi, if_neg (by rw [Bc, Ac]; simp; omega), Bb4 p (by omega), Aa, Aa, Aa]
 simp only
 rw [h2, Aa]
end Go.Pl
set_option linter.unusedVariables false
set_option linter.unusedSimpArgs false
namespace Go.Pl
open Go Go.Lv
def u8 (z : Int) : UInt8 := UInt8.ofNat (z % 256).toNat
theorem Az6 (z : Int) : u8 (z % 256) = u8 z := by rw [u8, u8]; congr 2; omega
def wB (bits : Int) : Nat := if bits = 8 then 1 else if bits = 16 then 2 else 3
theorem Aq4 {bits : Int} (h : Dv bits) : Bo bits 8 = (wB bits : Int) := by obtain rfl | rfl | rfl := h <;> rfl
theorem Aug (bits : Int) : 1 ≤ wB bits ∧ wB bits ≤ 3 := by
 unfold wB; split; · omega
 ·split <;> omega
def Anl (bits : Int) (x : Int) : List UInt8 := if bits = 8 then [u8 (x + 128)] else if bits = 16 then [u8 x, u8 (x / 256)] else [u8 x, u8 (x / 256), u8 (x / 65536)]
theorem Bcu (bits x : Int) : (Anl bits x).length ≤ 3 := by
 unfold Anl; split; · simp
 ·split <;> simp
theorem Bl1 (x : Int32) (k : Nat) (hk : k ≤ 32) : (Ad (Cq x k) : UInt8) = u8 (x.toInt.fdiv (2 ^ k)) := by
 have h := Ys x
 have e : Cq x k = Int32.ofInt (x.toInt.fdiv (2 ^ k)) := by
  show Int32.ofInt (x.toInt.fdiv (2 ^ min k 32)) = _
  rw [Nat.min_eq_left hk]
 have hb : -2147483648 ≤ x.toInt.fdiv (2 ^ k) ∧ x.toInt.fdiv (2 ^ k) < 2147483648 := by
  have hpos : (0 : Int) < 2 ^ k := Int.pow_pos (by omega)
  rw [Int.fdiv_eq_ediv_of_nonneg _ (by omega)]
  constructor
  ·refine (Int.le_ediv_iff_mul_le hpos).2 ?_
   have : (1 : Int) ≤ 2 ^ k := by omega
   have h2 : -2147483648 * (2 ^ k : Int) ≤ -2147483648 * 1 := Int.mul_le_mul_of_nonpos_left (by omega) this
   omega
  ·refine Int.ediv_lt_of_lt_mul hpos ?_
   have : (1 : Int) ≤ 2 ^ k := by omega
   have h2 : (2147483648 : Int) * 1 ≤ 2147483648 * 2 ^ k := Int.mul_le_mul_of_nonneg_left this (by omega)
   omega
 show UInt8.ofNat ((Cq x k).toInt % 256).toNat = _
 rw [e, Int32.toInt_ofInt, Int.bmod_eq_of_le (by show -(4294967296 / 2 : Int) ≤ _; omega) (by show _ < (4294967296 + 1) / 2; omega)]; rfl
section
variable (bk : Int → List UInt8 → Option (List UInt8 × Int)) (l : List Int32)
theorem As1 {bits : Int} (h : Dv bits) (c : Int32) (x : Int) (i q : Nat) (acc : List UInt8) (hi : i < wB bits) (ha : acc.length ≤ 100000) :
  Ha bk bits l c x (q + 1) (i : Int) acc = Ha bk bits l c x q ((i + 1 : Nat) : Int) (acc ++ [u8 (c.toInt.fdiv (2 ^ (8 * i)))]) := by
 have hw := Aug bits
 have e8 : Bi (8 : Int) (i : Int) = ((8 * i : Nat) : Int) := by rw [Hc (by omega) (by omega)]; omega
 rw [Ha, Wt, Aq4 h, if_pos (by rw [Af]; simp; omega), e8, Bz (by rw [Dl]; simp; omega), Aa, show (GI.toZ (((8 * i : Nat) : Int))).toNat = 8 * i from rfl, Bl1 _ _ (by omega), Dp (by simp; omega), Aa, Ag (by omega) (by omega)]; rfl
theorem Bew {bits : Int} (h : Dv bits) (c : Int32) (x : Int) (q : Nat) (acc : List UInt8) : Ha bk bits l c x (q + 1) ((wB bits : Nat) : Int) acc = bk (Ae x 1) acc := by
 rw [Ha, Wt, Aq4 h, if_neg (by rw [Af]; simp), Adt, Akx]
theorem Bp0 {bits : Int} (h : Dv bits) (c : Int32) (x : Int) (acc : List UInt8) (ha : acc.length ≤ 90000) (hr : -(hB bits) ≤ c.toInt ∧ c.toInt < hB bits) :
  Jd bk bits l x acc (if bits = 8 then Ae c (128 : Int32) else c) = bk (Ae x 1) (acc ++ Anl bits c.toInt) := by
 have e : Ba = (Ba - 4) + 1 + 1 + 1 + 1 := by have := Aq; omega
 have hc := Ys c
 rw [Jd, Adp, Adz, e]
 have g0 := fun (c : Int32) q acc ha => As1 bk l h c x 0 q acc (by have := Aug bits; omega) ha
 obtain rfl | rfl | rfl := h
 ·have hh : hB 8 = 128 := rfl
  rw [hh] at hr
  have e1 : (Ae c (128 : Int32)).toInt = c.toInt + 128 := by
   show (Int32.ofInt (c.toInt + (128 : Int32).toInt)).toInt = _
   rw [show (128 : Int32).toInt = 128 from rfl, Int32.toInt_ofInt, Int.bmod_eq_of_le (by show -(4294967296 / 2 : Int) ≤ _; omega) (by show _ < (4294967296 + 1) / 2; omega)]
  have g1 := Bew bk l (bits := 8) (.inl rfl) (Ae c (128 : Int32)) x (Ba - 4 + 1 + 1)
  rw [if_pos rfl, show (0 : Int) = ((0 : Nat) : Int) from rfl, g0 _ _ _ (by omega)]
  refine Eq.trans (g1 _) ?_
  rw [e1, Anl, if_pos rfl]
  show bk _ (acc ++ [u8 ((c.toInt + 128).fdiv 1)]) = _
  rw [Int.fdiv_one]
 ·have g1 := fun q acc ha => As1 bk l (bits := 16) (.inr (.inl rfl)) c x 1 q acc (by decide) ha
  have g2 := Bew bk l (bits := 16) (.inr (.inl rfl)) c x (Ba - 4 + 1)
  rw [if_neg (by decide), show (0 : Int) = ((0 : Nat) : Int) from rfl, g0 _ _ _ (by omega), g1 _ _ (by simp; omega)]
  refine Eq.trans (g2 _) ?_
  rw [Anl, if_neg (by decide), if_pos rfl, List.append_assoc]
  show bk _ (acc ++ [u8 (c.toInt.fdiv 1), u8 (c.toInt.fdiv 256)]) = _
  rw [Int.fdiv_one, Int.fdiv_eq_ediv_of_nonneg _ (by omega)]
 ·have g1 := fun q acc ha => As1 bk l (bits := 24) (.inr (.inr rfl)) c x 1 q acc (by decide) ha
  have g2 := fun q acc ha => As1 bk l (bits := 24) (.inr (.inr rfl)) c x 2 q acc (by decide) ha
  have g3 := Bew bk l (bits := 24) (.inr (.inr rfl)) c x (Ba - 4)
  rw [if_neg (by decide), show (0 : Int) = ((0 : Nat) : Int) from rfl, g0 _ _ _ (by omega), g1 _ _ (by simp; omega), g2 _ _ (by simp; omega)]
  refine Eq.trans (g3 _) ?_
  rw [Anl, if_neg (by decide), if_neg (by decide), List.append_assoc, List.append_assoc]
  show bk _ (acc ++ [u8 (c.toInt.fdiv 1), u8 (c.toInt.fdiv 256), u8 (c.toInt.fdiv 65536)]) = _
  rw [Int.fdiv_one, Int.fdiv_eq_ediv_of_nonneg _ (by omega), Int.fdiv_eq_ediv_of_nonneg _ (by omega)]
end
def bytesB (bits : Int) (l : List Int32) : List UInt8 := l.flatMap fun x => Anl bits x.toInt
theorem Ake (bits : Int) : ∀ l : List Int32, (bytesB bits l).length ≤ 3 * l.length
 | [] => by simp [bytesB]
 | x :: l => by
  have h1 := Ake bits l
  have h2 := Bcu bits x.toInt
  simp only [bytesB, List.flatMap_cons, List.length_append, List.length_cons] at *
  omega
def inR (bits : Int) (l : List Int32) : Prop := ∀ x ∈ l, -(hB bits) ≤ x.toInt ∧ x.toInt < hB bits
theorem Bfy {bits : Int} (h : Dv bits) (l : List Int32) (hl : l.length ≤ 4000) (hr : inR bits l) : ∀ (j i q : Nat), i + j = l.length → j < q → Eu bits l q (i : Int) (bytesB bits (l.take i)) = some (bytesB bits l, 0)
 | 0, i, q + 1, hi, _ => by
  rw [Eu, Wy, if_neg (by rw [Af, Ac]; simp; omega), List.take_of_length_le (by omega)]; rfl
 | j + 1, i, q + 1, hi, hq => by
  have hlt : i < l.length := by omega
  have ih := Bfy h l hl hr j (i + 1) q (by omega) (by omega)
  have hlen := Ake bits (l.take i)
  have hx := hr l[i] (List.getElem_mem _)
  have h1 := Bp0 (Eu bits l q) l h l[i] (i : Int) (bytesB bits (l.take i)) (by rw [List.length_take] at hlen; omega) hx
  rw [Eu, Wy, if_pos (by rw [Af, Ac]; simp; omega), Df hlt, Aa]
  have e : (if (geq bits (8 : Int)) = true then Jd (Eu bits l q) bits l (i : Int) (bytesB bits (l.take i)) (Ae l[i] (128 : Int32)) else Jd (Eu bits l q) bits l (i : Int) (bytesB bits (l.take i)) l[i]) = Jd (Eu bits l q) bits l (i : Int) (bytesB bits (l.take i)) (if bits = 8 then Ae l[i] (128 : Int32) else l[i]) := by
   by_cases h8 : bits = 8
   ·rw [if_pos (by rw [Ca]; simpa using h8), if_pos h8]
   ·rw [if_neg (by rw [Ca]; simpa using h8), if_neg h8]
  rw [e, h1, Ag (by omega) (by omega)]
  rw [Aij hlt] at ih
  have e2 : bytesB bits (l.take i ++ [l[i]]) = bytesB bits (l.take i) ++ Anl bits l[i].toInt := by unfold bytesB; rw [List.flatMap_append, List.flatMap_singleton]
  rw [e2] at ih
  exact ih
theorem Ax4 {bits : Int} (h : Dv bits) {l : List Int32} (hl : l.length ≤ 4000) (hc : cadenzaref18_Check bits l = some 0) : inR bits l := by
 have hh := Aql bits
 have key : ∀ (j i q : Nat), i + j = l.length → j < q → Bm l (hB bits) q (i : Int) = some 0 → ∀ k, i ≤ k → (hk : k < l.length) → -(hB bits) ≤ l[k].toInt ∧ l[k].toInt < hB bits := by
  intro j
  induction j with
  | zero => intro i q hi hq _ k h1 h2; omega
  | succ j ih =>
   intro i q hi hq hs k h1 h2
   obtain ⟨q, rfl⟩ : ∃ k, q = k + 1 := ⟨q - 1, by omega⟩
   rw [Bm, Eb, if_pos (by rw [Af, Ac]; simp; omega), Df (by omega), Aa, Aa, El, Beu, Bw (by omega) (by omega), Ag (by omega) (by omega), Af, Dl] at hs
   by_cases g1 : l[i].toInt < 0 - hB bits
   ·rw [if_pos (by simpa using g1)] at hs; simp at hs
   ·rw [if_neg (by simpa using g1)] at hs
    by_cases g2 : hB bits ≤ l[i].toInt
    ·rw [if_pos (by simpa using g2)] at hs; simp at hs
    ·rw [if_neg (by simpa using g2)] at hs
     by_cases hk : k = i
     ·subst hk; omega
     ·exact ih (i + 1) q (by omega) (by omega) hs k (by omega) h2
 rw [cadenzaref18_Check, Hm, Ati h, Aa, if_neg (by rw [Ca]; simp; omega), if_neg (by rw [Bc, Ac]; simp; omega)] at hc
 have := key l.length 0 Ba (by omega) (by have := Aq; omega) hc
 intro x hx
 obtain ⟨k, hk, rfl⟩ := List.getElem_of_mem hx
 exact this k (by omega) hk
theorem Awi {bits : Int} (h : Dv bits) {l : List Int32} (hl : l.length ≤ 4000) (hc : cadenzaref18_Check bits l = some 0) : width_Bytes bits l = some (bytesB bits l, 0) := by
 have h1 := Bfy h l hl (Ax4 h hl hc) l.length 0 Ba (by omega) (by have := Aq; omega)
 rw [width_Bytes, Afc, At7 h l hl, hc, Aa, if_neg (by rw [Am]; simp)]
 exact h1
theorem Bnf {bits : Int} (h : Dv bits) (x : Int32) (hr : -(hB bits) ≤ x.toInt ∧ x.toInt < hB bits) : Vh bits x = some (Anl bits x.toInt) := by
 have hx := Ys x
 have gu : ∀ z : Int, (Ad z : UInt8) = u8 z := fun z => rfl
 have hq : ∀ n : Int, 0 ≤ n → n ≤ 20000000 → Bo n (256 : Int) = n / 256 ∧ Bo n (65536 : Int) = n / 65536 := by
  intro n h1 h2
  constructor <;> (rw [Adr, Int.tdiv_eq_ediv_of_nonneg h1, Bw (by omega) (by omega)])
 have hm : ∀ n : Int, 0 ≤ n → Hz n (256 : Int) = n % 256 := fun n h1 => by rw [Hz, Int.tmod_eq_emod_of_nonneg h1]
 rw [Vh, Vq, El]
 obtain rfl | rfl | rfl := h
 ·rw [if_pos (by rw [Ca]; rfl), Ag (by omega) (by omega), gu, Anl, if_pos rfl]
 ·have hh : hB 16 = 32768 := rfl
  rw [hh] at hr
  have hp : ∀ n : Int, 0 ≤ n → n ≤ 70000 → u8 n = u8 x.toInt → u8 (n / 256) = u8 (x.toInt / 256) → Gx 16 n = some (Anl 16 x.toInt) := by
   intro n h1 h2 h3 h4
   rw [Gx, Vu, if_neg (by rw [Ca]; decide), hm n h1, (hq n h1 (by omega)).1, hm _ (by omega), gu, gu, Az6, Az6, h3, h4, Anl, if_neg (by decide), if_pos rfl]
  rw [if_neg (by rw [Ca]; decide)]
  by_cases hn : x.toInt < 0
  ·rw [if_pos (by rw [Af]; simpa using hn), Ati (.inr (.inl rfl)), Aa, hh, Hc (by omega) (by omega), Ag (by omega) (by omega)]
   refine hp _ (by omega) (by omega) ?_ ?_
   ·rw [u8, u8]; congr 2; omega
   ·rw [u8, u8]; congr 2; omega
  ·rw [if_neg (by rw [Af]; simpa using hn)]
   exact hp _ (by omega) (by omega) rfl rfl
 ·have hh : hB 24 = 8388608 := rfl
  rw [hh] at hr
  have hp : ∀ n : Int, 0 ≤ n → n ≤ 16777215 → u8 n = u8 x.toInt → u8 (n / 256) = u8 (x.toInt / 256) → u8 (n / 65536) = u8 (x.toInt / 65536) → Gx 24 n = some (Anl 24 x.toInt) := by
   intro n h1 h2 h3 h4 h5
   rw [Gx, Vu, if_pos (by rw [Ca]; rfl), hm n h1, (hq n h1 (by omega)).1, (hq n h1 (by omega)).2, hm _ (by omega), gu, gu, gu, Az6, Az6, h3, h4, h5, Dp (by simp), Aa, Anl, if_neg (by decide), if_neg (by decide)]; rfl
  rw [if_neg (by rw [Ca]; decide)]
  by_cases hn : x.toInt < 0
  ·rw [if_pos (by rw [Af]; simpa using hn), Ati (.inr (.inr rfl)), Aa, hh, Hc (by omega) (by omega), Ag (by omega) (by omega)]
   refine hp _ (by omega) (by omega) ?_ ?_ ?_
   ·rw [u8, u8]; congr 2; omega
   ·rw [u8, u8]; congr 2; omega
   ·rw [u8, u8]; congr 2; omega
  ·rw [if_neg (by rw [Af]; simpa using hn)]
   exact hp _ (by omega) (by omega) rfl rfl rfl
theorem Bgb {bits : Int} (h : Dv bits) (l : List Int32) (hl : l.length ≤ 4000) (hr : inR bits l) : ∀ (j i q : Nat), i + j = l.length → j < q → Fi bits l q (i : Int) (bytesB bits (l.take i)) = some (bytesB bits l, 0)
 | 0, i, q + 1, hi, _ => by
  rw [Fi, Lj, if_neg (by rw [Af, Ac]; simp; omega), List.take_of_length_le (by omega)]; rfl
 | j + 1, i, q + 1, hi, hq => by
  have hlt : i < l.length := by omega
  have ih := Bgb h l hl hr j (i + 1) q (by omega) (by omega)
  have hlen := Ake bits (l.take i)
  have hol := Bcu bits l[i].toInt
  rw [List.length_take] at hlen
  have e2 : bytesB bits (l.take i ++ [l[i]]) = bytesB bits (l.take i) ++ Anl bits l[i].toInt := by unfold bytesB; rw [List.flatMap_append, List.flatMap_singleton]
  rw [Aij hlt, e2] at ih
  rw [Fi, Lj, if_pos (by rw [Af, Ac]; simp; omega), Df hlt, Aa, Bnf h _ (hr l[i] (List.getElem_mem _)), Aa, Dp (by omega), Aa, Ag (by omega) (by omega)]
  exact ih
theorem Ax5 {bits : Int} (h : Dv bits) {l : List Int32} (hl : l.length ≤ 4000) (hc : cadenzaref18_Check bits l = some 0) : Qq bits l = some (bytesB bits l, 0) := by
 have h1 := Bgb h l hl (Ax4 h hl hc) l.length 0 Ba (by omega) (by have := Aq; omega)
 rw [Qq, Rn, hc, Aa, if_neg (by rw [Am]; simp)]
 exact h1
end Go.Pl
set_option linter.unusedVariables false
set_option linter.unusedSimpArgs false
namespace Go.Pl
open Go Go.Lv
def Aiy : List UInt8 → Nat → Int × Int
 | [], n => ((n : Int), 0)
 | c :: r, n => if 128 ≤ c.toNat then (0, 12) else Aiy r (128 * n + c.toNat)
theorem Bg1 : ∀ (l : List UInt8) (n k : Nat), n < 128 ^ k → 0 ≤ (Aiy l n).1 ∧ (Aiy l n).1 < ((128 ^ (k + l.length) : Nat) : Int)
 | [], n, k, h => by simp [Aiy]; exact_mod_cast h
 | c :: r, n, k, h => by
  rw [Aiy]
  split
  ·have : 0 < 128 ^ (k + (c :: r).length) := Nat.pow_pos (by omega)
   exact ⟨Int.le_refl _, by simp only; exact_mod_cast this⟩
  ·have := Bg1 r (128 * n + c.toNat) (k + 1) (by rw [Nat.pow_succ]; omega)
   rw [List.length_cons, show k + (r.length + 1) = k + 1 + r.length by omega]
   exact this
theorem or7 (n c : Nat) (hn : n < 268435456) (hc : c < 128) : gor (Dx (n : Int) (GI.toZ (7 : UInt64)).toNat) (c : Int) = ((128 * n + c : Nat) : Int) := by
 have e : (GI.toZ (7 : UInt64)).toNat = 7 := rfl
 have h1 : Dx (n : Int) 7 = ((2 ^ 7 * n : Nat) : Int) := by
  have : Dx (n : Int) 7 = wrap64 ((n : Int) * 2 ^ 7) := rfl
  rw [this, Bw (by omega) (by omega)]; omega
 rw [e, h1]
 have h2 : gor ((2 ^ 7 * n : Nat) : Int) (c : Int) = wrap64 ((BitVec.ofInt 64 ((2 ^ 7 * n : Nat) : Int) ||| BitVec.ofInt 64 (c : Int)).toNat : Int) := rfl
 rw [h2, BitVec.toNat_or, BitVec.toNat_ofInt, BitVec.toNat_ofInt]
 have h3 : (((2 ^ 7 * n : Nat) : Int) % ((2 ^ 64 : Nat) : Int)).toNat = 2 ^ 7 * n := by omega
 have h4 : ((c : Int) % ((2 ^ 64 : Nat) : Int)).toNat = c := by omega
 rw [h3, h4, ← Nat.two_pow_add_eq_or_of_lt (by simpa using hc), Bw (by omega) (by omega)]
theorem Bfd (b : List UInt8) (hb : b.length = 4) : ∀ (j i q n : Nat), i + j = 4 → j < q → n < 128 ^ i → Ke b q (n : Int) (i : Int) = some (Aiy (b.drop i) n)
 | 0, i, q + 1, n, hi, _, _ => by
  rw [Ke, Ux, if_neg (by rw [Af, Ac]; simp; omega), show b.drop i = [] by simp; omega]; rfl
 | j + 1, i, q + 1, n, hi, hq, hn => by
  have hlt : i < b.length := by omega
  have hn2 : n < 268435456 := Nat.lt_of_lt_of_le hn (show 128 ^ i ≤ 128 ^ 4 from Nat.pow_le_pow_right (by omega) (by omega))
  rw [Ke, Ux, if_pos (by rw [Af, Ac]; simp; omega), Df hlt, Aa, drop_cons hlt, Aiy, Bk4]
  by_cases hc : 128 ≤ b[i].toNat
  ·rw [if_pos (by simp; omega), if_pos hc]
  ·rw [if_neg (by simp; omega), if_neg hc, Abj, or7 n _ hn2 (by omega), Ag (by omega) (by omega)]
   exact Bfd b hb j (i + 1) q _ (by omega) (by omega) (by rw [Nat.pow_succ]; omega)
theorem Bjn (b : List UInt8) (hb : b.length = 4) : ∀ (j i q n : Nat), i + j = 4 → j < q → n < 128 ^ i → Fh b q (n : Int) (i : Int) = some (Aiy (b.drop i) n)
 | 0, i, q + 1, n, hi, _, _ => by
  rw [Fh, Kx, if_neg (by rw [Af]; simp; omega), show b.drop i = [] by simp; omega]; rfl
 | j + 1, i, q + 1, n, hi, hq, hn => by
  have hlt : i < b.length := by omega
  have hn2 : n < 268435456 := Nat.lt_of_lt_of_le hn (show 128 ^ i ≤ 128 ^ 4 from Nat.pow_le_pow_right (by omega) (by omega))
  rw [Fh, Kx, if_pos (by rw [Af]; simp; omega), Df hlt, Aa, drop_cons hlt, Aiy, Bji]
  have h128 : (128 : UInt8).toNat = 128 := rfl
  by_cases hc : 128 ≤ b[i].toNat
  ·rw [if_pos (by simpa using hc), if_pos hc]
  ·have h3 := b[i].toNat_lt
   rw [if_neg (by simpa using hc), if_neg hc, Aa, Abj, Hc (by omega) (by omega), Ag (by omega) (by omega), Ag (by omega) (by omega)]
   have := Bjn b hb j (i + 1) q (128 * n + b[i].toNat) (by omega) (by omega) (by rw [Nat.pow_succ]; omega)
   rw [← this]; rfl
theorem Bed (b : List UInt8) (hb : b.length = 4) : Aca b = some (Aiy b 0) := by
 have h := Bfd b hb 4 0 Ba 0 (by omega) (by have := Aq; omega) (by simp)
 rw [Aca, Abu, if_neg (by rw [Am, Ac]; simp; omega), Abn]; exact h
theorem Bid (b : List UInt8) (hb : b.length = 4) : Qu b = some (Aiy b 0) := by
 have h := Bjn b hb 4 0 Ba 0 (by omega) (by have := Aq; omega) (by simp)
 rw [Qu, Ru, if_neg (by rw [Am, Ac]; simp; omega), Se]; exact h
theorem Bel {b : List UInt8} (hb : b.length = 4) : 0 ≤ (Aiy b 0).1 ∧ (Aiy b 0).1 < 268435456 := by
 have := Bg1 b 0 0 (by simp)
 rw [hb] at this
 simpa using this
theorem Aqd (s p : List UInt8) : Lu s p = some (decide (p.length ≤ s.length ∧ s.take p.length = p)) := by
 rw [Lu]
 by_cases h : p.length ≤ s.length
 ·rw [if_pos (by rw [Dl, Ac, Ac]; simp; omega), show Ac p = (p.length : Int) from rfl, Mb (by omega) (by omega), Aa, Jy, Aa, Int.toNat_natCast]
  congr 1
  rw [Bool.eq_iff_iff]; simp [h]
 ·rw [if_neg (by rw [Dl, Ac, Ac]; simp; omega)]
  simp [h]
def An1 (b : List UInt8) (n : Int) : Int × Int :=
 if 4000 < n then (0, 4) else if (b.length : Int) < n then (0, 24) else
 if b.getD 5 0 = 16 ∧ (b.take n.toNat).drop (n - 10).toNat ≠ [51, 68, 73] ++ part b 3 7 then (0, 12) else (n, 0)
def Axl (b : List UInt8) (r : Int) : Int × Int := An1 b (r + 10 + (if b.getD 5 0 = 16 then 10 else 0))
def Aky (b : List UInt8) : Int × Int :=
 if ¬ (3 ≤ b.length ∧ b.take 3 = [73, 68, 51]) then (0, 6) else if b.length < 10 then (0, 24) else
 if (Aiy (part b 6 4) 0).2 ≠ 0 ∨ b.getD 4 0 ≠ 0 ∨ ¬ ((b.getD 5 0 = 0 ∧ 2 ≤ (b.getD 3 0).toNat ∧ (b.getD 3 0).toNat ≤ 4) ∨ (b.getD 5 0 = 16 ∧ b.getD 3 0 = 4)) then (0, 12) else
 Axl b (Aiy (part b 6 4) 0).1
theorem Aom {b : List UInt8} {i : Nat} (h : i < b.length) : getI b (i : Int) = some (b.getD i 0) := by
 rw [Df h]; simp [List.getD_eq_getElem?_getD, h]
theorem Mq {b : List UInt8} (a w : Nat) (h : a + w ≤ b.length) : Db b (a : Int) ((a + w : Nat) : Int) = some (part b a w) := by
 rw [Ady (by omega) (by omega) (by omega)]; rfl
theorem Bnc (b : List UInt8) (r : Int) (h10 : 10 ≤ b.length) (h0 : 0 ≤ r) (h1 : r < 268435456) : Md b r = some (Axl b r) := by
 have g5 : getI b (5 : Int) = some (b.getD 5 0) := Aom (i := 5) (by omega)
 have key : ∀ n : Int, 10 ≤ n → n < 268435500 → Mm b n = some (An1 b n) := by
  intro n hn hn2
  rw [Mm, Adg, An1]
  by_cases c1 : 4000 < n
  ·rw [if_pos (by rw [Bc]; simpa using c1), if_pos c1]
  ·rw [if_neg (by rw [Bc]; simpa using c1), if_neg c1]
   by_cases c2 : (b.length : Int) < n
   ·rw [if_pos (by rw [Af, Ac]; simpa using c2), if_pos c2]
   ·have e3 : Db b (3 : Int) (10 : Int) = some (part b 3 7) := Mq 3 7 (by omega)
    rw [if_neg (by rw [Af, Ac]; simpa using c2), if_neg c2, g5, Aa]
    by_cases c3 : b.getD 5 0 = 16
    ·rw [if_pos (by rw [Ajm]; simpa using c3), Bl (by omega) (by omega), Ady (by omega) (by omega) (by omega), Aa, e3, Aa, Dp (by rw [Dd (by omega)]; simp), Aa]
     by_cases c4 : (b.take n.toNat).drop (n - 10).toNat = [51, 68, 73] ++ part b 3 7
     ·rw [if_neg (by simpa using c4), if_neg (by intro h; exact h.2 c4)]
     ·rw [if_pos (by simpa using c4), if_pos ⟨c3, c4⟩]
    ·rw [if_neg (by rw [Ajm]; simpa using c3), if_neg (fun h => c3 h.1)]
 rw [Md, Tt, g5, Aa, Axl]
 by_cases c3 : b.getD 5 0 = 16
 ·rw [if_pos (by rw [Ajm]; simpa using c3), Ag (by rw [Ag] <;> omega) (by rw [Ag] <;> omega), Ag (by omega) (by omega), key _ (by omega) (by omega), if_pos c3, show 10 + r + 10 = r + 10 + 10 by omega]
 ·rw [if_neg (by rw [Ajm]; simpa using c3), Ag (by omega) (by omega), key _ (by omega) (by omega), if_neg c3, show 10 + r = r + 10 + 0 by omega]
theorem Bka (b : List UInt8) (hb : b.length < 4611686018427387904) : Tb b = some (Aky b) := by
 rw [Tb, Ut, Aky]
 by_cases h3 : 3 ≤ b.length
 ·rw [if_neg (by rw [Af, Ac]; simp; omega), Mb (by omega) (by omega), Aa]
  by_cases hp : b.take 3 = [73, 68, 51]
  ·rw [if_neg (by simpa using hp), if_neg (by simp [h3, hp]), Tv, Ts]
   by_cases h10 : b.length < 10
   ·rw [if_pos (by rw [Af, Ac]; simp; omega), if_pos h10]
   ·have e6 : Db b (6 : Int) (10 : Int) = some (part b 6 4) := Mq 6 4 (by omega)
    have g3 : getI b (3 : Int) = some (b.getD 3 0) := Aom (i := 3) (by omega)
    have g4 : getI b (4 : Int) = some (b.getD 4 0) := Aom (i := 4) (by omega)
    have g5 : getI b (5 : Int) = some (b.getD 5 0) := Aom (i := 5) (by omega)
    obtain ⟨v1, v2⟩ := Bel (b := part b 6 4) (Dd (by omega))
    rw [if_neg (by rw [Af, Ac]; simp; omega), if_neg h10, e6, Aa, Bid _ (Dd (by omega)), Aa]
    have ht := Bnc b (Aiy (part b 6 4) 0).1 (by omega) v1 v2
    generalize Aiy (part b 6 4) 0 = v at *
    obtain ⟨v, e⟩ := v
    simp only at ht v1 v2 ⊢
    simp only [Aa, g3, g4, g5, ht]
    generalize b.getD 3 0 = x at *
    generalize b.getD 4 0 = y at *
    generalize b.getD 5 0 = z at *
    simp only [Bdt, Bp8, Bk4, Am]
    by_cases he : e = 0 <;> by_cases hy : y = 0 <;> by_cases hz : z = 0 <;> by_cases hz2 : z = 16 <;> by_cases hx : x = 4 <;> by_cases hx2 : x.toNat < 2 <;> by_cases hx4 : 4 < x.toNat <;> simp_all <;> (rw [if_neg (by omega), if_neg (by omega)])
  ·rw [if_pos (by simpa using hp), if_pos (by simp [hp])]
 ·rw [if_pos (by rw [Af, Ac]; simp; omega), if_pos (by simp [h3])]
theorem Axc (b : List UInt8) (n : Int) (h10 : 10 ≤ b.length) (hn : 10 ≤ n) (hn2 : n < 268435500) : Ww b (b.getD 5 0) n = some (An1 b n) := by
 rw [Ww, Aku]
 by_cases c1 : 4000 < n
 ·rw [if_pos (by rw [Bc]; simpa using c1), An1, if_pos c1]
 ·rw [if_neg (by rw [Bc]; simpa using c1)]
  by_cases c2 : (b.length : Int) < n
  ·rw [if_pos (by rw [Af, Ac]; simpa using c2), An1, if_neg c1, if_pos c2]
  ·have e3 : Db b (3 : Int) (10 : Int) = some (part b 3 7) := Mq 3 7 (by omega)
   rw [if_neg (by rw [Af, Ac]; simpa using c2)]
   by_cases c3 : b.getD 5 0 = 16
   ·have hl : ((b.take n.toNat).drop (n - 10).toNat).length = 10 := by simp; omega
    have ht : An1 b n = if (b.take n.toNat).drop (n - 10).toNat ≠ [51, 68, 73] ++ part b 3 7 then (0, 12) else (n, 0) := by rw [An1, if_neg c1, if_neg c2]; simp only [c3, true_and]
    rw [if_pos (by rw [Ajm]; simpa using c3), Bl (by omega) (by omega), Ady (by omega) (by omega) (by omega), Aa, ht]
    generalize (b.take n.toNat).drop (n - 10).toNat = f at *
    rw [Mb (by omega) (by omega), Aa, Abo (by omega) (by omega), Aa, e3, Aa, Jy, Aa]
    have hf : f = f.take 3 ++ f.drop 3 := (List.take_append_drop 3 f).symm
    by_cases c4 : f = [51, 68, 73] ++ part b 3 7
    ·subst c4
     simp
    ·by_cases c5 : f.take 3 = [51, 68, 73]
     ·have : f.drop 3 ≠ part b 3 7 := fun h => c4 (by rw [hf, c5, h])
      simp only [List.cons_append, List.nil_append] at c4
      simp [c4, c5, this]
     ·simp only [List.cons_append, List.nil_append] at c4
      simp [c4, c5]
   ·rw [if_neg (by rw [Ajm]; simpa using c3), An1, if_neg c1, if_neg c2, if_neg (fun h => c3 h.1)]
theorem Bkk (b : List UInt8) (r : Int) (h10 : 10 ≤ b.length) (h0 : 0 ≤ r) (h1 : r < 268435456) : Wu b r (b.getD 5 0) = some (Axl b r) := by
 rw [Wu, Ad3, Axl]
 by_cases c3 : b.getD 5 0 = 16
 ·rw [if_pos (by rw [Ajm]; simpa using c3), Ag (by rw [Ag] <;> omega) (by rw [Ag] <;> omega), Ag (by omega) (by omega), Axc b _ h10 (by omega) (by omega), if_pos c3]
 ·rw [if_neg (by rw [Ajm]; simpa using c3), Ag (by omega) (by omega), Axc b _ h10 (by omega) (by omega), if_neg c3]; simp
theorem Bic (b : List UInt8) (hb : b.length < 4611686018427387904) : Ael b = some (Aky b) := by
 rw [Ael, Wz, Aqd, Aa]
 by_cases hp : 3 ≤ b.length ∧ b.take 3 = [73, 68, 51]
 ·rw [if_neg (by simpa using hp)]
  by_cases h10 : b.length < 10
  ·rw [if_pos (by rw [Af, Ac]; simp; omega), Aky, if_neg (fun h => h hp), if_pos h10]
  ·have e6 : Db b (6 : Int) (10 : Int) = some (part b 6 4) := Mq 6 4 (by omega)
   have g3 : getI b (3 : Int) = some (b.getD 3 0) := Aom (i := 3) (by omega)
   have g4 : getI b (4 : Int) = some (b.getD 4 0) := Aom (i := 4) (by omega)
   have g5 : getI b (5 : Int) = some (b.getD 5 0) := Aom (i := 5) (by omega)
   obtain ⟨v1, v2⟩ := Bel (b := part b 6 4) (Dd (by omega))
   have ht := Bkk b (Aiy (part b 6 4) 0).1 (by omega) v1 v2
   rw [if_neg (by rw [Af, Ac]; simp; omega), g3, Aa, g5, Aa, Adq, Ad2, e6, Aa, Bed _ (Dd (by omega)), Aa, Aky, if_neg (fun h => h hp), if_neg h10]
   generalize Aiy (part b 6 4) 0 = v at *
   obtain ⟨v, e⟩ := v
   simp only at ht v1 v2 ⊢
   simp only [Aa, g4, Ado, Adn]
   generalize b.getD 3 0 = x at *
   generalize b.getD 4 0 = y at *
   generalize b.getD 5 0 = z at *
   simp only [Bdt, Bqe, Ajm, Bji, Am]
   have e2 : (2 : UInt8).toNat = 2 := rfl
   have e4 : (4 : UInt8).toNat = 4 := rfl
   by_cases he : e = 0 <;> by_cases hy : y = 0 <;> by_cases hz : z = 0 <;> by_cases hz2 : z = 16 <;> by_cases hx : x = 4 <;> by_cases hx2 : 2 ≤ x.toNat <;> by_cases hx4 : x.toNat ≤ 4 <;> simp_all
 ·rw [if_pos (by rw [Bool.not_eq_true', decide_eq_false_iff_not]; exact hp), Aky, if_pos hp]
theorem Bj2 {b : List UInt8} {n : Int} (h : Aky b = (n, 0)) : 10 ≤ n ∧ n ≤ b.length ∧ n ≤ 4000 := by
 unfold Aky at h
 split at h; · simp at h
 split at h; · simp at h
 split at h; · simp at h
 rename_i h10 _
 obtain ⟨v1, v2⟩ := Bel (b := part b 6 4) (Dd (by omega))
 unfold Axl at h
 generalize hm : (Aiy (part b 6 4) 0).1 + 10 + (if b.getD 5 0 = 16 then 10 else 0) = m at h
 unfold An1 at h
 split at h; · simp at h
 split at h; · simp at h
 split at h; · simp at h
 simp only [Prod.mk.injEq, and_true] at h
 subst h
 refine ⟨?_, by omega, by omega⟩
 rw [← hm]
 split <;> omega
end Go.Pl
set_option linter.unusedVariables false
set_option linter.unusedSimpArgs false
namespace Go.Pl
open Go Go.Lv
def APE : List UInt8 := [65, 80, 69, 84, 65, 71, 69, 88]
def Aep (n m fl : Nat) : List UInt8 := APE ++ leB 2000 4 ++ leB (n + 32) 4 ++ leB m 4 ++ leB fl 4 ++ List.replicate 8 0
theorem Agv {n : Nat} (h : n < 18446744073709551616) : (UInt64.ofNat n).toNat = n := by rw [UInt64.toNat_ofNat', Nat.mod_eq_of_lt h]
theorem Am6 (n m : Int) (fl : UInt64) (c : UInt64) (i q : Nat) (acc : List UInt8) (hi : i < 6) (hc : getI ([(2000 : UInt64), (Ad (Ae n (32 : Int)) : UInt64), (Ad m : UInt64), fl, (0 : UInt64), (0 : UInt64)] : List UInt64) (i : Int) = some c) (h : c.toNat < 4294967296) (ha : acc.length ≤ 1000000) :
  Xj n m fl (q + 1) (i : Int) acc = Xj n m fl q ((i + 1 : Nat) : Int) (acc ++ leB c.toNat 4) := by
 have hb := Bdg c 4 (by omega) (by omega) (by simpa using h)
 rw [Xj, Ajb, if_pos (by rw [Af, Ac]; simp; omega), hc, Aa, Aa, show ((4 : Int)) = ((4 : Nat) : Int) from rfl, hb, Aa]
 simp only
 rw [Dp (by rw [Nt]; omega), Aa, Ag (by omega) (by omega)]; rfl
theorem Ba6 (n m : Nat) (fl : UInt64) (hn : n ≤ 3000) (hm : m ≤ 1000) (hf : fl.toNat < 4294967296) : Ap7 (n : Int) (m : Int) fl = some (Aep n m fl.toNat) := by
 have e1 : (Ad (Ae (n : Int) (32 : Int)) : UInt64).toNat = n + 32 := by rw [Ag (by omega) (by omega), show (n : Int) + 32 = ((n + 32 : Nat) : Int) by omega, Yb, Agv (by omega)]
 have e2 : (Ad (m : Int) : UInt64).toNat = m := by rw [Yb, Agv (by omega)]
 have hF : Ba = (Ba - 7) + 1 + 1 + 1 + 1 + 1 + 1 + 1 := by have := Aq; omega
 rw [Ap7, Aoj, Aon, hF]
 rw [show ((0 : Int)) = ((0 : Nat) : Int) from rfl, Am6 n m fl 2000 0 _ _ (by omega) rfl (by decide) (by simp), Am6 n m fl _ 1 _ _ (by omega) rfl (by rw [e1]; omega) (by simp [Nt]), Am6 n m fl _ 2 _ _ (by omega) rfl (by rw [e2]; omega) (by simp [Nt]),
  Am6 n m fl fl 3 _ _ (by omega) rfl hf (by simp [Nt]), Am6 n m fl 0 4 _ _ (by omega) rfl (by decide) (by simp [Nt]), Am6 n m fl 0 5 _ _ (by omega) rfl (by decide) (by simp [Nt]), e1, e2]
 rw [Xj, Ajb, if_neg (by rw [Af, Ac]; simp), Aoo, Au2, Aep]
 have z : leB (0 : UInt64).toNat 4 ++ leB (0 : UInt64).toNat 4 = List.replicate 8 0 := by decide
 have z2 : leB (2000 : UInt64).toNat 4 = leB 2000 4 := rfl
 rw [List.append_assoc _ (leB (0 : UInt64).toNat 4), z, z2]; rfl
theorem Bgj (n m : Nat) (fl : UInt64) (hn : n ≤ 3000) (hm : m ≤ 1000) (hf : fl.toNat < 4294967296) : Ka (n : Int) (m : Int) fl = some (Aep n m fl.toNat) := by
 have e1 : (Ad (Ae (n : Int) (32 : Int)) : UInt64).toNat = n + 32 := by rw [Ag (by omega) (by omega), show (n : Int) + 32 = ((n + 32 : Nat) : Int) by omega, Yb, Agv (by omega)]
 have e2 : (Ad (m : Int) : UInt64).toNat = m := by rw [Yb, Agv (by omega)]
 have w : ∀ c : UInt64, Cv c 4 = some (leB c.toNat 4) := fun c => Avv c 4 (by omega)
 have z2 : leB (2000 : UInt64).toNat 4 = leB 2000 4 := rfl
 rw [Ka]
 simp only [w, e1, e2, Aa]
 rw [Dp (by simp [Nt]), Aa, Dp (by simp [Nt]), Aa, Dp (by simp [Nt]), Aa, Dp (by simp [Nt]), Aa, Avf (by omega) (by omega), Aa, Dp (by simp [Nt]), Aa, z2]; rfl
theorem Aez {b : List UInt8} {a w k : Nat} (h : a + w ≤ k) : part (b.take k) a w = part b a w := by rw [part, part, List.take_take, Nat.min_eq_left h]
def Agt (b : List UInt8) : Bool := decide (Eg (part b 12 4) < 32 ∨ 3032 < Eg (part b 12 4) ∨ 1000 < Eg (part b 16 4))
theorem Bl0 (b : List UInt8) (h : 20 ≤ b.length) : (((Dm (leU (part b 12 4)) (32 : UInt64)) || (Hw (leU (part b 12 4)) (3032 : UInt64))) || (Hw (leU (part b 16 4)) (1000 : UInt64))) = Agt b := by
 rw [Asu, Agu, Agu, Ag7 (by rw [Dd (by omega)]; omega), Ag7 (by rw [Dd (by omega)]; omega), Agt]
 show ((decide (Eg (part b 12 4) < 32) || decide (3032 < Eg (part b 12 4))) || decide (1000 < Eg (part b 16 4))) = _
 simp [Bool.or_assoc]
theorem Azk (b : List UInt8) (h : 20 ≤ b.length) (hb : Agt b = false) : Al (Ad (leU (part b 12 4)) : Int) (32 : Int) = ((Eg (part b 12 4) - 32 : Nat) : Int) ∧ (Ad (leU (part b 16 4)) : Int) = ((Eg (part b 16 4) : Nat) : Int) ∧ Eg (part b 12 4) - 32 ≤ 3000 ∧ Eg (part b 16 4) ≤ 1000 := by
 simp only [Agt, decide_eq_false_iff_not] at hb
 refine ⟨?_, Acl (by rw [Dd (by omega)]; omega), by omega, by omega⟩
 rw [Acl (by rw [Dd (by omega)]; omega), Bl (by omega) (by omega)]; omega
theorem Ber (b : List UInt8) (fl : UInt64) (h : 20 ≤ b.length) (hl : b.length < 4611686018427387904) (hf : fl.toNat < 4294967296) :
  Anf b fl = some (if Agt b = true then (0, 0, false) else (((Eg (part b 12 4) - 32 : Nat) : Int), ((Eg (part b 16 4) : Nat) : Int), b == Aep (Eg (part b 12 4) - 32) (Eg (part b 16 4)) fl.toNat)) := by
 have a1 : Aif b 12 4 = some (leU (part b 12 4), 0) := Ayk b 12 4 (by omega) (by omega) (by omega) hl
 have a2 : Aif b 16 4 = some (leU (part b 16 4), 0) := Ayk b 16 4 (by omega) (by omega) (by omega) hl
 rw [Anf, a1, Aa]
 simp only
 rw [a2, Aa]
 simp only
 rw [Bl0 b h]
 cases hb : Agt b with
 | true => rfl
 | false =>
  obtain ⟨i1, i2, i3, i4⟩ := Azk b h hb
  rw [i1, i2, Ba6 _ _ _ i3 i4 hf]
  rfl
theorem Bj3 (b : List UInt8) (h : 20 ≤ b.length) (hl : b.length < 4611686018427387904) :
  Th b = some (if Agt b = true then (0, 0, false) else (((Eg (part b 12 4) - 32 : Nat) : Int), ((Eg (part b 16 4) : Nat) : Int), true)) := by
 have a1 : Db b 12 16 = some (part b 12 4) := Mq 12 4 (by omega)
 have a2 : Db b 16 20 = some (part b 16 4) := Mq 16 4 (by omega)
 rw [Th, a1, Aa, Bbs _ (by rw [Dd (by omega)]; omega), Aa, a2, Aa, Bbs _ (by rw [Dd (by omega)]; omega), Aa, Bl0 b h]
 cases hb : Agt b with
 | true => rfl
 | false =>
  obtain ⟨i1, i2, i3, i4⟩ := Azk b h hb
  rw [i1, i2]; rfl
def Qn (b : List UInt8) : Int × Int :=
 if ¬ (8 ≤ b.length ∧ b.take 8 = APE) then (0, 6) else if b.length < 32 then (0, 24) else
 if Agt b = true ∨ b.take 32 ≠ Aep (Eg (part b 12 4) - 32) (Eg (part b 16 4)) 2684354560 then (0, 12) else
 if b.length < Eg (part b 12 4) + 32 then (0, 24) else
 if (b.take (Eg (part b 12 4) + 32)).drop (Eg (part b 12 4)) ≠ Aep (Eg (part b 12 4) - 32) (Eg (part b 16 4)) 2147483648 then (0, 12) else (((Eg (part b 12 4) + 32 : Nat) : Int), 0)
theorem Bax (b : List UInt8) : Agt (b.take 32) = Agt b := by rw [Agt, Agt, Aez (by omega), Aez (by omega)]
section
variable {b : List UInt8}
theorem fa1 (h : ¬ (8 ≤ b.length ∧ b.take 8 = APE)) : Qn b = (0, 6) := by rw [Qn, if_pos h]
theorem fa2 (h : 8 ≤ b.length ∧ b.take 8 = APE) (h2 : b.length < 32) : Qn b = (0, 24) := by rw [Qn, if_neg (fun h' => h' h), if_pos h2]
variable (h : 8 ≤ b.length ∧ b.take 8 = APE) (h2 : ¬ b.length < 32)
include h h2
theorem fa3 (h3 : Agt b = true) : Qn b = (0, 12) := by rw [Qn, if_neg (fun h' => h' h), if_neg h2, if_pos (.inl h3)]
theorem fa4 (h4 : b.take 32 ≠ Aep (Eg (part b 12 4) - 32) (Eg (part b 16 4)) 2684354560) : Qn b = (0, 12) := by rw [Qn, if_neg (fun h' => h' h), if_neg h2, if_pos (.inr h4)]
variable (h3 : Agt b = false) (h4 : b.take 32 = Aep (Eg (part b 12 4) - 32) (Eg (part b 16 4)) 2684354560)
include h3 h4
theorem fa5 (h5 : b.length < Eg (part b 12 4) + 32) : Qn b = (0, 24) := by
 rw [Qn, if_neg (fun h' => h' h), if_neg h2, if_neg (fun h' => h'.elim (fun e => by rw [h3] at e; cases e) fun e => e h4), if_pos h5]
theorem fa6 (h5 : ¬ b.length < Eg (part b 12 4) + 32) (h6 : (b.take (Eg (part b 12 4) + 32)).drop (Eg (part b 12 4)) ≠ Aep (Eg (part b 12 4) - 32) (Eg (part b 16 4)) 2147483648) : Qn b = (0, 12) := by
 rw [Qn, if_neg (fun h' => h' h), if_neg h2, if_neg (fun h' => h'.elim (fun e => by rw [h3] at e; cases e) fun e => e h4), if_neg h5, if_pos h6]
theorem fa7 (h5 : ¬ b.length < Eg (part b 12 4) + 32) (h6 : (b.take (Eg (part b 12 4) + 32)).drop (Eg (part b 12 4)) = Aep (Eg (part b 12 4) - 32) (Eg (part b 16 4)) 2147483648) : Qn b = (((Eg (part b 12 4) + 32 : Nat) : Int), 0) := by
 rw [Qn, if_neg (fun h' => h' h), if_neg h2, if_neg (fun h' => h'.elim (fun e => by rw [h3] at e; cases e) fun e => e h4), if_neg h5, if_neg (fun h' => h' h6)]
end
theorem Bdz (b : List UInt8) (hl : b.length < 4611686018427387904) : Amw b = some (Qn b) := by
 rw [Amw, Aqd, Aa]
 by_cases hp : 8 ≤ b.length ∧ b.take 8 = APE
 ·rw [if_neg (by simpa [APE] using hp)]
  by_cases h32 : b.length < 32
  ·rw [if_pos (by rw [Af, Ac]; simp; omega), fa2 hp h32]
  ·have t := Ber (b.take 32) 2684354560 (by simp; omega) (by simp; omega) (by decide)
   rw [Bax, Aez (by omega), Aez (by omega)] at t
   rw [if_neg (by rw [Af, Ac]; simp; omega), Mb (by omega) (by omega), Aa, show (32 : Int).toNat = 32 from rfl, t, Aa]
   cases hb : Agt b with
   | true => rw [fa3 hp h32 hb]; simp
   | false =>
    obtain ⟨i1, i2, i3, i4⟩ := Azk b (by omega) hb
    have i5 : 32 ≤ Eg (part b 12 4) := by simp only [Agt, decide_eq_false_iff_not] at hb; omega
    simp only [Bool.false_eq_true, if_false, false_or]
    by_cases c1 : b.take 32 = Aep (Eg (part b 12 4) - 32) (Eg (part b 16 4)) 2684354560
    ·have c1' : b.take 32 = Aep (Eg (part b 12 4) - 32) (Eg (part b 16 4)) (2684354560 : UInt64).toNat := c1
     rw [if_neg (by simpa using c1'), Ag (by omega) (by omega)]
     have e1 : ((Eg (part b 12 4) - 32 : Nat) : Int) + 64 = ((Eg (part b 12 4) + 32 : Nat) : Int) := by omega
     rw [e1]
     by_cases c2 : b.length < Eg (part b 12 4) + 32
     ·rw [if_pos (by rw [Af, Ac]; simp; omega), fa5 hp h32 hb c1 c2]
     ·rw [if_neg (by rw [Af, Ac]; simp; omega), Bl (by omega) (by omega), Ady (by omega) (by omega) (by omega), Aa, Ba6 _ _ _ i3 i4 (by decide), Aa, Jy, Aa]
      rw [show (((Eg (part b 12 4) + 32 : Nat) : Int)).toNat = Eg (part b 12 4) + 32 by omega, show (((Eg (part b 12 4) + 32 : Nat) : Int) - 32).toNat = Eg (part b 12 4) by omega]
      by_cases c3 : (b.take (Eg (part b 12 4) + 32)).drop (Eg (part b 12 4)) = Aep (Eg (part b 12 4) - 32) (Eg (part b 16 4)) 2147483648
      ·have c3' : (b.take (Eg (part b 12 4) + 32)).drop (Eg (part b 12 4)) = Aep (Eg (part b 12 4) - 32) (Eg (part b 16 4)) (2147483648 : UInt64).toNat := c3
       rw [if_neg (by simpa using c3'), fa7 hp h32 hb c1 c2 c3]
      ·have c3' : ¬ (b.take (Eg (part b 12 4) + 32)).drop (Eg (part b 12 4)) = Aep (Eg (part b 12 4) - 32) (Eg (part b 16 4)) (2147483648 : UInt64).toNat := c3
       rw [if_pos (by simpa using c3'), fa6 hp h32 hb c1 c2 c3]
    ·have c1' : ¬ b.take 32 = Aep (Eg (part b 12 4) - 32) (Eg (part b 16 4)) (2684354560 : UInt64).toNat := c1
     rw [if_pos (by simpa using c1'), fa4 hp h32 c1]
 ·rw [if_pos (by rw [Bool.not_eq_true', decide_eq_false_iff_not]; exact hp), fa1 hp]
theorem Bhd (b : List UInt8) (hl : b.length < 4611686018427387904) : Qa b = some (Qn b) := by
 rw [Qa, Ro]
 by_cases h8 : 8 ≤ b.length
 ·rw [if_neg (by rw [Af, Ac]; simp; omega), Mb (by omega) (by omega), Aa, show (8 : Int).toNat = 8 from rfl]
  by_cases ha : b.take 8 = APE
  ·have hp := And.intro h8 ha
   rw [if_neg (by simpa [APE] using ha), Sd, Rv]
   by_cases h32 : b.length < 32
   ·rw [if_pos (by rw [Af, Ac]; simp; omega), fa2 hp h32]
   ·have t := Bj3 (b.take 32) (by simp; omega) (by simp; omega)
    rw [Bax, Aez (by omega), Aez (by omega)] at t
    rw [if_neg (by rw [Af, Ac]; simp; omega), Mb (by omega) (by omega), Aa, show (32 : Int).toNat = 32 from rfl, t, Aa]
    cases hb : Agt b with
    | true => rw [fa3 hp h32 hb]; simp
    | false =>
     obtain ⟨i1, i2, i3, i4⟩ := Azk b (by omega) hb
     have i5 : 32 ≤ Eg (part b 12 4) := by simp only [Agt, decide_eq_false_iff_not] at hb; omega
     simp only [Bool.false_eq_true, if_false, false_or, Aa, Bool.not_true]
     rw [Yy, Bgj _ _ _ i3 i4 (by decide), Aa, Aa]
     by_cases c1 : b.take 32 = Aep (Eg (part b 12 4) - 32) (Eg (part b 16 4)) 2684354560
     ·have c1' : b.take 32 = Aep (Eg (part b 12 4) - 32) (Eg (part b 16 4)) (2684354560 : UInt64).toNat := c1
      rw [if_neg (by simpa using c1'), Rw, Aa9, Ag (by omega) (by omega)]
      have e1 : 64 + ((Eg (part b 12 4) - 32 : Nat) : Int) = ((Eg (part b 12 4) + 32 : Nat) : Int) := by omega
      rw [e1]
      by_cases c2 : b.length < Eg (part b 12 4) + 32
      ·rw [if_pos (by rw [Af, Ac]; simp; omega), fa5 hp h32 hb c1 c2]
      ·rw [if_neg (by rw [Af, Ac]; simp; omega), Bl (by omega) (by omega), Ady (by omega) (by omega) (by omega), Aa, Yz, if_pos rfl, Bgj _ _ _ i3 i4 (by decide), Aa, Aa]
       rw [show (((Eg (part b 12 4) + 32 : Nat) : Int)).toNat = Eg (part b 12 4) + 32 by omega, show (((Eg (part b 12 4) + 32 : Nat) : Int) - 32).toNat = Eg (part b 12 4) by omega]
       by_cases c3 : (b.take (Eg (part b 12 4) + 32)).drop (Eg (part b 12 4)) = Aep (Eg (part b 12 4) - 32) (Eg (part b 16 4)) 2147483648
       ·have c3' : (b.take (Eg (part b 12 4) + 32)).drop (Eg (part b 12 4)) = Aep (Eg (part b 12 4) - 32) (Eg (part b 16 4)) (2147483648 : UInt64).toNat := c3
        rw [if_neg (by simpa using c3'), fa7 hp h32 hb c1 c2 c3]
       ·have c3' : ¬ (b.take (Eg (part b 12 4) + 32)).drop (Eg (part b 12 4)) = Aep (Eg (part b 12 4) - 32) (Eg (part b 16 4)) (2147483648 : UInt64).toNat := c3
        rw [if_pos (by simpa using c3'), fa6 hp h32 hb c1 c2 c3]
     ·have c1' : ¬ b.take 32 = Aep (Eg (part b 12 4) - 32) (Eg (part b 16 4)) (2684354560 : UInt64).toNat := c1
      rw [if_pos (by simpa using c1'), fa4 hp h32 c1]
  ·rw [if_pos (by simpa [APE] using ha), fa1 (fun h => ha h.2)]
 ·rw [if_pos (by rw [Af, Ac]; simp; omega), fa1 (fun h => h8 h.1)]
theorem Bie {b : List UInt8} {n : Int} (h : Qn b = (n, 0)) : 64 ≤ n ∧ n ≤ b.length := by
 unfold Qn at h
 split at h; · simp at h
 split at h; · simp at h
 split at h; · simp at h
 rename_i hb
 split at h; · simp at h
 split at h; · simp at h
 simp only [Prod.mk.injEq, and_true] at h
 have hb' : ¬ Agt b = true := fun e => hb (.inl e)
 simp only [Agt, decide_eq_true_eq] at hb'
 omega
end Go.Pl
set_option linter.unusedVariables false
set_option linter.unusedSimpArgs false
namespace Go.Pl
open Go Go.Lv
def Ej (b : List UInt8) : Int × Int := if (Aky b).2 ≠ 6 then Aky b else Qn b
theorem size_eq (b : List UInt8) (hl : b.length < 4611686018427387904) : Tn b = some (Ej b) := by
 rw [Tn, Bic b hl, Aa, Bdz b hl]
 by_cases h : (Aky b).2 = 6
 ·simp [Ej, h, Am]
 ·simp [Ej, h, Am]
theorem Auu {b : List UInt8} {n : Int} (h : Ej b = (n, 0)) : 10 ≤ n ∧ n ≤ b.length := by
 unfold Ej at h
 split at h
 ·have := Bj2 h; omega
 ·have := Bie h; omega
def Da (b : List UInt8) : Nat → Nat → List Int × Int
 | 0, _ => ([], 6)
 | j + 1, p => if (Ej (b.drop p)).2 = 6 then ([], 0) else if (Ej (b.drop p)).2 ≠ 0 then ([], (Ej (b.drop p)).2) else
  if 4000 < (p : Int) + (Ej (b.drop p)).1 then ([], 4) else
  if (Da b j (p + (Ej (b.drop p)).1.toNat)).2 = 0 then ((Ej (b.drop p)).1 :: (Da b j (p + (Ej (b.drop p)).1.toNat)).1, 0) else ([], (Da b j (p + (Ej (b.drop p)).1.toNat)).2)
theorem Aqr (b : List UInt8) : ∀ (j p : Nat), p ≤ b.length → p ≤ 4000 → (Da b j p).2 = 0 → (∀ x ∈ (Da b j p).1, 10 ≤ x) ∧ (p : Int) + (Da b j p).1.sum ≤ b.length ∧ (p : Int) + (Da b j p).1.sum ≤ 4000
 | 0, p, _, _, h => by simp [Da] at h
 | j + 1, p, hp, hq, h => by
  rw [Da] at h ⊢
  split at h
  ·rename_i h6; rw [if_pos h6]; simp; omega
  ·rename_i h6
   split at h
   ·rename_i h0; exact absurd h h0
   ·rename_i h0
    rw [if_neg h6, if_neg h0]
    have hz : Ej (b.drop p) = ((Ej (b.drop p)).1, 0) := by rw [Prod.ext_iff]; exact ⟨rfl, Classical.not_not.1 h0⟩
    have hs := Auu hz
    rw [List.length_drop] at hs
    split at h
    ·simp at h
    ·rename_i h4
     rw [if_neg h4]
     split at h
     ·rename_i h00
      rw [if_pos h00]
      obtain ⟨i1, i2, i3⟩ := Aqr b j _ (by omega) (by omega) h00
      refine ⟨fun x hx => ?_, ?_, ?_⟩
      ·rcases List.mem_cons.1 hx with rfl | hx
       ·exact hs.1
       ·exact i1 x hx
      ·simp only [List.sum_cons]; omega
      ·simp only [List.sum_cons]; omega
     ·rename_i h00; exact absurd h h00
def Bhm (b : List UInt8) (j p : Nat) : Int × Int := if (Da b j p).2 = 0 then ((p : Int) + (Da b j p).1.sum, 0) else (0, (Da b j p).2)
theorem Auc (b : List UInt8) (hl : b.length < 4611686018427387904) : ∀ (j p q : Nat), p ≤ b.length → p ≤ 4000 → b.length - p < j → j ≤ q → Rc b q (p : Int) = some (Bhm b j p)
 | 0, p, q, _, _, h, _ => by omega
 | j + 1, p, q, hp, hp4, hj, hq => by
  obtain ⟨q, rfl⟩ : ∃ k, q = k + 1 := ⟨q - 1, by omega⟩
  rw [Rc, Abo (by omega) (by omega), Aa, Int.toNat_natCast, size_eq _ (by simp; omega), Aa, Ca, Ca, Am, Bhm]
  by_cases h6 : (Ej (b.drop p)).2 = 6
  ·rw [if_pos (by simpa using h6)]
   have : Da b (j + 1) p = ([], 0) := by rw [Da, if_pos h6]
   rw [this]; simp
  ·rw [if_neg (by simpa using h6)]
   by_cases h0 : (Ej (b.drop p)).2 = 0
   ·have hz : Ej (b.drop p) = ((Ej (b.drop p)).1, 0) := by rw [Prod.ext_iff]; exact ⟨rfl, h0⟩
    have hs := Auu hz
    rw [List.length_drop] at hs
    rw [Ag (by omega) (by omega), Bc]
    by_cases h4 : 4000 < (p : Int) + (Ej (b.drop p)).1
    ·rw [if_pos (by simp [h0]; omega)]
     have : Da b (j + 1) p = ([], 4) := by rw [Da, if_neg h6, if_neg (fun h => h h0), if_pos h4]
     rw [this]; simp
    ·rw [if_neg (by simp [h0]; omega), if_neg (by simpa using h0)]
     have ih := Auc b hl j (p + (Ej (b.drop p)).1.toNat) q (by omega) (by omega) (by omega) (by omega)
     rw [show (p : Int) + (Ej (b.drop p)).1 = ((p + (Ej (b.drop p)).1.toNat : Nat) : Int) by omega, ih, Bhm]
     have : Da b (j + 1) p = if (Da b j (p + (Ej (b.drop p)).1.toNat)).2 = 0 then ((Ej (b.drop p)).1 :: (Da b j (p + (Ej (b.drop p)).1.toNat)).1, 0) else ([], (Da b j (p + (Ej (b.drop p)).1.toNat)).2) := by
      rw [Da, if_neg h6, if_neg (fun h => h h0), if_neg h4]
     rw [this]
     by_cases hr : (Da b j (p + (Ej (b.drop p)).1.toNat)).2 = 0
     ·simp only [hr, if_true, List.sum_cons]; congr 2; omega
     ·simp only [hr, if_false]
   ·rw [if_neg (by simp [h0]), if_pos (by simpa using h0)]
    have : Da b (j + 1) p = ([], (Ej (b.drop p)).2) := by rw [Da, if_neg h6, if_pos h0]
    rw [this]; simp [h0]
def Bl5 (b : List UInt8) (j p : Nat) (xs : List Int) : List Int × Int := if (Da b j p).2 = 0 then (xs ++ (Da b j p).1, 0) else ([], (Da b j p).2)
theorem Bky (bk : Int → List Int → Option (List Int × Int)) (b : List UInt8) (p : Nat) (hp : p ≤ b.length) (xs : List Int) (hx : xs.length ≤ 4000) (hl : b.length < 4611686018427387904) : Li (Hi bk b) b (p : Int) xs = Hi bk b (p : Int) xs (Ej (b.drop p)).1 (Ej (b.drop p)).2 := by
 have hf := Bhd (b.drop p) (by simp; omega)
 rw [Li, Abo (by omega) (by omega), Aa, Int.toNat_natCast, Bka _ (by simp; omega), Aa]
 by_cases h : (Aky (b.drop p)).2 = 6
 ·simp [Ej, h, Ca, hf]
 ·simp [Ej, h, Ca]
theorem Ayb (b : List UInt8) (hl : b.length < 4611686018427387904) : ∀ (j p q : Nat) (xs : List Int), p ≤ b.length → p ≤ 4000 → b.length - p < j → j ≤ q → xs.length ≤ p → Hl b q (p : Int) xs = some (Bl5 b j p xs)
 | 0, p, q, _, _, _, h, _, _ => by omega
 | j + 1, p, q, xs, hp, hp4, hj, hq, hx => by
  obtain ⟨q, rfl⟩ : ∃ k, q = k + 1 := ⟨q - 1, by omega⟩
  rw [Hl, Bky _ b p hp xs (by omega) hl, Hi, Abd, Ca, Am, Bl5]
  by_cases h6 : (Ej (b.drop p)).2 = 6
  ·rw [if_pos (by simpa using h6)]
   have : Da b (j + 1) p = ([], 0) := by rw [Da, if_pos h6]
   rw [this]; simp
  ·rw [if_neg (by simpa using h6)]
   by_cases h0 : (Ej (b.drop p)).2 = 0
   ·have hz : Ej (b.drop p) = ((Ej (b.drop p)).1, 0) := by rw [Prod.ext_iff]; exact ⟨rfl, h0⟩
    have hs := Auu hz
    rw [List.length_drop] at hs
    rw [if_neg (by simpa using h0), Ag (by omega) (by omega), Bc]
    by_cases h4 : 4000 < (p : Int) + (Ej (b.drop p)).1
    ·rw [if_pos (by simp; omega)]
     have : Da b (j + 1) p = ([], 4) := by rw [Da, if_neg h6, if_neg (fun h => h h0), if_pos h4]
     rw [this]; simp
    ·rw [if_neg (by simp; omega), Dp (by simp; omega), Aa]
     have ih := Ayb b hl j (p + (Ej (b.drop p)).1.toNat) q (xs ++ [(Ej (b.drop p)).1]) (by omega) (by omega) (by omega) (by omega) (by simp; omega)
     rw [show (p : Int) + (Ej (b.drop p)).1 = ((p + (Ej (b.drop p)).1.toNat : Nat) : Int) by omega, ih, Bl5]
     have : Da b (j + 1) p = if (Da b j (p + (Ej (b.drop p)).1.toNat)).2 = 0 then ((Ej (b.drop p)).1 :: (Da b j (p + (Ej (b.drop p)).1.toNat)).1, 0) else ([], (Da b j (p + (Ej (b.drop p)).1.toNat)).2) := by
      rw [Da, if_neg h6, if_neg (fun h => h h0), if_neg h4]
     rw [this]
     by_cases hr : (Da b j (p + (Ej (b.drop p)).1.toNat)).2 = 0
     ·simp only [hr, if_true]; simp
     ·simp only [hr, if_false]
   ·rw [if_pos (by simpa using h0)]
    have : Da b (j + 1) p = ([], (Ej (b.drop p)).2) := by rw [Da, if_neg h6, if_pos h0]
    rw [this]; simp [h0]
theorem Asv : ∀ {l : List Int}, (∀ x ∈ l, 10 ≤ x) → 0 ≤ l.sum ∧ (l.length : Int) ≤ l.sum
 | [], _ => by simp
 | x :: l, h => by
  have h1 := h x List.mem_cons_self
  have h2 := Asv (l := l) fun y hy => h y (List.mem_cons_of_mem _ hy)
  simp only [List.sum_cons, List.length_cons]; omega
theorem Atv (r : Int) (l : List Int) (hl : l.length ≤ 4000) (hx : ∀ x ∈ l, 10 ≤ x) : ∀ (j i q : Nat) (n : Int), i + j = l.length → j < q → 0 ≤ n → n + (l.drop i).sum ≤ 4000 → Fp r l q n (i : Int) = some (n + (l.drop i).sum, r)
 | 0, i, q + 1, n, hi, _, _, _ => by
  rw [Fp, Lb, if_neg (by rw [Af, Ac]; simp; omega), show i = l.length by omega, List.drop_length]
  simp [Rp, Aa8]
 | j + 1, i, q + 1, n, hi, hq, hn, hs => by
  have hlt : i < l.length := by omega
  rw [drop_cons hlt, List.sum_cons] at hs ⊢
  have h1 := hx l[i] (List.getElem_mem hlt)
  have h2 := Asv (l := l.drop (i + 1)) fun y hy => hx y (List.mem_of_mem_drop hy)
  rw [Fp, Lb, if_pos (by rw [Af, Ac]; simp; omega), Df hlt, Aa, Aa, Ag (by omega) (by omega), Ag (by omega) (by omega)]
  have ih := Atv r l hl hx j (i + 1) q (n + l[i]) (by omega) (by omega) (by omega) (by omega)
  rw [show ((i : Int) + 1) = ((i + 1 : Nat) : Int) by omega, ih]
  congr 2; omega
def frontS (b : List UInt8) : Int × Int := Bhm b (b.length + 1) 0
theorem Auo (b : List UInt8) (hl : b.length < 4611686018427387904) : Yo b = some (frontS b) := by
 have := Auc b hl (b.length + 1) 0 Ba (by omega) (by omega) (by omega) (by have := Aq; omega)
 exact this
theorem Baa (b : List UInt8) (hl : b.length < 4611686018427387904) : Pq b = some (frontS b) := by
 have h := Ayb b hl (b.length + 1) 0 Ba [] (by omega) (by omega) (by omega) (by have := Aq; omega) (by simp)
 have h' : Xp b = some (Bl5 b (b.length + 1) 0 []) := h
 rw [Pq, Rl, h', Aa, frontS, Bhm, Bl5]
 have ho := Aqr b (b.length + 1) 0 (by omega) (by omega)
 by_cases h0 : (Da b (b.length + 1) 0).2 = 0
 ·obtain ⟨i1, i2, i3⟩ := ho h0
  have hp := Asv i1
  simp only [h0, if_true, List.nil_append]
  have := Atv 0 (Da b (b.length + 1) 0).1 (by omega) i1 (Da b (b.length + 1) 0).1.length 0 Ba 0 (by omega) (by have := Aq; omega) (by omega) (by simpa using i3)
  simpa [Lc] using this
 ·simp only [h0, if_false]
  have := Atv (Da b (b.length + 1) 0).2 [] (by simp) (by simp) 0 0 Ba 0 (by simp) (by have := Aq; omega) (by omega) (by simp)
  simpa [Lc] using this
theorem Bhg {b : List UInt8} (h : (frontS b).2 = 0) : 0 ≤ (frontS b).1 ∧ (frontS b).1 ≤ b.length ∧ (frontS b).1 ≤ 4000 := by
 unfold frontS Bhm at h ⊢
 split at h
 ·rename_i h0
  rw [if_pos h0]
  obtain ⟨i1, i2, i3⟩ := Aqr b (b.length + 1) 0 (by omega) (by omega) h0
  have hp := Asv i1
  exact ⟨by simp; omega, i2, i3⟩
 ·rename_i h0; exact absurd h h0
end Go.Pl
set_option linter.unusedVariables false
set_option linter.unusedSimpArgs false
namespace Go.Pl
open Go Go.Lv
def longN (r : Nat) : Nat := max 1 (256 * r / 245)
theorem Aic (r : Nat) : 1 ≤ longN r := Nat.le_max_left _ _
theorem Aua {r : Nat} (h : r ≤ 1048576) : longN r ≤ 1100000 := by unfold longN; omega
theorem Bc7 {r : Nat} (h : r ≤ 1048576) : Ank (1 : Int) (Bo (Bi (256 : Int) (r : Int)) (245 : Int)) = (longN r : Int) := by
 rw [Hc (by omega) (by omega), Adr, Int.tdiv_eq_ediv_of_nonneg (by omega), Bw (by omega) (by omega), Bd4, longN]; omega
def framesL (g n : Nat) : List Int := List.replicate ((n - 1) / g) (g : Int) ++ [((n - (n - 1) / g * g : Nat) : Int)]
theorem Bcv (g n : Nat) : (framesL g n).length = (n - 1) / g + 1 := by simp [framesL]
theorem Awr {g n : Nat} (h : n ≤ g) (h1 : 1 ≤ n) : framesL g n = [(n : Int)] := by
 rw [framesL, Nat.div_eq_of_lt (by omega)]; simp
theorem Bde {g n : Nat} (hg : 1 ≤ g) (h : g < n) : framesL g n = (g : Int) :: framesL g (n - g) := by
 have e : (n - 1) / g = (n - g - 1) / g + 1 := by rw [← Nat.add_div_right _ (by omega)]; congr 1; omega
 rw [framesL, framesL, e, List.replicate_succ, List.cons_append]
 congr 4
 have := Nat.div_mul_le_self (n - g - 1) g
 rw [Nat.add_mul, Nat.one_mul]; omega
theorem Ao2 {g n : Nat} (hg : 1 ≤ g) (h1 : 1 ≤ n) : (n + g - 1) / g = (n - 1) / g + 1 := by
 rw [← Nat.add_div_right _ (by omega)]; congr 1; omega
theorem Axx {r : Nat} (h1 : 1 ≤ r) (h : r ≤ 1048576) : Aai (r : Int) = some ((longN r : Int), 0) := by
 rw [Aai, if_neg (by simp [Af, Bc]; omega), Bc7 h]
theorem Bjp {r : Nat} (h : r ≤ 1048576) : Mr (r : Int) = some (longN r : Int) := by rw [Mr, Bc7 h]
theorem Aux {r n : Nat} (h1 : 1 ≤ r) (h : r ≤ 1048576) (n1 : 1 ≤ n) (n2 : n ≤ 4000) : Wo (r : Int) (n : Int) = some (if 1000 < (n - 1) / longN r + 1 then (0, 4) else ((((n - 1) / longN r + 1 : Nat) : Int), 0)) := by
 have hp := Aic r
 have hl := Aua h
 have e : Bo (Al (Ae (n : Int) (longN r : Int)) (1 : Int)) (longN r : Int) = (((n - 1) / longN r + 1 : Nat) : Int) := by
  have : (n + longN r - 1) / longN r ≤ n + longN r - 1 := Nat.div_le_self _ _
  rw [Ag (by omega) (by omega), Bl (by omega) (by omega), Adr, Int.tdiv_eq_ediv_of_nonneg (by omega), show (n : Int) + (longN r : Int) - 1 = ((n + longN r - 1 : Nat) : Int) by omega, ← Int.natCast_ediv, Ao2 hp n1]
  rw [Ao2 hp n1] at this
  generalize (n - 1) / longN r = k at *
  exact Bw (by omega) (by omega)
 rw [Wo, Axx h1 h, Aa]
 simp only
 rw [if_neg (by rw [Am]; simp), if_neg (by simp [Af, Bc]; omega), Bz (by rw [Am]; simp; omega), Aa, e]
 by_cases hk : 1000 < (n - 1) / longN r + 1
 ·rw [if_pos (by rw [Bc]; simp; omega), if_pos hk]
 ·rw [if_neg (by rw [Bc]; simp; omega), if_neg hk]
theorem At2 {r : Nat} (h : r ≤ 1048576) : ∀ (j n q : Nat) (acc : List Int), n ≤ 4000 → n ≤ j → j < q → acc.length + n ≤ 10000 → Dh (r : Int) q (n : Int) acc = some (acc ++ (if n = 0 then [] else framesL (longN r) n))
 | 0, n, q + 1, acc, hn, hj, hq, ha => by
  obtain rfl : n = 0 := by omega
  rw [Dh, Fj, if_neg (by rw [Bc]; simp)]
  simp [Hj, Ku]
 | j + 1, n, q + 1, acc, hn, hj, hq, ha => by
  have hp := Aic r
  have hl := Aua h
  by_cases h0 : n = 0
  ·subst h0
   rw [Dh, Fj, if_neg (by rw [Bc]; simp)]
   simp [Hj, Ku]
  ·rw [Dh, Fj, if_pos (by rw [Bc]; simp; omega), Bjp h, Aa, Dp (by simp; omega), Aa, Aa, Bl (by omega) (by omega), Ahg]
   by_cases hs : n ≤ longN r
   ·rw [show min (n : Int) (longN r : Int) = (n : Int) by omega, if_neg h0, Awr hs (by omega)]
    have hz : ∃ k, q = k + 1 := ⟨q - 1, by omega⟩
    obtain ⟨q, rfl⟩ := hz
    rw [Dh, Fj, if_neg (by rw [Bc]; simp; omega)]
    simp [Hj, Ku]
   ·rw [show min (n : Int) (longN r : Int) = (longN r : Int) by omega, show (n : Int) - (longN r : Int) = ((n - longN r : Nat) : Int) by omega, At2 h j (n - longN r) q _ (by omega) (by omega) (by omega) (by simp; omega), if_neg (by omega), if_neg h0, Bde hp (show longN r < n by omega)]
    simp
theorem Apq {r n : Nat} (h : r ≤ 1048576) (n1 : 1 ≤ n) (n2 : n ≤ 4000) : Es (r : Int) (n : Int) = some (framesL (longN r) n) := by
 have := At2 h n n Ba [] n2 (Nat.le_refl _) (by have := Aq; omega) (by simp; omega)
 rw [Es, Rk, Sj, this, if_neg (by omega)]; rfl
theorem mul_one (m : Nat) (h : m ≤ 100000) : Acf (1 : UInt64) (UInt64.ofNat m) = some (0, UInt64.ofNat m) := by
 have y1 : (UInt64.ofNat m).toNat = m := Agv (by omega)
 have s1 : Cq (1 : UInt64) (GI.toZ (32 : UInt64)).toNat = 0 := by decide
 have s2 : Cq (UInt64.ofNat m) (GI.toZ (32 : UInt64)).toNat = 0 := by
  apply UInt64.toNat_inj.1
  rw [Ada, y1]
  exact Nat.div_eq_of_lt (Nat.lt_of_le_of_lt h (by decide))
 have s0 : Cq (0 : UInt64) (GI.toZ (32 : UInt64)).toNat = 0 := by decide
 have a1 : Hr (1 : UInt64) (4294967295 : UInt64) = 1 := by decide
 have a0 : Hr (0 : UInt64) (4294967295 : UInt64) = 0 := by decide
 have a2 : Hr (UInt64.ofNat m) (4294967295 : UInt64) = UInt64.ofNat m := by
  apply UInt64.toNat_inj.1
  rw [Atb, UInt64.toNat_and, y1]
  show m &&& (2 ^ 32 - 1) = m
  rw [Nat.and_two_pow_sub_one_eq_mod, Nat.mod_eq_of_lt (by omega)]
 have m1 : ∀ x : UInt64, Bi 1 x = x := fun x => by rw [Ac5, UInt64.one_mul]
 have m0 : ∀ x : UInt64, Bi 0 x = 0 := fun x => by rw [Ac5, UInt64.zero_mul]
 have p0 : ∀ x : UInt64, Ae 0 x = x := fun x => by rw [Adc, UInt64.zero_add]
 have p1 : ∀ x : UInt64, Ae x 0 = x := fun x => by rw [Adc, UInt64.add_zero]
 rw [Acf, Adx]
 simp only [s1, s2, a1, a2, m1, m0, p0, p1, s0, a0, Aa]
theorem Ar5 (v : Int) (m : Nat) (hm : m ≤ 100000) : ∀ (j n q : Nat), 1 ≤ n → n ≤ m → m - n ≤ j → j < q → Dz q (n : Int) (List.replicate n v ++ List.replicate (m - n) 0) = some (List.replicate m v)
 | j, n, q + 1, hn, hnm, hj, hq => by
  have hlen : Ac (List.replicate n v ++ List.replicate (m - n) 0) = (m : Int) := by simp [Ac]; omega
  rw [Dz, Ft, hlen]
  by_cases h : n < m
  ·obtain ⟨j, rfl⟩ : ∃ k, j = k + 1 := ⟨j - 1, by omega⟩
   rw [if_pos (by rw [Af]; simp; omega)]
   have v1 : vwI (m : Int) (n : Int) (m : Int) = some () := by rw [vwI, Bz]; simp; omega
   have v2 : vwI (m : Int) (0 : Int) (n : Int) = some () := by rw [vwI, Bz]; simp; omega
   have e1 : Aiq (List.replicate n v ++ List.replicate (m - n) 0) (0 : Int) ((n : Int) - 0) = List.replicate n v := by
    simp [Aiq]
   rw [v1, Aa, v2, Aa, e1]
   have e2 : Afn ((m : Int) - (n : Int)) (List.replicate n v).length = ((min n (m - n) : Nat) : Int) := by
    rw [Afn, List.length_replicate]; split <;> omega
   have e3 : Sg (List.replicate n v ++ List.replicate (m - n) 0) (n : Int) ((m : Int) - (n : Int)) (List.replicate n v) = List.replicate (n + min n (m - n)) v ++ List.replicate (m - (n + min n (m - n))) 0 := by
    have t1 : ((m : Int) - (n : Int)).toNat = m - n := by omega
    have t2 : (List.replicate n v ++ List.replicate (m - n) (0 : Int)).take n = List.replicate n v := by simp
    rw [Sg, t1, Int.toNat_natCast, t2, List.take_replicate, List.length_replicate, ← List.append_assoc, List.replicate_append_replicate, List.drop_append, List.length_replicate, Nat.min_comm (m - n) n]
    simp only [List.drop_replicate]
    rw [show n - (n + min n (m - n)) = 0 by omega, List.replicate_zero, List.nil_append, show m - n - (n + min n (m - n) - n) = m - (n + min n (m - n)) by omega]
   rw [e2, e3, Ag (by omega) (by omega), show (n : Int) + ((min n (m - n) : Nat) : Int) = ((n + min n (m - n) : Nat) : Int) by omega]
   exact Ar5 v m hm j (n + min n (m - n)) q (by omega) (by omega) (by omega) (by omega)
  ·rw [if_neg (by rw [Af]; simp; omega)]
   obtain rfl : n = m := by omega
   simp [He, Lt]
theorem Bi5 (v : Int) (m : Nat) (hm : m ≤ 100000) : Lk [v] (m : Int) = some (List.replicate m v) := by
 have y1 : (UInt64.ofNat m).toNat = m := Agv (by omega)
 have c1 : (Ad (Ac [v]) : UInt64) = 1 := by rfl
 have c2 : (Ad (m : Int) : UInt64) = UInt64.ofNat m := Yb m
 have c3 : (Ad (UInt64.ofNat m) : Int) = (m : Int) := by rw [Aqh (by omega), y1]
 rw [Lk, Nh, if_neg (by rw [Af]; simp), Nb, Mv, c1, c2, mul_one m hm, Aa]
 simp only
 rw [if_neg (by rw [Agu, Agu, y1]; simp; show m ≤ 9223372036854775807; omega), Ni, My, c3, Avf (by omega) (by omega), Aa, Bz (by rw [Ca]; simp), Aa, Ng, Int.toNat_natCast]
 by_cases h0 : m = 0
 ·subst h0
  have hF : Ba = (Ba - 1) + 1 := by have := Aq; omega
  rw [hF, Dz, Ft]
  simp [Ac, Awh, Afn, Af, He, Lt]
 ·have := Ar5 v m hm m 1 Ba (by omega) (by omega) (by omega) (by have := Aq; omega)
  have e1 : Afn (Ac (List.replicate m (0 : Int))) [v].length = ((1 : Nat) : Int) := by simp [Afn, Ac]; omega
  have e2 : Awh (List.replicate m (0 : Int)) [v] = List.replicate 1 v ++ List.replicate (m - 1) 0 := by
   obtain ⟨k, rfl⟩ : ∃ k, m = k + 1 := ⟨m - 1, by omega⟩
   simp [Awh]
  rw [e1, e2, this]
theorem Bir (l m : List Int) (h : l.length + m.length ≤ 1000000) : Lf [l, m] = some (l ++ m) := by
 have hF : Ba = (Ba - 3) + 1 + 1 + 1 := by have := Aq; omega
 rw [Lf, Mz, Mx]
 have g0 : getI [l, m] (0 : Int) = some l := rfl
 have g1 : getI [l, m] (1 : Int) = some m := rfl
 have l2 : Ac [l, m] = 2 := rfl
 have h3 : Hg [l, m] [] = some (l ++ m) := by
  rw [Hg, Lo, Ll, hF, Dt, Fe, l2, if_pos (by decide), g0, Aa, Dp (by simp; omega), Aa, List.nil_append, show Ae (0 : Int) 1 = 1 by decide,
   Dt, Fe, l2, if_pos (by decide), g1, Aa, Dp (by omega), Aa, show Ae (1 : Int) 1 = 2 by decide, Dt, Fe, l2, if_neg (by decide)]
  rfl
 rw [hF, Dy, Fw, l2, if_pos (by decide), g0, Aa, Ag (by unfold Ac; omega) (by unfold Ac; omega), if_neg (by rw [Af, Ac]; simp), show Ae (0 : Int) 1 = 1 by decide,
  Dy, Fw, l2, if_pos (by decide), g1, Aa, Ag (by unfold Ac; omega) (by unfold Ac; omega), if_neg (by rw [Af, Ac, Ac]; simp; omega), show Ae (1 : Int) 1 = 2 by decide,
  Dy, Fw, l2, if_neg (by decide), Lr, Ln, if_neg (by rw [Af, Ac, Ac]; simp; omega), Ls, Lm]
 have z : Al (0 : Int) 0 = 0 := by decide
 have n0 : (0 : Int) + Ac l + Ac m = ((l.length + m.length : Nat) : Int) := by simp [Ac]
 rw [z, n0, Bl (by omega) (by omega), Int.sub_zero]
 by_cases hp : 0 < l.length + m.length
 ·rw [if_pos (by rw [Bc]; simp; omega), show vwI (0 : Int) 0 0 = some () from rfl, Aa, Avf (by omega) (by omega), Aa, Dp (by simp; omega), Aa]
  rw [show vwI (Ac ([] ++ List.replicate ((l.length + m.length : Nat) : Int).toNat (0 : Int))) 0 0 = some () by rw [vwI, Bz]; simp [Ac]; omega, Aa]
  simp only [Aiq, Int.sub_self, Int.toNat_zero, List.take_zero]
  exact h3
 ·rw [if_neg (by rw [Bc]; simp; omega)]; exact h3
theorem Bjs {r n : Nat} (h1 : 1 ≤ r) (h : r ≤ 1048576) (n1 : 1 ≤ n) (n2 : n ≤ 4000) (hk : (n - 1) / longN r + 1 ≤ 1000) : Ag2 (r : Int) (n : Int) = some (framesL (longN r) n, 0) := by
 have hp := Aic r
 have hl := Aua h
 have hd := Nat.div_mul_le_self (n - 1) (longN r)
 rw [Ag2, Aux h1 h n1 n2, if_neg (by omega), Aa]
 simp only
 rw [if_neg (by rw [Am]; simp), Axx h1 h, Aa]
 simp only
 rw [framesL]
 generalize (n - 1) / longN r = k at *
 have e1 : Al ((k + 1 : Nat) : Int) 1 = (k : Int) := by rw [Bl (by omega) (by omega)]; omega
 have e2 : (k : Int) * (longN r : Int) = ((k * longN r : Nat) : Int) := by simp
 rw [e1, Bi5 _ _ (by omega), Aa, Hc (by rw [e2]; omega) (by rw [e2]; omega), e2, Bl (by omega) (by omega), Agq, Bir _ _ (by simp; omega), Aa, Aa, show (n : Int) - ((k * longN r : Nat) : Int) = ((n - k * longN r : Nat) : Int) by omega]
end Go.Pl
set_option linter.unusedVariables false
set_option linter.unusedSimpArgs false
namespace Go.Pl
open Go Go.Lv
def shapeB (f c w r n : Nat) : Bool := decide ((f = 1 ∨ f = 2) ∧ (1 ≤ c ∧ c ≤ 6) ∧ (w = 8 ∨ w = 16 ∨ w = 24) ∧ (1 ≤ r ∧ r ≤ 1048576) ∧ 1 ≤ n)
def fitB (c r n : Nat) : Bool := decide (n ≤ 4000 / c ∧ (n - 1) / longN r + 1 ≤ 1000)
theorem Ary (f c w r n : Nat) : We (f : Int) (c : Int) (w : Int) (r : Int) (n : Int) = some (shapeB f c w r n) := by
 have e2 : Uy (f : Int) (c : Int) (w : Int) (r : Int) (n : Int) = some (decide ((f = 1 ∨ f = 2) ∧ (1 ≤ c ∧ c ≤ 6) ∧ (1 ≤ r ∧ r ≤ 1048576) ∧ 1 ≤ n)) := by
  rw [Uy, Aie]
  congr 1
  rw [Bool.eq_iff_iff]
  simp only [Ca, Bc, Aya, Bool.and_eq_true, Bool.or_eq_true, beq_iff_eq, decide_eq_true_eq]
  omega
 have g : ∀ k : Nat, geq (w : Int) (k : Int) = decide (w = k) := fun k => by rw [Ca, Bool.eq_iff_iff]; simp; omega
 have g8 : geq (w : Int) (8 : Int) = decide (w = 8) := g 8
 have g16 : geq (w : Int) (16 : Int) = decide (w = 16) := g 16
 have g24 : geq (w : Int) (24 : Int) = decide (w = 24) := g 24
 rw [We, Abm, e2, g8, g16, g24, shapeB]
 by_cases h8 : w = 8
 ·subst h8; simp
 ·by_cases h16 : w = 16
  ·subst h16; simp
  ·by_cases h24 : w = 24
   ·subst h24; simp
   ·simp [h8, h16, h24]
theorem Bef (f c w r n : Nat) : Oa (f : Int) (c : Int) (w : Int) (r : Int) (n : Int) = some (shapeB f c w r n) := by
 rw [Oa, shapeB]
 simp only [Ca, Dl, Aya, Bool.and_eq_true, Bool.or_eq_true, beq_iff_eq, decide_eq_true_eq, Bool.false_and]
 split
 ·rename_i h
  congr 1
  rw [Bool.eq_iff_iff]
  simp only [Bool.and_eq_true, Bool.or_eq_true, beq_iff_eq, decide_eq_true_eq]
  omega
 ·rename_i h
  congr 1
  symm
  rw [decide_eq_false_iff_not]
  omega
theorem Bpa {c : Nat} (h : 1 ≤ c) : Bo (4000 : Int) (c : Int) = ((4000 / c : Nat) : Int) := by
 have : 4000 / c ≤ 4000 := Nat.div_le_self _ _
 rw [Adr, Int.tdiv_eq_ediv_of_nonneg (by omega), show (4000 : Int) = ((4000 : Nat) : Int) from rfl, ← Int.natCast_ediv]
 generalize 4000 / c = k at *
 exact Bw (by omega) (by omega)
theorem Axh {f c w r n : Nat} (h : shapeB f c w r n = true) : Ac0 (f : Int) (c : Int) (w : Int) (r : Int) (n : Int) = some (fitB c r n) := by
 simp only [shapeB, decide_eq_true_eq] at h
 have hd : 4000 / c ≤ 4000 := Nat.div_le_self _ _
 rw [Ac0, Bz (by rw [Am]; simp; omega), Aa, Bpa (by omega), fitB]
 generalize 4000 / c = m at *
 by_cases h1 : n ≤ m
 ·rw [if_neg (by rw [Bc]; simp; omega), Aux (by omega) (by omega) (by omega) (by omega), Aa]
  generalize (n - 1) / longN r + 1 = k
  by_cases h2 : 1000 < k
  ·rw [if_pos h2]
   simp [Ca, Aya]
   omega
  ·rw [if_neg h2]
   simp [Ca, Aya, h1]
   omega
 ·rw [if_pos (by rw [Bc]; simp; omega)]
  simp [h1]
theorem Bku {f c w r n : Nat} (h : shapeB f c w r n = true) : Ir (f : Int) (c : Int) (w : Int) (r : Int) (n : Int) = some (!fitB c r n) := by
 simp only [shapeB, decide_eq_true_eq] at h
 have hd : 4000 / c ≤ 4000 := Nat.div_le_self _ _
 rw [Ir, Bz (by rw [Am]; simp; omega), Aa, Bpa (by omega), fitB]
 generalize 4000 / c = m at *
 by_cases h1 : n ≤ m
 ·rw [if_neg (by rw [Bc]; simp; omega), Apq (by omega) (by omega) (by omega), Aa, Ac, Bcv]
  generalize (n - 1) / longN r + 1 = k
  congr 1
  rw [Bc, Bool.eq_iff_iff]
  simp only [decide_eq_true_eq, Bool.not_eq_true', decide_eq_false_iff_not]
  omega
 ·rw [if_pos (by rw [Bc]; simp; omega)]
  simp [h1]
def Ars : List UInt8 := [84, 84, 65, 49]
def f0 (b : List UInt8) : Nat := Eg (part b 4 2)
def f1 (b : List UInt8) : Nat := Eg (part b 6 2)
def f2 (b : List UInt8) : Nat := Eg (part b 8 2)
def f3 (b : List UInt8) : Nat := Eg (part b 10 4)
def f4 (b : List UInt8) : Nat := Eg (part b 14 4)
abbrev H6 := Int × Int × Int × Int × Int × Int
def Aak (b : List UInt8) : H6 :=
 if b.take (min 4 b.length) ≠ Ars.take (min 4 b.length) then (0, 0, 0, 0, 0, 12) else if b.length < 22 then (0, 0, 0, 0, 0, 24) else
 if (Gs (b.take 18)).toNat ≠ Eg (part b 18 4) then (0, 0, 0, 0, 0, 22) else
 if shapeB (f0 b) (f1 b) (f2 b) (f3 b) (f4 b) = false then (0, 0, 0, 0, 0, 12) else
 if fitB (f1 b) (f3 b) (f4 b) = false then (0, 0, 0, 0, 0, 4) else ((f0 b : Int), (f1 b : Int), (f2 b : Int), (f3 b : Int), (f4 b : Int), 0)
section
variable {b : List UInt8}
theorem rs1 (h : b.take (min 4 b.length) ≠ Ars.take (min 4 b.length)) : Aak b = (0, 0, 0, 0, 0, 12) := by rw [Aak, if_pos h]
variable (h : b.take (min 4 b.length) = Ars.take (min 4 b.length))
include h
theorem rs2 (h2 : b.length < 22) : Aak b = (0, 0, 0, 0, 0, 24) := by rw [Aak, if_neg (fun e => e h), if_pos h2]
variable (h2 : ¬ b.length < 22)
include h2
theorem rs3 (h3 : (Gs (b.take 18)).toNat ≠ Eg (part b 18 4)) : Aak b = (0, 0, 0, 0, 0, 22) := by rw [Aak, if_neg (fun e => e h), if_neg h2, if_pos h3]
variable (h3 : (Gs (b.take 18)).toNat = Eg (part b 18 4))
include h3
theorem rs4 (h4 : shapeB (f0 b) (f1 b) (f2 b) (f3 b) (f4 b) = false) : Aak b = (0, 0, 0, 0, 0, 12) := by rw [Aak, if_neg (fun e => e h), if_neg h2, if_neg (fun e => e h3), if_pos h4]
variable (h4 : shapeB (f0 b) (f1 b) (f2 b) (f3 b) (f4 b) = true)
include h4
theorem rs5 (h5 : fitB (f1 b) (f3 b) (f4 b) = false) : Aak b = (0, 0, 0, 0, 0, 4) := by rw [Aak, if_neg (fun e => e h), if_neg h2, if_neg (fun e => e h3), if_neg (by rw [h4]; simp), if_pos h5]
theorem rs6 (h5 : fitB (f1 b) (f3 b) (f4 b) = true) : Aak b = ((f0 b : Int), (f1 b : Int), (f2 b : Int), (f3 b : Int), (f4 b : Int), 0) := by rw [Aak, if_neg (fun e => e h), if_neg h2, if_neg (fun e => e h3), if_neg (by rw [h4]; simp), if_neg (by rw [h5]; simp)]
end
theorem Bjx (b : List UInt8) (h2 : ¬ b.length < 22) : Cu (Ad (Gs (b.take 18)) : UInt64) (leU (part b 18 4)) = decide ((Gs (b.take 18)).toNat ≠ Eg (part b 18 4)) := by
 rw [Aer, Gy, Bool.eq_iff_iff]
 simp only [bne_iff_ne, ne_eq, decide_eq_true_eq]
 rw [← UInt64.toNat_inj, Agv (by have := (Gs (b.take 18)).toNat_lt; omega), Ag7 (by rw [Dd (by omega)]; omega)]
theorem Als (b : List UInt8) (a w : Nat) (i q : Nat) (l : List Int) (hi : i < 5) (hl : l.length = 5) (hw : getI ([2, 2, 2, 4, 4] : List Int) (i : Int) = some (w : Int)) (h1 : 1 ≤ w) (h4 : w ≤ 4) (ha : a + w ≤ b.length) (hb : b.length < 4611686018427387904) :
  Km b (q + 1) (a : Int) (i : Int) l = Km b q ((a + w : Nat) : Int) ((i + 1 : Nat) : Int) (l.set i (Eg (part b a w) : Int)) := by
 rw [Km, Zv, if_pos (by rw [Af]; simp; omega), hw, Aa, Ayk b a w h1 (by omega) ha hb, Aa]
 simp only
 rw [Df (by omega), Aa, Vp _ (by omega), Aa, Acl (by rw [Dd ha]; omega), Ag (by omega) (by omega), Ag (by omega) (by omega)]
 rfl
theorem Bl4 (b : List UInt8) (h22 : ¬ b.length < 22) (hb : b.length < 4611686018427387904) : Aah b 4 0 (List.replicate 5 0) = Yx [(f0 b : Int), (f1 b : Int), (f2 b : Int), (f3 b : Int), (f4 b : Int)] := by
 have hF : Ba = (Ba - 6) + 1 + 1 + 1 + 1 + 1 + 1 := by have := Aq; omega
 rw [Aah, hF, show (4 : Int) = ((4 : Nat) : Int) from rfl, show (0 : Int) = ((0 : Nat) : Int) from rfl]
 rw [Als b 4 2 0 _ _ (by omega) (by simp) rfl (by omega) (by omega) (by omega) hb, Als b 6 2 1 _ _ (by omega) (by simp) rfl (by omega) (by omega) (by omega) hb, Als b 8 2 2 _ _ (by omega) (by simp) rfl (by omega) (by omega) (by omega) hb,
  Als b 10 4 3 _ _ (by omega) (by simp) rfl (by omega) (by omega) (by omega) hb, Als b 14 4 4 _ _ (by omega) (by simp) rfl (by omega) (by omega) (by omega) hb, Km, Zv, if_neg (by rw [Af]; simp)]
 rfl
theorem Bsv (b : List UInt8) : Tj [84, 84, 65, 49] (b.take (min 4 b.length)) = some (decide (b.take (min 4 b.length) = Ars.take (min 4 b.length))) := by
 have hl : (b.take (min 4 b.length)).length = min 4 b.length := by rw [List.length_take]; omega
 rw [Tj, Hq, if_pos (by rw [Dl, Ac, Ac, hl]; simp; omega), Ac, hl, Mb (by omega) (by simp; omega), Aa, Aa, Int.toNat_natCast]
 congr 1
 rw [Bool.eq_iff_iff]
 rw [decide_eq_true_eq, beq_iff_eq]
 exact eq_comm
theorem Br8 (b : List UInt8) : Gg (4 : Int) (Ac b) = ((min 4 b.length : Nat) : Int) := by rw [Ahg, Ac]; omega
theorem Bib (b : List UInt8) (hb : b.length < 4611686018427387904) : Ag9 b = some (Aak b) := by
 rw [Ag9, Afo, Br8, Mb (by omega) (by omega), Aa, Int.toNat_natCast, Bsv, Aa]
 by_cases h : b.take (min 4 b.length) = Ars.take (min 4 b.length)
 ·rw [if_neg (by simpa using h)]
  by_cases h2 : b.length < 22
  ·rw [if_pos (by rw [Af, Ac]; simp; omega), rs2 h h2]
  ·have a1 : Aif b 18 4 = some (leU (part b 18 4), 0) := Ayk b 18 4 (by omega) (by omega) (by omega) hb
   rw [if_neg (by rw [Af, Ac]; simp; omega), a1, Aa]
   simp only
   rw [Mb (by omega) (by omega), Aa, show (18 : Int).toNat = 18 from rfl, Bem _ (by simp; omega), Aa]
   simp only
   rw [Bjx b h2]
   by_cases h3 : (Gs (b.take 18)).toNat = Eg (part b 18 4)
   ·rw [if_neg (by simpa using h3), Bl4 b h2 hb, Yx, Ala]
    rw [show getI [(f0 b : Int), (f1 b : Int), (f2 b : Int), (f3 b : Int), (f4 b : Int)] 0 = some (f0 b : Int) from rfl, show getI [(f0 b : Int), (f1 b : Int), (f2 b : Int), (f3 b : Int), (f4 b : Int)] 1 = some (f1 b : Int) from rfl, show getI [(f0 b : Int), (f1 b : Int), (f2 b : Int), (f3 b : Int), (f4 b : Int)] 2 = some (f2 b : Int) from rfl,
     show getI [(f0 b : Int), (f1 b : Int), (f2 b : Int), (f3 b : Int), (f4 b : Int)] 3 = some (f3 b : Int) from rfl, show getI [(f0 b : Int), (f1 b : Int), (f2 b : Int), (f3 b : Int), (f4 b : Int)] 4 = some (f4 b : Int) from rfl]
    simp only [Aa, Ary]
    cases h4 : shapeB (f0 b) (f1 b) (f2 b) (f3 b) (f4 b) with
    | false => rw [rs4 h h2 h3 h4]; rfl
    | true =>
     rw [Axh h4, if_neg (by simp), Aa]
     cases h5 : fitB (f1 b) (f3 b) (f4 b) with
     | false => rw [rs5 h h2 h3 h4 h5]; rfl
     | true => rw [rs6 h h2 h3 h4 h5]; rfl
   ·rw [if_pos (by simpa using h3), rs3 h h2 h3]
 ·rw [if_pos (by simpa using h), rs1 h]
theorem Bj4 (b : List UInt8) (hb : b.length < 4611686018427387904) : Tk b = some (Aak b) := by
 rw [Tk, Ur, Br8, Mb (by omega) (by omega), Aa, Int.toNat_natCast, Mb (by omega) (by simp; omega), Aa, Int.toNat_natCast]
 by_cases h : b.take (min 4 b.length) = Ars.take (min 4 b.length)
 ·rw [if_neg (by rw [h]; simp [Ars]), Tz, Uc]
  by_cases h2 : b.length < 22
  ·rw [if_pos (by rw [Af, Ac]; simp; omega), rs2 h h2]
  ·have a1 : Db b 18 22 = some (part b 18 4) := Mq 18 4 (by omega)
   have c1 : Db b 4 6 = some (part b 4 2) := Mq 4 2 (by omega)
   have c2 : Db b 6 8 = some (part b 6 2) := Mq 6 2 (by omega)
   have c3 : Db b 8 10 = some (part b 8 2) := Mq 8 2 (by omega)
   have c4 : Db b 10 14 = some (part b 10 4) := Mq 10 4 (by omega)
   have c5 : Db b 14 18 = some (part b 14 4) := Mq 14 4 (by omega)
   have hs : Cu (leU (part b 18 4)) (Ad (Gs (b.take 18)) : UInt64) = decide ((Gs (b.take 18)).toNat ≠ Eg (part b 18 4)) := by
    rw [← Bjx b h2, Aer, Aer, Bool.eq_iff_iff]; simp only [bne_iff_ne, ne_eq]; exact not_congr eq_comm
   have lp : ∀ a w, a + w ≤ b.length → Aj (part b a w) = some (leU (part b a w)) := fun a w h => Bbs _ (by rw [Dd h]; omega)
   rw [if_neg (by rw [Af, Ac]; simp; omega), a1, Aa, Mb (by omega) (by omega), Aa, show (18 : Int).toNat = 18 from rfl, lp _ _ (by omega), Aa, Bjy _ (by simp; omega), Aa, hs]
   by_cases h3 : (Gs (b.take 18)).toNat = Eg (part b 18 4)
   ·rw [if_neg (by simpa using h3), Tp, Ml, c1, Aa, c2, Aa, c3, Aa, c4, Aa, c5, Aa, lp _ _ (by omega), Aa, lp _ _ (by omega), Aa, lp _ _ (by omega), Aa, lp _ _ (by omega), Aa, lp _ _ (by omega), Aa,
     Up, Ac4, Acl (by rw [Dd (by omega)]; omega), Acl (by rw [Dd (by omega)]; omega), Acl (by rw [Dd (by omega)]; omega), Acl (by rw [Dd (by omega)]; omega), Acl (by rw [Dd (by omega)]; omega)]
    rw [show Eg (part b 4 2) = f0 b from rfl, show Eg (part b 6 2) = f1 b from rfl, show Eg (part b 8 2) = f2 b from rfl, show Eg (part b 10 4) = f3 b from rfl, show Eg (part b 14 4) = f4 b from rfl, Bef, Aa]
    cases h4 : shapeB (f0 b) (f1 b) (f2 b) (f3 b) (f4 b) with
    | false => rw [rs4 h h2 h3 h4]; rfl
    | true =>
     rw [Bku h4, if_neg (by simp), Aa]
     cases h5 : fitB (f1 b) (f3 b) (f4 b) with
     | false => rw [rs5 h h2 h3 h4 h5]; rfl
     | true => rw [rs6 h h2 h3 h4 h5]; rfl
   ·rw [if_pos (by simpa using h3), rs3 h h2 h3]
 ·rw [if_pos (by simpa [Ars] using h), rs1 h]
theorem Bll {b : List UInt8} (h : (Aak b).2.2.2.2.2 = 0) : Aak b = ((f0 b : Int), (f1 b : Int), (f2 b : Int), (f3 b : Int), (f4 b : Int), 0) ∧ 22 ≤ b.length ∧ shapeB (f0 b) (f1 b) (f2 b) (f3 b) (f4 b) = true ∧ fitB (f1 b) (f3 b) (f4 b) = true := by
 unfold Aak at h ⊢
 split at h; · simp at h
 rename_i c1; rw [if_neg c1]
 split at h; · simp at h
 rename_i c2; rw [if_neg c2]
 split at h; · simp at h
 rename_i c3; rw [if_neg c3]
 split at h; · simp at h
 rename_i c4; rw [if_neg c4]
 split at h; · simp at h
 rename_i c5; rw [if_neg c5]
 exact ⟨rfl, by omega, by simpa using c4, by simpa using c5⟩
theorem Alj {f c w r n : Nat} (h : shapeB f c w r n = true) (h2 : fitB c r n = true) : Rf (f : Int) (c : Int) (w : Int) (r : Int) (n : Int) = some (framesL (longN r) n, 0) := by
 have hc : Aet (f : Int) (c : Int) (w : Int) (r : Int) (n : Int) = some 0 := by
  rw [Aet, Ary, Aa, h, if_neg (by simp), Axh h, Aa, h2]; rfl
 have hd : 4000 / c ≤ 4000 := Nat.div_le_self _ _
 simp only [shapeB, decide_eq_true_eq] at h
 simp only [fitB, decide_eq_true_eq] at h2
 rw [Rf, hc, Aa, if_neg (by rw [Am]; simp), Bjs (by omega) (by omega) (by omega) (by omega) h2.2]
 rfl
end Go.Pl
